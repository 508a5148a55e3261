/- Values and rows of numbers compared with themselves, by the specification; Conjunctive queries compared with themselves, by the specification; Plans c. Conditions: each part's own, as it says. -/
import Derived.Test.YtndgolmgaenlfaaGreatDoorMB
import Derived.Test.YtndgolmgaenlfaaGreatDoorFB
import Derived.Test.YtndgolmgaenlfaaGreatDoorPA
import Derived.Test.YtndgolmgaenlfaaGreatDoorCB
import Derived.Test.YtndgolmgaenlfaaGreatDoorCA
import Derived.Test.YtndgolmgaenlfaaGreatDoorGC
import Derived.Test.YtndgolmgaenlfaaGreatDoorHC
import Derived.Test.YtndgolmgaenlfaaGreatDoorPB
import Derived.Test.YtndgolmgaenlfaaGreatDoorTA
set_option linter.unusedVariables false
set_option linter.unusedSimpArgs false
namespace Go.Proofs.YtndgolmgaenlfaaGreatDoor
set_option maxRecDepth 4000
open Go Go.Abs Go.Val Go.RowKit Go.Proofs.Tryz
attribute [local irreducible] go SGo an9 Ev aw1 EvO
theorem ft1:∀l:List UInt8,Op.bytesLess l l=false
 |[]=>rfl
 |a::r=>by
  have:=ft1 r;simp[Op.bytesLess,this]
theorem csY(s:ByteArray):cs s s=0:=by unfold cs;rw[ft1,beq_self_eq_true];rfl
theorem ft2(a:V):ci4 a a 0=0:=by unfold ci4;rw[ch8,ch8,ch8,csY];rfl
theorem ft3:∀a:V,ci6 a a=0:=by
 refine vind (P:=fun a=>ci6 a a=0) (fun k n d s l ih=>?_)
 have hl:ci1 ci6 l l=0:=by
  induction l with
  |nil=>rfl
  |cons x r ihr=>rw[ci1,ih x Oc,ihr fun y hy=>ih y (by simp[hy])];rfl
 rw[ci9];show ci5 (.mk k n d s l) (.mk k n d s l) (ci1 ci6 l l)=0;rw[hl];generalize V.mk k n d s l=a;unfold ci5;rw[bne_self_eq_false,cond_false]
 cases Val.okV a with
 |false=>exact ft2 a
 |true=>
  rw[gg0,cond_false,ch8]
  cases br0 a with
  |false=>exact ft2 a
  |true=>
   show ce8 (br1 a) (br2 a) (br1 a) (br2 a)=0;unfold ce8;rw[Int.sub_self];rfl
open Go.Proofs
attribute [local irreducible] EvS PGo RGo ci6
end Go.Proofs.YtndgolmgaenlfaaGreatDoor
namespace Go.Proofs.YtndgolmgaenlfaaGreatDoor
set_option maxRecDepth 4000
open Go Go.Abs Go.Val Go.RowKit Go.Proofs.Tryz
attribute [local irreducible] go SGo an9 Ev aw1 EvO EvS RGo RGw PGo ci6
theorem ft4{n j:Nat}{y:aa5}(h:y.refs=[]):∀o∈y.refs,o<n∧o≠j:=fun o ho=>by rw[h]at ho;cases ho
theorem ft5{b:Bool}{x y:aa5}(hx:x.refs=[])(hy:y.refs=[]):(bif b then x else y).refs=[]:=by cases b<;>assumption
theorem ft6{C:Cx}{r:List It}{s:St}{Q:Exit→St→Prop}(id:Nat){l:Array Oper}{d:Bool}(h:dx3 (go C (.code (.region id l d)::r) s Q)):go C (.code (.region id l d)::r) s Q:=h.h
abbrev oY(t:TypeId)(d:D):aa5:=.var t (.w (.d d))
theorem ft7(a:V):ci6 a a=0:=ft3 a
theorem neY(n:Int):(n !=n)=false:=Oc
theorem nsY(s:ByteArray):(!(s.toList==s.toList))=false:=Oc
abbrev zYN:aa5:=.var 78 (.cs (List.map ab3 te78.zero.cells.toList))
abbrev zYE:aa5:=.var 76 (.cs (List.map ab3 te76.zero.cells.toList))
abbrev oPY(b:PB)(K:List D):aa5:=.var 40 (.w (.d (do7 b K)))
end Go.Proofs.YtndgolmgaenlfaaGreatDoor
namespace Go.Proofs.YtndgolmgaenlfaaGreatDoor
set_option maxRecDepth 4000
open Go Go.Abs Go.Val Go.RowKit Go.Proofs.Tryz
attribute [local irreducible] go SGo an9 Ev aw1 EvO EvS
theorem ft8:∀l:List Ex,fj7 l=l.any fj6
 |[]=>rfl
 |x::r=>by rw[fj7,ge0,ft8 r]
theorem ft9(op:Int)(v:V)(nm:ByteArray)(ds:Bool)(ks:List Ex):fj6 (.mk op v nm ds ks)=((op==1&&(v.k==2&&decide (v.n<0)))||ks.any fj6):=by rw[fj6,ft8]
theorem fu0(e:Ex):Ev E 28 [bz1 e] (.d (.bool (fj6 e))):=by
 refine ca0 (P:=fun e=>Ev E 28 [bz1 e] (.d (.bool (fj6 e)))) (fun op v nm ds ks ih=>Ev.fit fun hfit=>?_) e;have hk:=db0 (.mk op v nm ds ks);simp only[Ex.ks]at hk;have hle:(by9 (.mk op v nm ds ks)).length=ks.length:=by rw[hk];simp
 obtain⟨-,-,-,hmax,-⟩:=bz8 (hfit (bz1 (.mk op v nm ds ks)) Oc);simp only[Ex.ks]at hmax;rw[ft9]
 cases c1:(op==1&&(v.k==2&&decide (v.n<0)))with
 |true=>
  simp only[fz4]at c1;obtain⟨d1,d2,d3⟩:=c1;obtain⟨vk,vn,vd,vs,vl⟩:=v;simp only[V.k,V.n]at d2 d3;refine ye1 func28 ntmps28 fun _ _ _=>?_
  exact Om
 |false=>
  rw[gd0]
  have key:(op==1)=false∨(op==1)=true∧(v.k==2)=false∨(op==1)=true∧(v.k==2)=true∧decide (v.n<0)=false:=by
   cases d1:op==1 with
   |false=>exact .inl rfl
   |true=>
    cases d2:v.k==2 with
    |false=>exact .inr (.inl ⟨rfl,rfl⟩)
    |true=>
     rw[d1,d2]at c1;exact .inr (.inr ⟨rfl,rfl,c1⟩)
  clear c1;have lp:dx3 True:=⟨trivial⟩;obtain⟨vk,vn,vd,vs,vl⟩:=v;simp only[V.k,V.n]at key;rcases key with d1|⟨d1,d2⟩|⟨d1,d2,d3⟩
  all_goals
   refine ye1 func28 ntmps28 fun _ _ _=>?_
   repeat'(first|refine yz ?_|refine yx ?_|(refine yy ?_ ?_<;>intro _)|exact zD|exact zL)
   refine ac8 (α:=SNc ks fj6) (fun p=>⟨[(1,.ptr 0 0),(3,.d (.int p.i))],[.var 33 (.w (.d (bz1 (.mk op (.mk vk vn vd vs vl) nm ds ks))))]⟩) (fun p=>ks.length-p.i) ⟨0,by omega,rfl⟩ (zle 1) ?_;rintro⟨i,hi,ok⟩;dsimp only at ok ⊢;rcases fy5 i ks.length with hlt|hge
   ·have g1:decide ((i:Int)<((by9 (.mk op (.mk vk vn vd vs vl) nm ds ks)).length:Int))=true:=by rw[hle];simpa using hlt
    have hx0:=fy4 hlt;generalize ks[i]=x at hx0;have hx:(by9 (.mk op (.mk vk vn vd vs vl) nm ds ks))[((i:Nat):Int).toNat]? =some (bz1 x):=by rw[hk];exact cz1 (f:=bz1) hx0
    have h:=ih x (fy6 hx0);rw[dt1 hx0]at ok
    cases hc:fj6 x with
    |true=>
     rw[hc]at h ok;rw[ok]
     repeat'(first|refine yz ?_|refine yi (bz1 x) hx ?_|refine yp b28 h ?_|refine yx ?_|(refine yy ?_ ?_<;>intro _)|exact zD|exact zL)
    |false=>
     rw[hc]at h ok
     repeat'(first|refine yz ?_|refine yi (bz1 x) hx ?_|refine yp b28 h ?_|refine yx ?_|(refine yy ?_ ?_<;>intro _)|exact zD|exact zL)
     refine ac2 ?_;exact⟨⟨i+1,by omega,by simpa using ok⟩,by dsimp only;omega,(zle 1)⟩
   ·have g1:decide ((i:Int)<((by9 (.mk op (.mk vk vn vd vs vl) nm ds ks)).length:Int))=false:=by rw[hle];simp;omega
    rw[ok,ga2 hge]
    exact Om
attribute [local irreducible] PGo RGo RGw
def nNk(n:NP):Bool:=n.ps.all fun q=> !fj6 q.e
def nEk(n:EP):Bool:=n.ps.all fun q=> !fj6 q.e
theorem fu1(p:PA):fr6 p= !(p.ns.all nNk&&p.es.all nEk):=by
 unfold fr6 nNk nEk;rw[gb5];simp
set_option maxHeartbeats 4000000 in
theorem fu2(p:PA):Ev E 29 [cu0 p] (.d (.bool (fr6 p))):=Ev.fit fun hfit=>by
 have hf:=(hfit (cu0 p) Oc).aggs;have hfn:=cz2 (hf (.sl (p.ns.map ct8)) (by simp[cu0]));have hfe:=cz2 (hf (.sl (p.es.map ct9)) (by simp[cu0]));have hpn:∀n∈p.ns,n.ps.length≤maxLen:=fun n hn=>(cz2 ((hfn.2 n hn).aggs (.sl (n.ps.map ct7)) (by simp[ct8]))).1
 have hpe:∀n∈p.es,n.ps.length≤maxLen:=fun n hn=>(cz2 ((hfe.2 n hn).aggs (.sl (n.ps.map ct7)) (by simp[ct9]))).1
 have hln:(p.ns.map ct8).length=p.ns.length:=Oc
 have hle:(p.es.map ct9).length=p.es.length:=Oc
 have hnl:p.ns.length≤9223372036854775807:=hfn.1;have hel:p.es.length≤9223372036854775807:=hfe.1;rw[fu1];clear hf hfn hfe hfit;refine ye1 func29 ntmps29 fun _ _ _=>?_
 repeat'(first|refine yz ?_|refine yx ?_|(refine yy ?_ ?_<;>intro _)|exact zD|exact zL)
 refine ac8 (α:=SKp p.ns (nNk)) (fun s=>⟨[(1,.ptr 0 0),(3,.d (.int s.i))],[oPAk p]⟩) (fun s=>p.ns.length-s.i) ⟨0,by omega,rfl⟩ (zle 1) ?_;rintro⟨i,hi,ok⟩;dsimp only;rcases fy5 i p.ns.length with hlt|hge
 ·have g1:decide ((i:Int)<((p.ns.map ct8).length:Int))=true:=by rw[hln];simpa using hlt
  have hx0:=fy4 hlt;generalize p.ns[i]=y at hx0;have hx:=cz1 (f:=ct8) hx0;have hm:=fy6 hx0;have hyl:y.ps.length≤9223372036854775807:=hpn y hm;have hlp:(y.ps.map ct7).length=y.ps.length:=Oc
  repeat'(first|refine yz ?_|refine yx ?_|(refine yy ?_ ?_<;>intro _)|exact zD|exact zL)
  refine ac8 (α:=SKp y.ps fun q=> !fj6 q.e) (fun s=>⟨[(1,.ptr 0 0),(3,.d (.int i)),(4,.d (.int s.i))],[oPAk p]⟩) (fun s=>y.ps.length-s.i) ⟨0,by omega,rfl⟩ (zle 1) ?_;rintro⟨k,hk,okk⟩;dsimp only;rcases fy5 k y.ps.length with hlt2|hge2
  ·have g2:decide ((k:Int)<((y.ps.map ct7).length:Int))=true:=by rw[hlp];simpa using hlt2
   have hq0:=fy4 hlt2;generalize y.ps[k]=q at hq0;have hq:=ej2 hq0;have hqm:=fy6 hq0;have hc:=fu0 q.e
   cases hkn:fj6 q.e with
   |false=>
    rw[hkn]at hc
    repeat'(first|refine yz ?_|refine yi (ct8 y) hx ?_|refine yi (ct7 q) hq ?_|refine yp b28 hc ?_|refine yx ?_|(refine yy ?_ ?_<;>intro _)|exact zD|exact zL)
    refine ac2 ?_;exact⟨⟨k+1,by omega,SKp.next hq0 okk (by rw[hkn];rfl)⟩,by dsimp only;omega,(zle 1)⟩
   |true=>
    rw[hkn]at hc;have hno:p.ns.all (nNk)=false:=ej1 hm (ej1 (f:=fun q:PP=> !fj6 q.e) hqm (by rw[hkn];rfl));rw[hno,ge9,gf3]
    repeat'(first|refine yz ?_|refine yi (ct8 y) hx ?_|refine yi (ct7 q) hq ?_|refine yp b28 hc ?_|refine yx ?_|(refine yy ?_ ?_<;>intro _)|exact zD|exact zL)
  ·have g2:decide ((k:Int)<((y.ps.map ct7).length:Int))=false:=by rw[hlp];simp;omega
   have hfy:nNk y=true:=by rw[ga3 hge2]at okk;exact okk
   repeat'(first|refine yz ?_|refine yi (ct8 y) hx ?_|refine yx ?_|(refine yy ?_ ?_<;>intro _)|exact zD|exact zL)
   refine ac2 ?_;exact⟨⟨i+1,by omega,SKp.next hx0 ok hfy⟩,by dsimp only;omega,(zle 1)⟩
 ·have g1:decide ((i:Int)<((p.ns.map ct8).length:Int))=false:=by rw[hln];simp;omega
  rw[ga3 hge]at ok;rw[ok]
  repeat'(first|refine yz ?_|refine yx ?_|(refine yy ?_ ?_<;>intro _)|exact zD|exact zL)
  rw[gd1];refine ac8 (α:=SKp p.es (nEk)) (fun s=>⟨[(1,.ptr 0 0),(5,.d (.int s.i))],[oPAk p]⟩) (fun s=>p.es.length-s.i) ⟨0,by omega,rfl⟩ (zle 1) ?_;rintro⟨i,hi,ok⟩;dsimp only;rcases fy5 i p.es.length with hlt|hge
  ·have g1:decide ((i:Int)<((p.es.map ct9).length:Int))=true:=by rw[hle];simpa using hlt
   have hx0:=fy4 hlt;generalize p.es[i]=y at hx0;have hx:=cz1 (f:=ct9) hx0;have hm:=fy6 hx0;have hyl:y.ps.length≤9223372036854775807:=hpe y hm;have hlp:(y.ps.map ct7).length=y.ps.length:=Oc
   repeat'(first|refine yz ?_|refine yx ?_|(refine yy ?_ ?_<;>intro _)|exact zD|exact zL)
   refine ac8 (α:=SKp y.ps fun q=> !fj6 q.e) (fun s=>⟨[(1,.ptr 0 0),(5,.d (.int i)),(6,.d (.int s.i))],[oPAk p]⟩) (fun s=>y.ps.length-s.i) ⟨0,by omega,rfl⟩ (zle 1) ?_;rintro⟨k,hk,okk⟩;dsimp only;rcases fy5 k y.ps.length with hlt2|hge2
   ·have g2:decide ((k:Int)<((y.ps.map ct7).length:Int))=true:=by rw[hlp];simpa using hlt2
    have hq0:=fy4 hlt2;generalize y.ps[k]=q at hq0;have hq:=ej2 hq0;have hqm:=fy6 hq0;have hc:=fu0 q.e
    cases hkn:fj6 q.e with
    |false=>
     rw[hkn]at hc
     repeat'(first|refine yz ?_|refine yi (ct9 y) hx ?_|refine yi (ct7 q) hq ?_|refine yp b28 hc ?_|refine yx ?_|(refine yy ?_ ?_<;>intro _)|exact zD|exact zL)
     refine ac2 ?_;exact⟨⟨k+1,by omega,SKp.next hq0 okk (by rw[hkn];rfl)⟩,by dsimp only;omega,(zle 1)⟩
    |true=>
     rw[hkn]at hc;have hno:p.es.all (nEk)=false:=ej1 hm (ej1 (f:=fun q:PP=> !fj6 q.e) hqm (by rw[hkn];rfl));rw[hno,gf3]
     repeat'(first|refine yz ?_|refine yi (ct9 y) hx ?_|refine yi (ct7 q) hq ?_|refine yp b28 hc ?_|refine yx ?_|(refine yy ?_ ?_<;>intro _)|exact zD|exact zL)
   ·have g2:decide ((k:Int)<((y.ps.map ct7).length:Int))=false:=by rw[hlp];simp;omega
    have hfy:nEk y=true:=by rw[ga3 hge2]at okk;exact okk
    repeat'(first|refine yz ?_|refine yi (ct9 y) hx ?_|refine yx ?_|(refine yy ?_ ?_<;>intro _)|exact zD|exact zL)
    refine ac2 ?_;exact⟨⟨i+1,by omega,SKp.next hx0 ok hfy⟩,by dsimp only;omega,(zle 1)⟩
  ·have g1:decide ((i:Int)<((p.es.map ct9).length:Int))=false:=by rw[hle];simp;omega
   rw[ga3 hge]at ok;rw[ok]
   exact Om
theorem fu3{α:Type}{l:List α}{f:α→Bool}{i:Nat}{x:α}(h:l[i]? =some x):(l.take (i+1)).any f=((l.take i).any f||f x):=by
 rw[gd7,h,List.any_append];simp
theorem fu4:∀l:List Pl,fs5 l=l.any fs4
 |[]=>rfl
 |x::r=>by rw[fs5,ge0,fu4 r]
theorem fu5(b:PB)(ks:List Pl):fs4 (.mk b ks)=(((((fj6 b.e||b.it.any fun x=>fj6 x.e)||b.od.any fun x=>fj6 x.e)||b.cl.ps.any fr6)||b.cl.wh.any fj6)||ks.any fs4):=by
 rw[fs4,negB,fu4];simp only[gh4]
set_option maxHeartbeats 4000000 in
theorem fu6(p:Pl):Ev E 18 [do8 p] (.d (.bool (fs4 p))):=by
 refine do6 (P:=fun p=>Ev E 18 [do8 p] (.d (.bool (fs4 p)))) (fun b ks ih=>Ev.fit fun hfit=>?_) p;have hf:=hfit (do8 (.mk b ks)) Oc;rw[dp1]at hf ⊢;have hfa:=hf.aggs
 have hcl:Fit (cu4 b.cl):=Fit.agg _ fun c hc=>hfa c (by
  simp only[do7,fz0,gf8,or_false]at hc ⊢;rcases hc with h|h|h|h|h|h|h|h|h|h|h|h|h|h|h|h|h|h|h|h|h<;>simp[h])
 have l1:(b.it.map cu1).length=b.it.length:=Oc
 have l2:(b.od.map cu2).length=b.od.length:=Oc
 have l3:(b.cl.ps.map cu0).length=b.cl.ps.length:=Oc
 have l4:(bz0 b.cl.wh).length=b.cl.wh.length:=bz7 _;have l5:(ks.map do8).length=ks.length:=Oc
 have k1:b.it.length≤9223372036854775807:=(cz2 (hfa (.sl (b.it.map cu1)) (by simp[do7]))).1;have k2:b.od.length≤9223372036854775807:=(cz2 (hfa (.sl (b.od.map cu2)) (by simp[do7]))).1;have k3:b.cl.ps.length≤9223372036854775807:=(cz2 (hcl.aggs (.sl (b.cl.ps.map cu0)) (by simp[cu4]))).1;have k4:b.cl.wh.length≤9223372036854775807:=(bz9 (hcl.aggs (.sl (bz0 b.cl.wh)) (by simp[cu4]))).1;have k5:ks.length≤9223372036854775807:=(cz2 (hfa (.sl (ks.map do8)) (by simp[do7]))).1;clear hf hfa hcl hfit;rw[fu5];have he:=fu0 b.e;generalize fj6 b.e=P at*;refine ye1 func18 ntmps18 fun _ _ _=>?_
 repeat'(first|refine yz ?_|refine yp b28 he ?_|refine yx ?_|(refine yy ?_ ?_<;>intro _)|exact zD|exact zL)
 refine ac8 (α:=ek0 b.it.length) (fun s=>⟨[(1,.ptr 0 0),(3,.d (.bool (P||(b.it.take s.i).any (fun x:IT=>fj6 x.e)))),(4,.d (.int s.i))],[el7 b (ks.map do8)]⟩) (fun s=>b.it.length-s.i) ⟨0,by omega⟩ (by
  dsimp only;rw[gc8,gf9,gc6];exact(zle 1)) ?_
 rintro⟨i,hi⟩;dsimp only;rcases fy5 i b.it.length with hlt|hge
 ·have g1:decide ((i:Int)<((b.it.map cu1).length:Int))=true:=by rw[l1];simpa using hlt
  have hx0:=fy4 hlt;generalize b.it[i]=x at hx0;have hx:(b.it.map cu1)[(i:Int).toNat]? =some (cu1 x):=cz1 (f:=cu1) hx0;have ht:=fu3 (f:=(fun x:IT=>fj6 x.e)) hx0;have hc:=fu0 x.e;generalize ho:(P||(b.it.take i).any (fun x:IT=>fj6 x.e))=o;have hn:(P||(b.it.take (i+1)).any (fun x:IT=>fj6 x.e))=(o||fj6 x.e):=by rw[ht,←ho,gh4]
  cases o with
  |true=>
   repeat'(first|refine yz ?_|refine yx ?_|(refine yy ?_ ?_<;>intro _)|exact zD|exact zL)
   refine ac2 ?_;refine⟨⟨i+1,by omega⟩,by dsimp only;omega,?_⟩;dsimp only;rw[hn,Bool.true_or];exact(zle 1)
  |false=>
   repeat'(first|refine yz ?_|refine yi (cu1 x) hx ?_|refine bl5 rfl rfl rfl rfl rfl rfl rfl ?_|refine bl6 9 rfl rfl rfl rfl rfl rfl ?_|refine yp b28 hc ?_|refine yx ?_|(refine yy ?_ ?_<;>intro _)|exact zD|exact zL)
   refine ac2 ?_;refine⟨⟨i+1,by omega⟩,by dsimp only;omega,?_⟩;dsimp only;rw[hn,gd0];exact(zle 1)
 ·have g1:decide ((i:Int)<((b.it.map cu1).length:Int))=false:=by rw[l1];simp;omega
  rw[ga3 hge];generalize(P||b.it.any (fun x:IT=>fj6 x.e))=P1
  repeat'(first|refine yz ?_|refine yx ?_|(refine yy ?_ ?_<;>intro _)|exact zD|exact zL)
  refine ac8 (α:=ek0 b.od.length) (fun s=>⟨[(1,.ptr 0 0),(3,.d (.bool (P1||(b.od.take s.i).any (fun x:SK=>fj6 x.e)))),(5,.d (.int s.i))],[el7 b (ks.map do8)]⟩) (fun s=>b.od.length-s.i) ⟨0,by omega⟩ (by
   dsimp only;rw[gc8,gf9,gc6];exact(zle 1)) ?_
  rintro⟨i,hi⟩;dsimp only;rcases fy5 i b.od.length with hlt|hge
  ·have g1:decide ((i:Int)<((b.od.map cu2).length:Int))=true:=by rw[l2];simpa using hlt
   have hx0:=fy4 hlt;generalize b.od[i]=x at hx0;have hx:(b.od.map cu2)[(i:Int).toNat]? =some (cu2 x):=cz1 (f:=cu2) hx0;have ht:=fu3 (f:=(fun x:SK=>fj6 x.e)) hx0;have hc:=fu0 x.e;generalize ho:(P1||(b.od.take i).any (fun x:SK=>fj6 x.e))=o;have hn:(P1||(b.od.take (i+1)).any (fun x:SK=>fj6 x.e))=(o||fj6 x.e):=by rw[ht,←ho,gh4]
   cases o with
   |true=>
    repeat'(first|refine yz ?_|refine yx ?_|(refine yy ?_ ?_<;>intro _)|exact zD|exact zL)
    refine ac2 ?_;refine⟨⟨i+1,by omega⟩,by dsimp only;omega,?_⟩;dsimp only;rw[hn,Bool.true_or];exact(zle 1)
   |false=>
    repeat'(first|refine yz ?_|refine yi (cu2 x) hx ?_|refine bl5 rfl rfl rfl rfl rfl rfl rfl ?_|refine bl6 9 rfl rfl rfl rfl rfl rfl ?_|refine yp b28 hc ?_|refine yx ?_|(refine yy ?_ ?_<;>intro _)|exact zD|exact zL)
    refine ac2 ?_;refine⟨⟨i+1,by omega⟩,by dsimp only;omega,?_⟩;dsimp only;rw[hn,gd0];exact(zle 1)
  ·have g1:decide ((i:Int)<((b.od.map cu2).length:Int))=false:=by rw[l2];simp;omega
   rw[ga3 hge];generalize(P1||b.od.any (fun x:SK=>fj6 x.e))=P2
   repeat'(first|refine yz ?_|refine yx ?_|(refine yy ?_ ?_<;>intro _)|exact zD|exact zL)
   refine ac8 (α:=ek0 b.cl.ps.length) (fun s=>⟨[(1,.ptr 0 0),(3,.d (.bool (P2||(b.cl.ps.take s.i).any fr6))),(6,.d (.int s.i))],[el7 b (ks.map do8)]⟩) (fun s=>b.cl.ps.length-s.i) ⟨0,by omega⟩ (by
    dsimp only;rw[gc8,gf9,gc6];exact(zle 1)) ?_
   rintro⟨i,hi⟩;dsimp only;rcases fy5 i b.cl.ps.length with hlt|hge
   ·have g1:decide ((i:Int)<((b.cl.ps.map cu0).length:Int))=true:=by rw[l3];simpa using hlt
    have hx0:=fy4 hlt;generalize b.cl.ps[i]=x at hx0;have hx:(b.cl.ps.map cu0)[(i:Int).toNat]? =some (cu0 x):=cz1 (f:=cu0) hx0;have ht:=fu3 (f:=fr6) hx0;have hc:=fu2 x;generalize ho:(P2||(b.cl.ps.take i).any fr6)=o;have hn:(P2||(b.cl.ps.take (i+1)).any fr6)=(o||fr6 x):=by rw[ht,←ho,gh4]
    cases o with
    |true=>
     repeat'(first|refine yz ?_|refine yx ?_|(refine yy ?_ ?_<;>intro _)|exact zD|exact zL)
     refine ac2 ?_;refine⟨⟨i+1,by omega⟩,by dsimp only;omega,?_⟩;dsimp only;rw[hn,Bool.true_or];exact(zle 1)
    |false=>
     repeat'(first|refine yz ?_|refine yi (cu0 x) hx ?_|refine yp b29 hc ?_|refine yx ?_|(refine yy ?_ ?_<;>intro _)|exact zD|exact zL)
     refine ac2 ?_;refine⟨⟨i+1,by omega⟩,by dsimp only;omega,?_⟩;dsimp only;rw[hn,gd0];exact(zle 1)
   ·have g1:decide ((i:Int)<((b.cl.ps.map cu0).length:Int))=false:=by rw[l3];simp;omega
    rw[ga3 hge];generalize(P2||b.cl.ps.any fr6)=P3
    repeat'(first|refine yz ?_|refine yx ?_|(refine yy ?_ ?_<;>intro _)|exact zD|exact zL)
    refine ac8 (α:=ek0 b.cl.wh.length) (fun s=>⟨[(1,.ptr 0 0),(3,.d (.bool (P3||(b.cl.wh.take s.i).any fj6))),(7,.d (.int s.i))],[el7 b (ks.map do8)]⟩) (fun s=>b.cl.wh.length-s.i) ⟨0,by omega⟩ (by
     dsimp only;rw[gc8,gf9,gc6];exact(zle 1)) ?_
    rintro⟨i,hi⟩;dsimp only;rcases fy5 i b.cl.wh.length with hlt|hge
    ·have g1:decide ((i:Int)<((bz0 b.cl.wh).length:Int))=true:=by rw[l4];simpa using hlt
     have hx0:=fy4 hlt;generalize b.cl.wh[i]=x at hx0;have hx:(bz0 b.cl.wh)[(i:Int).toNat]? =some (bz1 x):=bz5 (by rw[gb1];exact hx0);have ht:=fu3 (f:=fj6) hx0;have hc:=fu0 x;generalize ho:(P3||(b.cl.wh.take i).any fj6)=o;have hn:(P3||(b.cl.wh.take (i+1)).any fj6)=(o||fj6 x):=by rw[ht,←ho,gh4]
     cases o with
     |true=>
      repeat'(first|refine yz ?_|refine yx ?_|(refine yy ?_ ?_<;>intro _)|exact zD|exact zL)
      refine ac2 ?_;refine⟨⟨i+1,by omega⟩,by dsimp only;omega,?_⟩;dsimp only;rw[hn,Bool.true_or];exact(zle 1)
     |false=>
      repeat'(first|refine yz ?_|refine yi (bz1 x) hx ?_|refine yp b28 hc ?_|refine yx ?_|(refine yy ?_ ?_<;>intro _)|exact zD|exact zL)
      refine ac2 ?_;refine⟨⟨i+1,by omega⟩,by dsimp only;omega,?_⟩;dsimp only;rw[hn,gd0];exact(zle 1)
    ·have g1:decide ((i:Int)<((bz0 b.cl.wh).length:Int))=false:=by rw[l4];simp;omega
     rw[ga3 hge];generalize(P3||b.cl.wh.any fj6)=P4
     repeat'(first|refine yz ?_|refine yx ?_|(refine yy ?_ ?_<;>intro _)|exact zD|exact zL)
     refine ac8 (α:=ek0 ks.length) (fun s=>⟨[(1,.ptr 0 0),(3,.d (.bool (P4||(ks.take s.i).any fs4))),(8,.d (.int s.i))],[el7 b (ks.map do8)]⟩) (fun s=>ks.length-s.i) ⟨0,by omega⟩ (by
      dsimp only;rw[gc8,gf9,gc6];exact(zle 1)) ?_
     rintro⟨i,hi⟩;dsimp only;rcases fy5 i ks.length with hlt|hge
     ·have g1:decide ((i:Int)<((ks.map do8).length:Int))=true:=by rw[l5];simpa using hlt
      have hx0:=fy4 hlt;generalize ks[i]=x at hx0;have hx:(ks.map do8)[(i:Int).toNat]? =some (do8 x):=cz1 (f:=do8) hx0;have ht:=fu3 (f:=fs4) hx0;have hc:=ih x (fy6 hx0);generalize ho:(P4||(ks.take i).any fs4)=o;have hn:(P4||(ks.take (i+1)).any fs4)=(o||fs4 x):=by rw[ht,←ho,gh4]
      cases o with
      |true=>
       repeat'(first|refine yz ?_|refine yx ?_|(refine yy ?_ ?_<;>intro _)|exact zD|exact zL)
       refine ac2 ?_;refine⟨⟨i+1,by omega⟩,by dsimp only;omega,?_⟩;dsimp only;rw[hn,Bool.true_or];exact(zle 1)
      |false=>
       rw[eb6]at hx hc
       repeat'(first|refine yz ?_|refine qI (do7 x.b (x.ks.map do8)) rfl (ap9 rfl) rfl rfl rfl rfl rfl rfl Oh hx ?_|refine yp b18 hc ?_|refine yx ?_|(refine yy ?_ ?_<;>intro _)|exact zD|exact zL)
       refine ac2 ?_;refine⟨⟨i+1,by omega⟩,by dsimp only;omega,?_⟩;dsimp only;rw[hn,gd0];exact(zle 1)
     ·have g1:decide ((i:Int)<((ks.map do8).length:Int))=false:=by rw[l5];simp;omega
      rw[ga3 hge];generalize(P4||ks.any fs4)=P5
      exact Om
end Go.Proofs.YtndgolmgaenlfaaGreatDoor
