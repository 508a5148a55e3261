/- Unnamed columns, a conjunctive query as an operator, by the specification; The property expressions of a path over columns, by the specification; The . Conditions: each part's own, as it says. -/
import Derived.Test.YtndgolmgaenlfaaGreatDoorPB
import Derived.Test.YtndgolmgaenlfaaGreatDoorPA
import Derived.Test.YtndgolmgaenlfaaGreatDoorCA
import Derived.Test.YtndgolmgaenlfaaGreatDoorMA
import Derived.Test.YtndgolmgaenlfaaGreatDoorGC
import Derived.Test.YtndgolmgaenlfaaGreatDoorCB
import Derived.Test.YtndgolmgaenlfaaGreatDoorFA
set_option linter.unusedVariables false
set_option linter.unusedSimpArgs false
namespace Go.Proofs.YtndgolmgaenlfaaGreatDoor
set_option maxRecDepth 4000
open Go Go.Abs Go.Val Go.RowKit Go.Proofs.Tryz
attribute [local irreducible] go SGo an1 Ev au8 EvO EvS RGo RGw PGo
def el8(c:UInt8):Bool:=decide (48≤c) &&decide (c≤57)
structure SUn(s:ByteArray) where
 i:Nat
 h1:1≤i
 hi:i≤s.size
 ok:((s.data.toList.drop 1).all el8)=((s.data.toList.drop i).all el8)
theorem byteAt_get{s:ByteArray}{i:Nat}{c:UInt8}(h:s.data.toList[i]? =some c):ag0 s i=(c.toNat:Int):=by
 unfold ag0;rw[fo9,h];rfl
theorem el9(s:ByteArray)(hmax:s.size≤9223372036854775807):Ev E 135 [.str s] (.d (.bool (dm3 s))):=by
 have hsz:s.data.toList.length=s.size:=Oc
 unfold dm3
 match hs:s.data.toList with
 |[]=>
  rw[hs]at hsz;have g1:decide ((s.size:Int)<2)=true:=by simp only[fk4]at hsz;simp;omega
  refine ye1 func135 ntmps135 fun _ _ _=>?_
  exact Ok
 |[_]=>
  rw[hs]at hsz;have g1:decide ((s.size:Int)<2)=true:=by simp only[fk0,fk4]at hsz;simp;omega
  refine ye1 func135 ntmps135 fun _ _ _=>?_
  exact Ok
 |a::b::r=>
  have hd1:s.data.toList.drop 1=b::r:=by rw[hs];rfl
  have hsz2:s.size=r.length+2:=by rw[←hsz,hs];rfl
  have g1:decide ((s.size:Int)<2)=false:=Og
  have hb0:ag0 s (0:Int).toNat=(a.toNat:Int):=byteAt_get (by rw[hs];rfl);have hb1:ag0 s (1:Int).toNat=(b.toNat:Int):=byteAt_get (by rw[hs];rfl)
  have ha:(ag0 s (0:Int).toNat !=95)= !(a==95):=by
   rw[hb0,fk9,bne_iff_ne,Bool.not_eq_true',beq_eq_false_iff_ne];exact⟨fun h e=>h (by rw[e];rfl),fun h e=>h (UInt8.toNat_inj.1 (by simpa using(by omega:a.toNat=95)))⟩
  have hb:(ag0 s (1:Int).toNat==48)=(b==48):=by
   rw[hb1,fk9,beq_iff_eq,beq_iff_eq];exact⟨fun h=>UInt8.toNat_inj.1 (by simpa using(by omega:b.toNat=48)),fun e=>by rw[e];rfl⟩
  show Ev E 135 [.str s] (.d (.bool (a==95&&(b !=48&&(b::r).all el8))));have hbn:(b !=48)= !(b==48):=rfl;rw[hbn,←hd1];clear hb0 hb1 hbn
  cases c1:a==95 with
  |false=>
   rw[c1]at ha;have ha:(ag0 s (0:Int).toNat !=95)=true:=ha;refine ye1 func135 ntmps135 fun _ _ _=>?_
   exact Ok
  |true=>
  rw[c1]at ha;have ha:(ag0 s (0:Int).toNat !=95)=false:=ha
  cases c2:b==48 with
  |true=>
   rw[c2]at hb;refine ye1 func135 ntmps135 fun _ _ _=>?_
   exact Ok
  |false=>
  rw[c2]at hb;show Ev E 135 [.str s] (.d (.bool ((s.data.toList.drop 1).all el8)));refine ye1 func135 ntmps135 fun _ _ _=>?_
  repeat'(first|refine yz ?_|refine yx ?_)
  refine ac7 (α:=SUn s) (fun p=>⟨[(0,.d (.str s)),(3,.d (.int p.i))],[]⟩) (fun p=>s.size-p.i) ⟨1,by omega,by omega,rfl⟩ (zle 0) ?_;rintro⟨i,h1,hi,ok⟩;dsimp only;rcases fj8 i s.size with hlt|hge
  ·have g2:decide ((i:Int)<(s.size:Int))=true:=by simpa using hlt
   have hx0:=fj7 (l:=s.data.toList) (i:=i) Oa;generalize s.data.toList[i]'Oa=c at hx0;have hby:ag0 s (i:Int).toNat=(c.toNat:Int):=byteAt_get (by rw[fm2];exact hx0);have hdr:s.data.toList.drop i=c::s.data.toList.drop (i+1):=bu4 hx0;rw[hdr,fn8]at ok
   cases c3:decide (ag0 s (i:Int).toNat<48)with
   |true=>
    have hf:el8 c=false:=by
     have h:=of_decide_eq_true c3;rw[hby]at h;unfold el8;rw[show decide (48≤c)=false by simp only[decide_eq_false_iff_not,UInt8.le_iff_toNat_le];show ¬ 48≤c.toNat;omega];rfl
    rw[hf,fp0]at ok;rw[ok]
    exact Ok
   |false=>
   cases c4:decide (ag0 s (i:Int).toNat>57)with
   |true=>
    have hf:el8 c=false:=by
     have h:=of_decide_eq_true c4;rw[hby]at h;unfold el8;rw[show decide (c≤57)=false by simp only[decide_eq_false_iff_not,UInt8.le_iff_toNat_le];show ¬ c.toNat≤57;omega];rw[Bool.and_false]
    rw[hf,fp0]at ok;rw[ok]
    exact Ok
   |false=>
    have hf:el8 c=true:=by
     have h3:=of_decide_eq_false c3;have h4:=of_decide_eq_false c4;rw[hby]at h3 h4;unfold el8;rw[fl5,decide_eq_true_eq,decide_eq_true_eq,UInt8.le_iff_toNat_le,UInt8.le_iff_toNat_le];show 48≤c.toNat∧c.toNat≤57;omega
    rw[hf,fn0]at ok
    repeat'(first|refine yz ?_|refine yx ?_)
    refine ac1 ?_;exact⟨⟨i+1,by omega,by omega,ok⟩,by dsimp only;omega,(zle 0)⟩
  ·have g2:decide ((i:Int)<(s.size:Int))=false:=by simp;omega
   have en:s.data.toList.drop i=[]:=fk5 (by rw[hsz];omega);rw[en]at ok;rw[ok]
   exact Ok
abbrev oCJK(c:CJ):aa5:=.var 26 (.w (.d (cc7 c)))
structure SMu(vs:List ByteArray) where
 i:Nat
 hi:i≤vs.length
 ok:(vs.take i).all (fun s=>cm2 s||dm3 s)=true
set_option maxHeartbeats 2000000 in
theorem em0(c:CJ)(hl:c.vs.length≤1000000):Ev E 71 [cc7 c] (.tup [.sl ((dm9 c).1.map .str),.int (dm9 c).2]):=Ev.fit fun hfit=>by
 have hk:=du6 c
 have hfs:∀s∈c.vs,s.size≤maxLen:=fun s hs=>by
  have h:=(hfit (cc7 c) Oc).aggs (.sl (c.vs.map .str)) (by simp[cc7]);exact((ct4 h).2 s hs).str
 unfold dm9;obtain⟨vs,as28⟩:=c;dsimp only at hl hfs ⊢;have hle:(vs.map D.str).length=vs.length:=Oc
 generalize hC:dk6 ⟨vs,as28⟩=z at*
 cases hz:z !=0 with
 |true=>
  rw[cond_true];unfold erR;refine ye1 func71 ntmps71 fun _ _ _=>?_
  repeat'(first|refine yz ?_|refine yp b134 hk ?_|exact zL)
 |false=>
  have hz0:z=0:=by simpa using hz
  rw[cond_false];subst hz0;clear hz;refine ye1 func71 ntmps71 fun _ _ _=>?_
  repeat'(first|refine yz ?_|refine yp b134 hk ?_)
  refine ac7 (α:=SMu vs) (fun p=>⟨[(1,.ptr 0 0),(5,.d (.int p.i))],[oCJK ⟨vs,as28⟩]⟩) (fun p=>vs.length-p.i) ⟨0,by omega,rfl⟩ (zle 1) ?_;rintro⟨i,hi,ok⟩;dsimp only;rcases fj8 i vs.length with hlt|hge
  ·have g1:decide ((i:Int)<((vs.map D.str).length:Int))=true:=by rw[hle];simpa using hlt
   have hx0:=fj7 hlt;generalize vs[i]=x at hx0;have hx:=ct3 (f:=D.str) hx0;have hm:=fj9 hx0;have hw:=cm5 x;have hu:=el9 x (hfs x hm)
   have hno:(cm2 x||dm3 x)=false→(vs.all fun s=>cm2 s||dm3 s)=false:=fun h=>by
    rw[←fq0];intro ha;have:=fm3.1 ha x hm;rw[h]at this
    cases this
   have hyes:(cm2 x||dm3 x)=true→(vs.take (i+1)).all (fun s=>cm2 s||dm3 s)=true:=fun h=>by
    rw[fm8,hx0,List.all_append,ok];simp[h]
   cases c1:cm2 x with
   |true=>
    rw[c1]at hw
    repeat'(first|refine yz ?_|refine yi (.str x) hx ?_|refine yp b77 hw ?_)
    refine ac1 ?_;exact⟨⟨i+1,by omega,hyes (by rw[c1];rfl)⟩,by dsimp only;omega,(zle 1)⟩
   |false=>
   rw[c1]at hw
   cases c2:dm3 x with
   |true=>
    rw[c2]at hu
    repeat'(first|refine yz ?_|refine yi (.str x) hx ?_|refine yp b77 hw ?_|refine yp b135 hu ?_)
    refine ac1 ?_;exact⟨⟨i+1,by omega,hyes (by rw[c1,c2];rfl)⟩,by dsimp only;omega,(zle 1)⟩
   |false=>
    rw[c2]at hu;rw[hno (by rw[c1,c2];rfl),cond_false];unfold erR
    repeat'(first|refine yz ?_|refine yi (.str x) hx ?_|refine yp b77 hw ?_|refine yp b135 hu ?_|exact zL)
  ·have g1:decide ((i:Int)<((vs.map D.str).length:Int))=false:=by rw[hle];simp;omega
   rw[fl4 hge]at ok;rw[ok,cond_true];clear hfs hk
   by_cases h0:vs=[]
   ·subst h0
    repeat'(first|(refine bm2 ?_)|(refine bm3 ?_)|refine yz ?_)
    refine bm6 2 rfl ?_
    repeat'(first|refine qM rfl rfl rfl ?_|exact zL)
   ·have hne:vs.map D.str≠ []:=by simpa using h0
    have hac:∀d∈vs.map D.str,d.cells.length=1:=fun d hd=>by obtain⟨s,-,rfl⟩:=fl3.1 hd;rfl
    repeat'(first|(refine bm2 ?_)|refine yz ?_|(refine bm4 ?_ ?_;exact⟨hne,hac,by(show(vs.map D.str).length*16≤140737488355328;omega),by(show(vs.map D.str).length≤9223372036854775807;omega)⟩))
    refine au2 1 rfl ?_;dsimp only[ar6,ar5,ar8,ar7,List.map,List.set]
    repeat'(first|refine qM rfl rfl rfl ?_|exact zL)
abbrev oPAk(p:PA):aa5:=.var 69 (.w (.d (co2 p)))
structure SKp{α:Type}(l:List α)(f:α→Bool) where
 i:Nat
 hi:i≤l.length
 ok:(l.take i).all f=true
theorem SKp.next{α:Type}{l:List α}{f:α→Bool}{i:Nat}{x:α}(h:l[i]? =some x)(ok:(l.take i).all f=true)(hx:f x=true):(l.take (i+1)).all f=true:=by
 rw[fm8,h,List.all_append,ok];simp[hx]
theorem em1{α:Type}{l:List α}{f:α→Bool}{x:α}(h:x∈l)(hx:f x=false):l.all f=false:=by
 rw[←fq0];intro ha;have:=fm3.1 ha x h;rw[hx]at this
 cases this
def em2(cols:List ByteArray)(n:NP):Bool:=n.ps.all fun q=>dd2 q.e cols
def em3(cols:List ByteArray)(n:EP):Bool:=n.ps.all fun q=>dd2 q.e cols
def prA(cols:List ByteArray)(p:PA):Bool:=p.ns.all (em2 cols) &&p.es.all (em3 cols)
theorem prx_A(cols:List ByteArray)(l:List PA):((dn0 l).all fun e=>dd2 e cols)=l.all (prA cols):=by
 rw[ef4];unfold ef3;rw[fk9];simp only[List.all_map,fm3,Function.comp,fq7,fm1,prA,em2,em3,fl5];constructor
 ·intro h p hp;exact⟨fun n hn q hq=>h q ⟨p,hp,.inl ⟨n,hn,hq⟩⟩,fun n hn q hq=>h q ⟨p,hp,.inr ⟨n,hn,hq⟩⟩⟩
 ·rintro h q ⟨p,hp,⟨n,hn,hq⟩|⟨n,hn,hq⟩⟩
  ·exact(h p hp).1 n hn q hq
  ·exact(h p hp).2 n hn q hq
theorem em4{l:List PP}{i:Nat}{q:PP}(h:l[i]? =some q):(l.map cn9)[(i:Int).toNat]? =some (cn9 q):=ct3 (f:=cn9) h
set_option maxHeartbeats 4000000 in
theorem em5(p:PA)(cols:List ByteArray)(hsm:∀q∈p.ns.flatMap NP.ps++p.es.flatMap EP.ps,smE q.e):Ev E 138 [co2 p,.sl (cols.map .str)] (.d (.bool (prA cols p))):=Ev.fit fun hfit=>by
 have hf:=(hfit (co2 p) Oc).aggs;have hfn:=ct4 (hf (.sl (p.ns.map co0)) (by simp[co2]));have hfe:=ct4 (hf (.sl (p.es.map co1)) (by simp[co2]));have hpn:∀n∈p.ns,n.ps.length≤maxLen:=fun n hn=>(ct4 ((hfn.2 n hn).aggs (.sl (n.ps.map cn9)) (by simp[co0]))).1
 have hpe:∀n∈p.es,n.ps.length≤maxLen:=fun n hn=>(ct4 ((hfe.2 n hn).aggs (.sl (n.ps.map cn9)) (by simp[co1]))).1
 have hln:(p.ns.map co0).length=p.ns.length:=Oc
 have hle:(p.es.map co1).length=p.es.length:=Oc
 have hnl:p.ns.length≤9223372036854775807:=hfn.1;have hel:p.es.length≤9223372036854775807:=hfe.1;have hsn:∀n∈p.ns,∀q∈n.ps,nd q.e≤1000000:=fun n hn q hq=>hsm q (fm1.2 (.inl (fq7.2 ⟨n,hn,hq⟩)))
 have hse:∀n∈p.es,∀q∈n.ps,nd q.e≤1000000:=fun n hn q hq=>hsm q (fm1.2 (.inr (fq7.2 ⟨n,hn,hq⟩)))
 have hu:prA cols p=(p.ns.all (em2 cols) &&p.es.all (em3 cols)):=rfl;rw[hu];clear hf hfn hfe hfit hsm hu;refine ye2 func138 ntmps138 fun _ _ _=>?_
 repeat'(refine yz ?_)
 refine ac7 (α:=SKp p.ns (em2 cols)) (fun s=>⟨[(1,.d (.sl (cols.map .str))),(2,.ptr 0 0),(5,.d (.int s.i))],[oPAk p]⟩) (fun s=>p.ns.length-s.i) ⟨0,by omega,rfl⟩ (zle 1) ?_;rintro⟨i,hi,ok⟩;dsimp only;rcases fj8 i p.ns.length with hlt|hge
 ·have g1:decide ((i:Int)<((p.ns.map co0).length:Int))=true:=by rw[hln];simpa using hlt
  have hx0:=fj7 hlt;generalize p.ns[i]=y at hx0;have hx:=ct3 (f:=co0) hx0;have hm:=fj9 hx0;have hyl:y.ps.length≤9223372036854775807:=hpn y hm;have hym:=hsn y hm;have hlp:(y.ps.map cn9).length=y.ps.length:=Oc
  repeat'(refine yz ?_)
  refine ac7 (α:=SKp y.ps fun q=>dd2 q.e cols) (fun s=>⟨[(1,.d (.sl (cols.map .str))),(2,.ptr 0 0),(5,.d (.int i)),(6,.d (.int s.i))],[oPAk p]⟩) (fun s=>y.ps.length-s.i) ⟨0,by omega,rfl⟩ (zle 1) ?_;rintro⟨k,hk,okk⟩;dsimp only;rcases fj8 k y.ps.length with hlt2|hge2
  ·have g2:decide ((k:Int)<((y.ps.map cn9).length:Int))=true:=by rw[hlp];simpa using hlt2
   have hq0:=fj7 hlt2;generalize y.ps[k]=q at hq0;have hq:=em4 hq0;have hqm:=fj9 hq0;have hc:=el5 q.e cols (hym q hqm)
   cases hkn:dd2 q.e cols with
   |true=>
    rw[hkn]at hc
    repeat'(first|refine yz ?_|refine yi (co0 y) hx ?_|refine yi (cn9 q) hq ?_|refine yp bp8 hc ?_)
    refine ac1 ?_;exact⟨⟨k+1,by omega,SKp.next hq0 okk hkn⟩,by dsimp only;omega,(zle 1)⟩
   |false=>
    rw[hkn]at hc;have hno:p.ns.all (em2 cols)=false:=em1 hm (em1 (f:=fun q:PP=>dd2 q.e cols) hqm hkn);rw[hno,fp0]
    repeat'(first|refine yz ?_|refine yi (co0 y) hx ?_|refine yi (cn9 q) hq ?_|refine yp bp8 hc ?_|exact zD)
  ·have g2:decide ((k:Int)<((y.ps.map cn9).length:Int))=false:=by rw[hlp];simp;omega
   have hfy:em2 cols y=true:=by rw[fl4 hge2]at okk;exact okk
   repeat'(first|refine yz ?_|refine yi (co0 y) hx ?_)
   refine ac1 ?_;exact⟨⟨i+1,by omega,SKp.next hx0 ok hfy⟩,by dsimp only;omega,(zle 1)⟩
 ·have g1:decide ((i:Int)<((p.ns.map co0).length:Int))=false:=by rw[hln];simp;omega
  rw[fl4 hge]at ok;rw[ok]
  repeat'(refine yz ?_)
  rw[fn0];refine ac7 (α:=SKp p.es (em3 cols)) (fun s=>⟨[(1,.d (.sl (cols.map .str))),(2,.ptr 0 0),(7,.d (.int s.i))],[oPAk p]⟩) (fun s=>p.es.length-s.i) ⟨0,by omega,rfl⟩ (zle 1) ?_;rintro⟨i,hi,ok⟩;dsimp only;rcases fj8 i p.es.length with hlt|hge
  ·have g1:decide ((i:Int)<((p.es.map co1).length:Int))=true:=by rw[hle];simpa using hlt
   have hx0:=fj7 hlt;generalize p.es[i]=y at hx0;have hx:=ct3 (f:=co1) hx0;have hm:=fj9 hx0;have hyl:y.ps.length≤9223372036854775807:=hpe y hm;have hym:=hse y hm;have hlp:(y.ps.map cn9).length=y.ps.length:=Oc
   repeat'(refine yz ?_)
   refine ac7 (α:=SKp y.ps fun q=>dd2 q.e cols) (fun s=>⟨[(1,.d (.sl (cols.map .str))),(2,.ptr 0 0),(7,.d (.int i)),(8,.d (.int s.i))],[oPAk p]⟩) (fun s=>y.ps.length-s.i) ⟨0,by omega,rfl⟩ (zle 1) ?_;rintro⟨k,hk,okk⟩;dsimp only;rcases fj8 k y.ps.length with hlt2|hge2
   ·have g2:decide ((k:Int)<((y.ps.map cn9).length:Int))=true:=by rw[hlp];simpa using hlt2
    have hq0:=fj7 hlt2;generalize y.ps[k]=q at hq0;have hq:=em4 hq0;have hqm:=fj9 hq0;have hc:=el5 q.e cols (hym q hqm)
    cases hkn:dd2 q.e cols with
    |true=>
     rw[hkn]at hc
     repeat'(first|refine yz ?_|refine yi (co1 y) hx ?_|refine yi (cn9 q) hq ?_|refine yp bp8 hc ?_)
     refine ac1 ?_;exact⟨⟨k+1,by omega,SKp.next hq0 okk hkn⟩,by dsimp only;omega,(zle 1)⟩
    |false=>
     rw[hkn]at hc;have hno:p.es.all (em3 cols)=false:=em1 hm (em1 (f:=fun q:PP=>dd2 q.e cols) hqm hkn);rw[hno]
     repeat'(first|refine yz ?_|refine yi (co1 y) hx ?_|refine yi (cn9 q) hq ?_|refine yp bp8 hc ?_|exact zD)
   ·have g2:decide ((k:Int)<((y.ps.map cn9).length:Int))=false:=by rw[hlp];simp;omega
    have hfy:em3 cols y=true:=by rw[fl4 hge2]at okk;exact okk
    repeat'(first|refine yz ?_|refine yi (co1 y) hx ?_)
    refine ac1 ?_;exact⟨⟨i+1,by omega,SKp.next hx0 ok hfy⟩,by dsimp only;omega,(zle 1)⟩
  ·have g1:decide ((i:Int)<((p.es.map co1).length:Int))=false:=by rw[hle];simp;omega
   rw[fl4 hge]at ok;rw[ok]
   exact Ok
end Go.Proofs.YtndgolmgaenlfaaGreatDoor
namespace Go.Proofs.YtndgolmgaenlfaaGreatDoor
set_option maxRecDepth 4000
open Go Go.Abs Go.Val Go.RowKit Go.Proofs.Tryz
attribute [local irreducible] go SGo an1 Ev au8 EvO EvS RGo PGo
theorem em6(l:List ByteArray)(s:ByteArray):EvS E 17 [.own 0,.d (.str s)] [.row 9 1 (l.map .str)] (.d (.bool (bx6 l s))) [.row 9 1 (l.map .str)]:=
 dv0 (ds:=[]) (es:=[.str s]) (bx8 l s)
theorem em7{s:ByteArray}(h:s0B s=true):EvS E 215 [.nilS,.d (.str s)] [] .nilS []:=by
 have g0:(s.toList==(⟨#[]⟩:ByteArray).toList)=true:=h;refine yn func215 ntmps215 fun _ _ _ _=>?_
 repeat'(first|refine yz ?_|refine bb2 [] rfl rfl rfl rfl rfl ?_|refine yx ?_)
 all_goals rfl
theorem em8{s:ByteArray}(h:s0B s=false):EvS E 215 [.nilS,.d (.str s)] [] (.own 0) [rS [s]]:=by
 have g0:(s.toList==(⟨#[]⟩:ByteArray).toList)=false:=h;have hc:=bx8 [] s;have hc:Ev E 17 [.sl [],.str s] (.d (.bool false)):=hc;refine yn func215 ntmps215 fun _ _ _ _=>?_
 repeat'(first|refine yz ?_|refine yp b17 hc ?_|(refine qS rfl ⟨by simp,fun d hd=>by(obtain rfl:=fk8.1 hd;rfl),by(show(0+1)*16≤140737488355328;omega),by(show 0+1≤9223372036854775807;omega)⟩ ?_)|refine bb2 [0] rfl rfl rfl rfl rfl ?_|refine yx ?_)
 all_goals rfl
theorem em9{s:ByteArray}{l:List ByteArray}(h:(s0B s||bx6 l s)=true):EvS E 215 [.own 0,.d (.str s)] [rS l] (.own 0) [rS l]:=by
 have hc:=em6 l s
 cases h0:s0B s with
 |true=>
  have g0:(s.toList==(⟨#[]⟩:ByteArray).toList)=true:=h0;refine yn func215 ntmps215 fun _ _ _ _=>?_
  repeat'(first|refine yz ?_|refine bb2 [0] rfl rfl rfl rfl rfl ?_|refine yx ?_)
  all_goals rfl
 |false=>
  have g0:(s.toList==(⟨#[]⟩:ByteArray).toList)=false:=h0;rw[h0,fm9]at h;rw[h]at hc;refine yn func215 ntmps215 fun _ _ _ _=>?_
  repeat'(first|refine yz ?_|refine yc [0] b17 (hc) ?_|refine bb2 [0] rfl rfl rfl rfl rfl ?_|refine yx ?_)
  all_goals rfl
theorem en0{s:ByteArray}{l:List ByteArray}(h:(s0B s||bx6 l s)=false)(hl:l.length≤1000000):EvS E 215 [.own 0,.d (.str s)] [rS l] (.own 1) [.dead,rS (l++ [s])]:=by
 have hc:=em6 l s;rw[fn9]at h;have g0:(s.toList==(⟨#[]⟩:ByteArray).toList)=false:=h.1;rw[h.2]at hc;have hle:(l.map D.str).length=l.length:=Oc
 have hm:(l++ [s]).map D.str=l.map D.str++ [.str s]:=Oc
 unfold rS;rw[hm];refine yn func215 ntmps215 fun _ _ _ _=>?_
 repeat'(first|refine yz ?_|refine yc [0] b17 (hc) ?_|(refine qS rfl ⟨by simp,fun d hd=>by(obtain rfl:=fk8.1 hd;rfl),by(show((l.map D.str).length+1)*16≤140737488355328;omega),by(show(l.map D.str).length+1≤9223372036854775807;omega)⟩ ?_)|refine bb2 [0,1] rfl rfl rfl rfl rfl ?_|refine yx ?_)
 all_goals rfl
theorem en1(ns:List NP)(es:List EP){j:Nat}(hj:j≤max ns.length es.length):((List.range j).flatMap (dw8 ns es)).length≤(dm6 ns es).length:=by
 have h3:=dx3 ns es (max ns.length es.length) Oa Oa
 have h4:List.range (max ns.length es.length)=List.range j++(List.range (max ns.length es.length)).drop j:=by
  have h5:=fp9 j (List.range (max ns.length es.length));rw[List.take_range,Nat.min_eq_left hj]at h5;exact h5.symm
 rw[h4,fr2]at h3;have:=congrArg List.length h3;rw[fk1]at this;omega
set_option maxHeartbeats 8000000 in
theorem en2(l:List PA)(hsm:(dm7 l).length≤900000)(hn:∀p∈l,p.ns.length≤1000000∧p.es.length≤1000000):Ev E 137 [.sl (l.map co2)] (.d (.sl ((dm8 l).map .str))):=Ev.fit fun hfit=>by
 have hmax:l.length≤9223372036854775807:=(ct4 (hfit (.sl (l.map co2)) Oc)).1;have hle:(l.map co2).length=l.length:=Oc
 refine ye1 func137 ntmps137 fun _ _ _=>?_
 repeat'(refine yz ?_)
 refine bk1 ?_;refine ac7 (α:=SVo l) (fun p=>⟨[(0,.d (.sl (l.map co2))),(3,fS 0 (dx5 [] (dm7 (l.take p.i)))),(4,.d (.int p.i))],[gS (dx5 [] (dm7 (l.take p.i)))]⟩) (fun p=>l.length-p.i) ⟨0,by omega⟩ (zle 1) ?_;rintro⟨i,hi⟩;dsimp only;rcases fj8 i l.length with hlt|hge
 ·have g1:decide ((i:Int)<((l.map co2).length:Int))=true:=by rw[hle];simpa using hlt
  have hx0:=fj7 hlt;generalize l[i]=p at hx0;have hx:=ct3 (f:=co2) hx0;have hpm:=fj9 hx0;obtain⟨hns,hes⟩:=hn p hpm;have hln:(p.ns.map co0).length=p.ns.length:=Oc
  have hlee:(p.es.map co1).length=p.es.length:=Oc
  have htk:dm7 (l.take (i+1))=dm7 (l.take i)++(dm6 p.ns p.es++ [p.vr]):=by unfold dm7;rw[fm8,hx0,fr2];simp
  have hbnd:(dm7 (l.take (i+1))).length≤900000:=by
   have h:dm7 l=dm7 (l.take (i+1))++dm7 (l.drop (i+1)):=by unfold dm7;rw[←fr2,fp9]
   have:=congrArg List.length h;rw[fk1]at this;omega
  rw[htk,fk1,fk1]at hbnd;simp only[fk0,fk4]at hbnd;obtain⟨L0,hL0⟩:∃L0,L0=dx5 [] (dm7 (l.take i)):=⟨_,rfl⟩;have hL0l:L0.length≤(dm7 (l.take i)).length:=by rw[hL0];have:=dx7 (dm7 (l.take i)) [];simpa using this
  have hend:dx5 [] (dm7 (l.take (i+1)))=dm5 (dx5 L0 (dm6 p.ns p.es)) p.vr:=by rw[htk,dx6,dx6,←hL0];rfl
  rw[←hL0];clear hL0
  repeat'(first|refine yz ?_|refine yi (co2 p) hx ?_)
  refine ac7 (α:=SVi (max p.ns.length p.es.length)) (fun q=>⟨[(0,.d (.sl (l.map co2))),(3,fS 0 (dx5 L0 ((List.range q.j).flatMap (dw8 p.ns p.es)))),(4,.d (.int i)),(5,.ptr 1 0),(6,.d (.int q.j))],[gS (dx5 L0 ((List.range q.j).flatMap (dw8 p.ns p.es))),oPAp p]⟩) (fun q=>max p.ns.length p.es.length-q.j) ⟨0,by omega⟩ (by
   dsimp only;show Le _ _ ⟨[_,(3,fS 0 L0),_,_,_],[gS L0,_]⟩;rcases L0 with _|⟨a0,q0⟩<;>exact(zle 2)) ?_
  rintro⟨j,hj⟩;dsimp only
  have hL1b:(dx5 L0 ((List.range j).flatMap (dw8 p.ns p.es))).length≤900000:=by
   have h1:=dx7 ((List.range j).flatMap (dw8 p.ns p.es)) L0;have h2:=en1 p.ns p.es hj;omega
  have hnext:dx5 L0 ((List.range (j+1)).flatMap (dw8 p.ns p.es))=dx5 (dx5 (dx5 L0 ((List.range j).flatMap (dw8 p.ns p.es))) (nN p.ns j)) (nE p.es j):=by rw[dw9,dx6,dw8,dx6]
  have hlast:max p.ns.length p.es.length≤j→dx5 L0 ((List.range j).flatMap (dw8 p.ns p.es))=dx5 L0 (dm6 p.ns p.es):=fun h=>by rw[dx3 p.ns p.es j Oa Oa]
  generalize dx5 L0 ((List.range j).flatMap (dw8 p.ns p.es))=L1 at*
  have hnode:(∃n,decide ((j:Int)<((p.ns.map co0).length:Int))=true∧(p.ns.map co0)[((j:Nat):Int).toNat]? =some (co0 n)∧nN p.ns j=[n.vr])∨(decide ((j:Int)<((p.ns.map co0).length:Int))=false∧nN p.ns j=[]):=by
   rcases fj8 j p.ns.length with h|h
   ·have h0:=fj7 h;exact .inl ⟨_,by rw[hln];simpa using h,ct3 (f:=co0) h0,dy0 h0⟩
   ·exact .inr ⟨by rw[hln];simp;omega,dy1 h⟩
  have hedge:(∃n,decide ((j:Int)<((p.es.map co1).length:Int))=true∧(p.es.map co1)[((j:Nat):Int).toNat]? =some (co1 n)∧nE p.es j=[n.vr])∨(decide ((j:Int)<((p.es.map co1).length:Int))=false∧nE p.es j=[]):=by
   rcases fj8 j p.es.length with h|h
   ·have h0:=fj7 h;exact .inl ⟨_,by rw[hlee];simpa using h,ct3 (f:=co1) h0,dy2 h0⟩
   ·exact .inr ⟨by rw[hlee];simp;omega,dy3 h⟩
  rcases fj8 j (max p.ns.length p.es.length)with hlj|hgj
  ·rcases hnode with⟨n,gn,hxn,hnN⟩|⟨gn,hnN⟩
   ·rw[hnN]at hnext;have hnext:dx5 L0 ((List.range (j+1)).flatMap (dw8 p.ns p.es))=dx5 (dm5 L1 n.vr) (nE p.es j):=hnext
    repeat'(first|(refine bn0 35 (fun(_:Unit)=>⟨[(0,.d (.sl (l.map co2))),(3,fS 0 (dm5 L1 n.vr)),(4,.d (.int i)),(5,.ptr 1 0),(6,.d (.int j))],[gS (dm5 L1 n.vr),oPAp p]⟩) () ?_ ?_)|refine yz ?_|refine yx ?_)
    ·cases hsk:s0B n.vr||bx6 L1 n.vr with
     |true=>
      have hL2:=dx8 hsk
      match L1,hsk,hL2,hL1b with
      |[],hsk,hL2,hL1b=>
       dsimp only[fS,gS];have hs0:s0B n.vr=true:=by simpa[bx6]using hsk
       repeat'(first|refine yz ?_|refine yi (co0 n) hxn ?_|refine bm9 [] rfl rfl rfl rfl (FnX.plain _) br1 ((em7 (s:=n.vr) hs0)) rfl rfl rfl rfl rfl ?_)
       refine ac1 ?_;refine⟨(),rfl,?_⟩;rw[hL2];exact(zle 2)
      |a::q,hsk,hL2,hL1b=>
       dsimp only[fS,gS]
       repeat'(first|refine yz ?_|refine yi (co0 n) hxn ?_|refine yc [0] br1 (em9 (l:=a::q) (s:=n.vr) hsk) ?_)
       refine ac1 ?_;refine⟨(),rfl,?_⟩;rw[hL2];exact(zle 2)
     |false=>
      have hL2:=dx9 hsk
      match L1,hsk,hL2,hL1b with
      |[],hsk,hL2,hL1b=>
       dsimp only[fS,gS];have hs0:s0B n.vr=false:=by simpa[bx6]using hsk
       repeat'(first|refine yz ?_|refine yi (co0 n) hxn ?_|refine bm9 [] rfl rfl rfl rfl (FnX.plain _) br1 ((em8 (s:=n.vr) hs0)) rfl rfl rfl rfl rfl ?_)
       refine ac1 ?_;refine⟨(),rfl,?_⟩;rw[hL2];exact(bh0 [2,1])
      |a::q,hsk,hL2,hL1b=>
       dsimp only[fS,gS]
       repeat'(first|refine yz ?_|refine yi (co0 n) hxn ?_|refine ba7 [0] rfl rfl rfl rfl (FnX.plain _) br1 ((en0 (l:=a::q) (s:=n.vr) hsk (by simp only[fk0]at*;omega))) rfl rfl rfl rfl rfl ?_)
       refine ac1 ?_;refine⟨(),rfl,?_⟩;rw[hL2];exact(bh0 [2,1])
    ·have hL2b:(dm5 L1 n.vr).length≤900001:=by unfold dm5;cases s0B n.vr||bx6 L1 n.vr<;>simp<;>omega
     generalize dm5 L1 n.vr=L2 at*;rcases hedge with⟨e,ge,hxe,hnE⟩|⟨ge,hnE⟩
     ·rw[hnE]at hnext;have hnext:dx5 L0 ((List.range (j+1)).flatMap (dw8 p.ns p.es))=dm5 L2 e.vr:=hnext
      cases hsk:s0B e.vr||bx6 L2 e.vr with
      |true=>
       have hL2:=dx8 hsk
       match L2,hsk,hL2,hL2b with
       |[],hsk,hL2,hL2b=>
        dsimp only[fS,gS];have hs0:s0B e.vr=true:=by simpa[bx6]using hsk
        repeat'(first|refine yz ?_|refine yi (co1 e) hxe ?_|refine bm9 [] rfl rfl rfl rfl (FnX.plain _) br1 ((em7 (s:=e.vr) hs0)) rfl rfl rfl rfl rfl ?_)
        refine ac1 ?_;refine⟨⟨j+1,by omega⟩,by dsimp only;omega,?_⟩;dsimp only;rw[hnext,hL2];exact(zle 2)
       |a::q,hsk,hL2,hL2b=>
        dsimp only[fS,gS]
        repeat'(first|refine yz ?_|refine yi (co1 e) hxe ?_|refine yc [0] br1 (em9 (l:=a::q) (s:=e.vr) hsk) ?_)
        refine ac1 ?_;refine⟨⟨j+1,by omega⟩,by dsimp only;omega,?_⟩;dsimp only;rw[hnext,hL2];exact(zle 2)
      |false=>
       have hL2:=dx9 hsk
       match L2,hsk,hL2,hL2b with
       |[],hsk,hL2,hL2b=>
        dsimp only[fS,gS];have hs0:s0B e.vr=false:=by simpa[bx6]using hsk
        repeat'(first|refine yz ?_|refine yi (co1 e) hxe ?_|refine bm9 [] rfl rfl rfl rfl (FnX.plain _) br1 ((em8 (s:=e.vr) hs0)) rfl rfl rfl rfl rfl ?_)
        refine ac1 ?_;refine⟨⟨j+1,by omega⟩,by dsimp only;omega,?_⟩;dsimp only;rw[hnext,hL2];exact(bh0 [2,1])
       |a::q,hsk,hL2,hL2b=>
        dsimp only[fS,gS]
        repeat'(first|refine yz ?_|refine yi (co1 e) hxe ?_|refine ba7 [0] rfl rfl rfl rfl (FnX.plain _) br1 ((en0 (l:=a::q) (s:=e.vr) hsk (by simp only[fk0]at*;omega))) rfl rfl rfl rfl rfl ?_)
        refine ac1 ?_;refine⟨⟨j+1,by omega⟩,by dsimp only;omega,?_⟩;dsimp only;rw[hnext,hL2];exact(bh0 [2,1])
     ·rw[hnE]at hnext;have hnext:dx5 L0 ((List.range (j+1)).flatMap (dw8 p.ns p.es))=L2:=hnext;rcases L2 with _|⟨a,q⟩
      ·dsimp only[fS,gS]
       repeat'(refine yz ?_)
       refine ac1 ?_;refine⟨⟨j+1,by omega⟩,by dsimp only;omega,?_⟩;dsimp only;rw[hnext];exact(zle 2)
      ·dsimp only[fS,gS]
       repeat'(refine yz ?_)
       refine ac1 ?_;refine⟨⟨j+1,by omega⟩,by dsimp only;omega,?_⟩;dsimp only;rw[hnext];exact(zle 2)
   ·rw[hnN]at hnext;have hlen:p.ns.length≤j:=by have:=of_decide_eq_false gn;rw[hln]at this;omega
    rcases hedge with⟨e,ge,hxe,hnE⟩|⟨ge,hnE⟩
    ·rw[hnE]at hnext;have hnext:dx5 L0 ((List.range (j+1)).flatMap (dw8 p.ns p.es))=dm5 L1 e.vr:=hnext
     cases hsk:s0B e.vr||bx6 L1 e.vr with
     |true=>
      have hL2:=dx8 hsk
      match L1,hsk,hL2,hL1b with
      |[],hsk,hL2,hL1b=>
       dsimp only[fS,gS];have hs0:s0B e.vr=true:=by simpa[bx6]using hsk
       repeat'(first|refine yz ?_|refine yi (co1 e) hxe ?_|refine bm9 [] rfl rfl rfl rfl (FnX.plain _) br1 ((em7 (s:=e.vr) hs0)) rfl rfl rfl rfl rfl ?_|refine yx ?_)
       refine ac1 ?_;refine⟨⟨j+1,by omega⟩,by dsimp only;omega,?_⟩;dsimp only;rw[hnext,hL2];exact(zle 2)
      |a::q,hsk,hL2,hL1b=>
       dsimp only[fS,gS]
       repeat'(first|refine yz ?_|refine yi (co1 e) hxe ?_|refine yc [0] br1 (em9 (l:=a::q) (s:=e.vr) hsk) ?_|refine yx ?_)
       refine ac1 ?_;refine⟨⟨j+1,by omega⟩,by dsimp only;omega,?_⟩;dsimp only;rw[hnext,hL2];exact(zle 2)
     |false=>
      have hL2:=dx9 hsk
      match L1,hsk,hL2,hL1b with
      |[],hsk,hL2,hL1b=>
       dsimp only[fS,gS];have hs0:s0B e.vr=false:=by simpa[bx6]using hsk
       repeat'(first|refine yz ?_|refine yi (co1 e) hxe ?_|refine bm9 [] rfl rfl rfl rfl (FnX.plain _) br1 ((em8 (s:=e.vr) hs0)) rfl rfl rfl rfl rfl ?_|refine yx ?_)
       refine ac1 ?_;refine⟨⟨j+1,by omega⟩,by dsimp only;omega,?_⟩;dsimp only;rw[hnext,hL2];exact(bh0 [2,1])
      |a::q,hsk,hL2,hL1b=>
       dsimp only[fS,gS]
       repeat'(first|refine yz ?_|refine yi (co1 e) hxe ?_|refine ba7 [0] rfl rfl rfl rfl (FnX.plain _) br1 ((en0 (l:=a::q) (s:=e.vr) hsk (by simp only[fk0]at*;omega))) rfl rfl rfl rfl rfl ?_|refine yx ?_)
       refine ac1 ?_;refine⟨⟨j+1,by omega⟩,by dsimp only;omega,?_⟩;dsimp only;rw[hnext,hL2];exact(bh0 [2,1])
    ·exfalso;have:=of_decide_eq_false ge;rw[hlee]at this;omega
  ·have gn:decide ((j:Int)<((p.ns.map co0).length:Int))=false:=by rw[hln];simp;omega
   have ge:decide ((j:Int)<((p.es.map co1).length:Int))=false:=by rw[hlee];simp;omega
   rw[←hlast hgj]at hend;clear hnode hedge hnext hlast
   cases hsk:s0B p.vr||bx6 L1 p.vr with
   |true=>
    have hL2:=dx8 hsk
    match L1,hsk,hL2,hL1b with
    |[],hsk,hL2,hL1b=>
     dsimp only[fS,gS];have hs0:s0B p.vr=true:=by simpa[bx6]using hsk
     repeat'(first|refine yz ?_|refine bm9 [] rfl rfl rfl rfl (FnX.plain _) br1 ((em7 (s:=p.vr) hs0)) rfl rfl rfl rfl rfl ?_|refine yx ?_)
     refine ac1 ?_;refine⟨⟨i+1,by omega⟩,by dsimp only;omega,?_⟩;dsimp only;rw[hend,hL2];exact(zle 1)
    |a::q,hsk,hL2,hL1b=>
     dsimp only[fS,gS]
     repeat'(first|refine yz ?_|refine yc [0] br1 (em9 (l:=a::q) (s:=p.vr) hsk) ?_|refine yx ?_)
     refine ac1 ?_;refine⟨⟨i+1,by omega⟩,by dsimp only;omega,?_⟩;dsimp only;rw[hend,hL2];exact(zle 1)
   |false=>
    have hL2:=dx9 hsk
    match L1,hsk,hL2,hL1b with
    |[],hsk,hL2,hL1b=>
     dsimp only[fS,gS];have hs0:s0B p.vr=false:=by simpa[bx6]using hsk
     repeat'(first|refine yz ?_|refine bm9 [] rfl rfl rfl rfl (FnX.plain _) br1 ((em8 (s:=p.vr) hs0)) rfl rfl rfl rfl rfl ?_|refine yx ?_)
     refine ac1 ?_;refine⟨⟨i+1,by omega⟩,by dsimp only;omega,?_⟩;dsimp only;rw[hend,hL2];exact(bh0 [2])
    |a::q,hsk,hL2,hL1b=>
     dsimp only[fS,gS]
     repeat'(first|refine yz ?_|refine ba7 [0] rfl rfl rfl rfl (FnX.plain _) br1 ((en0 (l:=a::q) (s:=p.vr) hsk (by simp only[fk0]at*;omega))) rfl rfl rfl rfl rfl ?_|refine yx ?_)
     refine ac1 ?_;refine⟨⟨i+1,by omega⟩,by dsimp only;omega,?_⟩;dsimp only;rw[hend,hL2];exact(bh0 [2])
 ·have g1:decide ((i:Int)<((l.map co2).length:Int))=false:=by rw[hle];simp;omega
  rw[fl4 hge];show go _ _ _ (an5 _ _ (.d (.sl ((dx5 [] (dm7 l)).map .str))));generalize dx5 [] (dm7 l)=o at*
  match o with
  |[]=>
   dsimp only[fS,gS];refine bh7 3 rfl ?_
   exact Ok
  |a::q=>
   dsimp only[fS,gS];refine au2 0 rfl ?_;dsimp only[ar6,ar5,ar8,ar7,List.map,List.set]
   exact Ok
end Go.Proofs.YtndgolmgaenlfaaGreatDoor
