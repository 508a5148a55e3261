/- As each says. -/
import Derived.Test.YtndgolmgaenlfaaGreatDoorPB
import Derived.Test.YtndgolmgaenlfaaGreatDoorPA
import Derived.Test.YtndgolmgaenlfaaGreatDoorCA
import Derived.Test.YtndgolmgaenlfaaGreatDoorMA
import Derived.Test.YtndgolmgaenlfaaGreatDoorGC
import Derived.Test.YtndgolmgaenlfaaGreatDoorCB
import Derived.Test.YtndgolmgaenlfaaGreatDoorFA
set_option linter.unusedVariables false
set_option linter.unusedSimpArgs false
namespace Go.Proofs.YtndgolmgaenlfaaGreatDoor
set_option maxRecDepth 4000
open Go Go.Abs Go.Val Go.RowKit Go.Proofs.Tryz
attribute [local irreducible] go SGo an1 Ev au8 EvO EvS RGo RGw PGo
def eo0(c:UInt8):Bool:=decide (48≤c) &&decide (c≤57)
structure SUn(s:ByteArray) where
 i:Nat
 h1:1≤i
 hi:i≤s.size
 ok:((s.data.toList.drop 1).all eo0)=((s.data.toList.drop i).all eo0)
theorem byteAt_get{s:ByteArray}{i:Nat}{c:UInt8}(h:s.data.toList[i]? =some c):ag0 s i=(c.toNat:Int):=by
 unfold ag0;rw[fu1,h];rfl
theorem eo1(s:ByteArray)(hmax:s.size≤9223372036854775807):Ev E 135 [.str s] (.d (.bool (do3 s))):=by
 have hsz:s.data.toList.length=s.size:=Oc
 unfold do3
 match hs:s.data.toList with
 |[]=>
  rw[hs]at hsz;have g1:decide ((s.size:Int)<2)=true:=by simp only[fq0]at hsz;simp;omega
  refine ye1 func135 ntmps135 fun _ _ _=>?_
  exact Ok
 |[_]=>
  rw[hs]at hsz;have g1:decide ((s.size:Int)<2)=true:=by simp only[fp5,fq0]at hsz;simp;omega
  refine ye1 func135 ntmps135 fun _ _ _=>?_
  exact Ok
 |a::b::r=>
  have hd1:s.data.toList.drop 1=b::r:=by rw[hs];rfl
  have hsz2:s.size=r.length+2:=by rw[←hsz,hs];rfl
  have g1:decide ((s.size:Int)<2)=false:=Og
  have hb0:ag0 s (0:Int).toNat=(a.toNat:Int):=byteAt_get (by rw[hs];rfl);have hb1:ag0 s (1:Int).toNat=(b.toNat:Int):=byteAt_get (by rw[hs];rfl)
  have ha:(ag0 s (0:Int).toNat !=95)= !(a==95):=by
   rw[hb0,fq3,bne_iff_ne,Bool.not_eq_true',beq_eq_false_iff_ne];exact⟨fun h e=>h (by rw[e];rfl),fun h e=>h (UInt8.toNat_inj.1 (by simpa using(by omega:a.toNat=95)))⟩
  have hb:(ag0 s (1:Int).toNat==48)=(b==48):=by
   rw[hb1,fq3,beq_iff_eq,beq_iff_eq];exact⟨fun h=>UInt8.toNat_inj.1 (by simpa using(by omega:b.toNat=48)),fun e=>by rw[e];rfl⟩
  show Ev E 135 [.str s] (.d (.bool (a==95&&(b !=48&&(b::r).all eo0))));have hbn:(b !=48)= !(b==48):=rfl;rw[hbn,←hd1];clear hb0 hb1 hbn
  cases c1:a==95 with
  |false=>
   rw[c1]at ha;have ha:(ag0 s (0:Int).toNat !=95)=true:=ha;refine ye1 func135 ntmps135 fun _ _ _=>?_
   exact Ok
  |true=>
  rw[c1]at ha;have ha:(ag0 s (0:Int).toNat !=95)=false:=ha
  cases c2:b==48 with
  |true=>
   rw[c2]at hb;refine ye1 func135 ntmps135 fun _ _ _=>?_
   exact Ok
  |false=>
  rw[c2]at hb;show Ev E 135 [.str s] (.d (.bool ((s.data.toList.drop 1).all eo0)));refine ye1 func135 ntmps135 fun _ _ _=>?_
  repeat'(first|refine yz ?_|refine yx ?_)
  refine ac7 (α:=SUn s) (fun p=>⟨[(0,.d (.str s)),(3,.d (.int p.i))],[]⟩) (fun p=>s.size-p.i) ⟨1,by omega,by omega,rfl⟩ (zle 0) ?_;rintro⟨i,h1,hi,ok⟩;dsimp only;rcases fp2 i s.size with hlt|hge
  ·have g2:decide ((i:Int)<(s.size:Int))=true:=by simpa using hlt
   have hx0:=fp1 (l:=s.data.toList) (i:=i) Oa;generalize s.data.toList[i]'Oa=c at hx0;have hby:ag0 s (i:Int).toNat=(c.toNat:Int):=byteAt_get (by rw[fr2];exact hx0);have hdr:s.data.toList.drop i=c::s.data.toList.drop (i+1):=bu9 hx0;rw[hdr,ft3]at ok
   cases c3:decide (ag0 s (i:Int).toNat<48)with
   |true=>
    have hf:eo0 c=false:=by
     have h:=of_decide_eq_true c3;rw[hby]at h;unfold eo0;rw[show decide (48≤c)=false by simp only[decide_eq_false_iff_not,UInt8.le_iff_toNat_le];show ¬ 48≤c.toNat;omega];rfl
    rw[hf,fu5]at ok;rw[ok]
    exact Ok
   |false=>
   cases c4:decide (ag0 s (i:Int).toNat>57)with
   |true=>
    have hf:eo0 c=false:=by
     have h:=of_decide_eq_true c4;rw[hby]at h;unfold eo0;rw[show decide (c≤57)=false by simp only[decide_eq_false_iff_not,UInt8.le_iff_toNat_le];show ¬ c.toNat≤57;omega];rw[Bool.and_false]
    rw[hf,fu5]at ok;rw[ok]
    exact Ok
   |false=>
    have hf:eo0 c=true:=by
     have h3:=of_decide_eq_false c3;have h4:=of_decide_eq_false c4;rw[hby]at h3 h4;unfold eo0;rw[fq9,decide_eq_true_eq,decide_eq_true_eq,UInt8.le_iff_toNat_le,UInt8.le_iff_toNat_le];show 48≤c.toNat∧c.toNat≤57;omega
    rw[hf,fs6]at ok
    repeat'(first|refine yz ?_|refine yx ?_)
    refine ac1 ?_;exact⟨⟨i+1,by omega,by omega,ok⟩,by dsimp only;omega,(zle 0)⟩
  ·have g2:decide ((i:Int)<(s.size:Int))=false:=by simp;omega
   have en:s.data.toList.drop i=[]:=fp8 (by rw[hsz];omega);rw[en]at ok;rw[ok]
   exact Ok
abbrev oCJK(c:CJ):aa5:=.var 26 (.w (.d (cd9 c)))
structure SMu(vs:List ByteArray) where
 i:Nat
 hi:i≤vs.length
 ok:(vs.take i).all (fun s=>cn4 s||do3 s)=true
set_option maxHeartbeats 2000000 in
theorem eo2(c:CJ)(hl:c.vs.length≤1000000):Ev E 71 [cd9 c] (.tup [.sl ((do9 c).1.map .str),.int (do9 c).2]):=Ev.fit fun hfit=>by
 have hk:=dw6 c
 have hfs:∀s∈c.vs,s.size≤maxLen:=fun s hs=>by
  have h:=(hfit (cd9 c) Oc).aggs (.sl (c.vs.map .str)) (by simp[cd9]);exact((cv4 h).2 s hs).str
 unfold do9;obtain⟨vs,as28⟩:=c;dsimp only at hl hfs ⊢;have hle:(vs.map D.str).length=vs.length:=Oc
 generalize hC:dm6 ⟨vs,as28⟩=z at*
 cases hz:z !=0 with
 |true=>
  rw[cond_true];unfold erR;refine ye1 func71 ntmps71 fun _ _ _=>?_
  repeat'(first|refine yz ?_|refine yp b134 hk ?_|exact zL)
 |false=>
  have hz0:z=0:=by simpa using hz
  rw[cond_false];subst hz0;clear hz;refine ye1 func71 ntmps71 fun _ _ _=>?_
  repeat'(first|refine yz ?_|refine yp b134 hk ?_)
  refine ac7 (α:=SMu vs) (fun p=>⟨[(1,.ptr 0 0),(5,.d (.int p.i))],[oCJK ⟨vs,as28⟩]⟩) (fun p=>vs.length-p.i) ⟨0,by omega,rfl⟩ (zle 1) ?_;rintro⟨i,hi,ok⟩;dsimp only;rcases fp2 i vs.length with hlt|hge
  ·have g1:decide ((i:Int)<((vs.map D.str).length:Int))=true:=by rw[hle];simpa using hlt
   have hx0:=fp1 hlt;generalize vs[i]=x at hx0;have hx:=cv3 (f:=D.str) hx0;have hm:=fp3 hx0;have hw:=cn7 x;have hu:=eo1 x (hfs x hm)
   have hno:(cn4 x||do3 x)=false→(vs.all fun s=>cn4 s||do3 s)=false:=fun h=>by
    rw[←fv6];intro ha;have:=fr7.1 ha x hm;rw[h]at this
    cases this
   have hyes:(cn4 x||do3 x)=true→(vs.take (i+1)).all (fun s=>cn4 s||do3 s)=true:=fun h=>by
    rw[fs5,hx0,List.all_append,ok];simp[h]
   cases c1:cn4 x with
   |true=>
    rw[c1]at hw
    repeat'(first|refine yz ?_|refine yi (.str x) hx ?_|refine yp b77 hw ?_)
    refine ac1 ?_;exact⟨⟨i+1,by omega,hyes (by rw[c1];rfl)⟩,by dsimp only;omega,(zle 1)⟩
   |false=>
   rw[c1]at hw
   cases c2:do3 x with
   |true=>
    rw[c2]at hu
    repeat'(first|refine yz ?_|refine yi (.str x) hx ?_|refine yp b77 hw ?_|refine yp b135 hu ?_)
    refine ac1 ?_;exact⟨⟨i+1,by omega,hyes (by rw[c1,c2];rfl)⟩,by dsimp only;omega,(zle 1)⟩
   |false=>
    rw[c2]at hu;rw[hno (by rw[c1,c2];rfl),cond_false];unfold erR
    repeat'(first|refine yz ?_|refine yi (.str x) hx ?_|refine yp b77 hw ?_|refine yp b135 hu ?_|exact zL)
  ·have g1:decide ((i:Int)<((vs.map D.str).length:Int))=false:=by rw[hle];simp;omega
   rw[fq6 hge]at ok;rw[ok,cond_true];clear hfs hk
   by_cases h0:vs=[]
   ·subst h0
    repeat'(first|(refine bm2 ?_)|(refine bm3 ?_)|refine yz ?_)
    refine bm6 2 rfl ?_
    repeat'(first|refine qM rfl rfl rfl ?_|exact zL)
   ·have hne:vs.map D.str≠ []:=by simpa using h0
    have hac:∀d∈vs.map D.str,d.cells.length=1:=fun d hd=>by obtain⟨s,-,rfl⟩:=fq8.1 hd;rfl
    repeat'(first|(refine bm2 ?_)|refine yz ?_|(refine bm4 ?_ ?_;exact⟨hne,hac,by(show(vs.map D.str).length*16≤140737488355328;omega),by(show(vs.map D.str).length≤9223372036854775807;omega)⟩))
    refine au2 1 rfl ?_;dsimp only[ar6,ar5,ar8,ar7,List.map,List.set]
    repeat'(first|refine qM rfl rfl rfl ?_|exact zL)
abbrev oPAk(p:PA):aa5:=.var 69 (.w (.d (cp4 p)))
structure SKp{α:Type}(l:List α)(f:α→Bool) where
 i:Nat
 hi:i≤l.length
 ok:(l.take i).all f=true
theorem SKp.next{α:Type}{l:List α}{f:α→Bool}{i:Nat}{x:α}(h:l[i]? =some x)(ok:(l.take i).all f=true)(hx:f x=true):(l.take (i+1)).all f=true:=by
 rw[fs5,h,List.all_append,ok];simp[hx]
theorem eo3{α:Type}{l:List α}{f:α→Bool}{x:α}(h:x∈l)(hx:f x=false):l.all f=false:=by
 rw[←fv6];intro ha;have:=fr7.1 ha x h;rw[hx]at this
 cases this
def eo4(cols:List ByteArray)(n:NP):Bool:=n.ps.all fun q=>df2 q.e cols
def eo5(cols:List ByteArray)(n:EP):Bool:=n.ps.all fun q=>df2 q.e cols
def prA(cols:List ByteArray)(p:PA):Bool:=p.ns.all (eo4 cols) &&p.es.all (eo5 cols)
theorem prx_A(cols:List ByteArray)(l:List PA):((dp0 l).all fun e=>df2 e cols)=l.all (prA cols):=by
 rw[eh6];unfold eh5;rw[fq3];simp only[List.all_map,fr7,Function.comp,fw3,fr6,prA,eo4,eo5,fq9];constructor
 ·intro h p hp;exact⟨fun n hn q hq=>h q ⟨p,hp,.inl ⟨n,hn,hq⟩⟩,fun n hn q hq=>h q ⟨p,hp,.inr ⟨n,hn,hq⟩⟩⟩
 ·rintro h q ⟨p,hp,⟨n,hn,hq⟩|⟨n,hn,hq⟩⟩
  ·exact(h p hp).1 n hn q hq
  ·exact(h p hp).2 n hn q hq
theorem eo6{l:List PP}{i:Nat}{q:PP}(h:l[i]? =some q):(l.map cp1)[(i:Int).toNat]? =some (cp1 q):=cv3 (f:=cp1) h
set_option maxHeartbeats 4000000 in
theorem eo7(p:PA)(cols:List ByteArray)(hsm:∀q∈p.ns.flatMap NP.ps++p.es.flatMap EP.ps,smE q.e):Ev E 138 [cp4 p,.sl (cols.map .str)] (.d (.bool (prA cols p))):=Ev.fit fun hfit=>by
 have hf:=(hfit (cp4 p) Oc).aggs;have hfn:=cv4 (hf (.sl (p.ns.map cp2)) (by simp[cp4]));have hfe:=cv4 (hf (.sl (p.es.map cp3)) (by simp[cp4]));have hpn:∀n∈p.ns,n.ps.length≤maxLen:=fun n hn=>(cv4 ((hfn.2 n hn).aggs (.sl (n.ps.map cp1)) (by simp[cp2]))).1
 have hpe:∀n∈p.es,n.ps.length≤maxLen:=fun n hn=>(cv4 ((hfe.2 n hn).aggs (.sl (n.ps.map cp1)) (by simp[cp3]))).1
 have hln:(p.ns.map cp2).length=p.ns.length:=Oc
 have hle:(p.es.map cp3).length=p.es.length:=Oc
 have hnl:p.ns.length≤9223372036854775807:=hfn.1;have hel:p.es.length≤9223372036854775807:=hfe.1;have hsn:∀n∈p.ns,∀q∈n.ps,nd q.e≤1000000:=fun n hn q hq=>hsm q (fr6.2 (.inl (fw3.2 ⟨n,hn,hq⟩)))
 have hse:∀n∈p.es,∀q∈n.ps,nd q.e≤1000000:=fun n hn q hq=>hsm q (fr6.2 (.inr (fw3.2 ⟨n,hn,hq⟩)))
 have hu:prA cols p=(p.ns.all (eo4 cols) &&p.es.all (eo5 cols)):=rfl;rw[hu];clear hf hfn hfe hfit hsm hu;refine ye2 func138 ntmps138 fun _ _ _=>?_
 repeat'(refine yz ?_)
 refine ac7 (α:=SKp p.ns (eo4 cols)) (fun s=>⟨[(1,.d (.sl (cols.map .str))),(2,.ptr 0 0),(5,.d (.int s.i))],[oPAk p]⟩) (fun s=>p.ns.length-s.i) ⟨0,by omega,rfl⟩ (zle 1) ?_;rintro⟨i,hi,ok⟩;dsimp only;rcases fp2 i p.ns.length with hlt|hge
 ·have g1:decide ((i:Int)<((p.ns.map cp2).length:Int))=true:=by rw[hln];simpa using hlt
  have hx0:=fp1 hlt;generalize p.ns[i]=y at hx0;have hx:=cv3 (f:=cp2) hx0;have hm:=fp3 hx0;have hyl:y.ps.length≤9223372036854775807:=hpn y hm;have hym:=hsn y hm;have hlp:(y.ps.map cp1).length=y.ps.length:=Oc
  repeat'(refine yz ?_)
  refine ac7 (α:=SKp y.ps fun q=>df2 q.e cols) (fun s=>⟨[(1,.d (.sl (cols.map .str))),(2,.ptr 0 0),(5,.d (.int i)),(6,.d (.int s.i))],[oPAk p]⟩) (fun s=>y.ps.length-s.i) ⟨0,by omega,rfl⟩ (zle 1) ?_;rintro⟨k,hk,okk⟩;dsimp only;rcases fp2 k y.ps.length with hlt2|hge2
  ·have g2:decide ((k:Int)<((y.ps.map cp1).length:Int))=true:=by rw[hlp];simpa using hlt2
   have hq0:=fp1 hlt2;generalize y.ps[k]=q at hq0;have hq:=eo6 hq0;have hqm:=fp3 hq0;have hc:=en7 q.e cols (hym q hqm)
   cases hkn:df2 q.e cols with
   |true=>
    rw[hkn]at hc
    repeat'(first|refine yz ?_|refine yi (cp2 y) hx ?_|refine yi (cp1 q) hq ?_|refine yp bp8 hc ?_)
    refine ac1 ?_;exact⟨⟨k+1,by omega,SKp.next hq0 okk hkn⟩,by dsimp only;omega,(zle 1)⟩
   |false=>
    rw[hkn]at hc;have hno:p.ns.all (eo4 cols)=false:=eo3 hm (eo3 (f:=fun q:PP=>df2 q.e cols) hqm hkn);rw[hno,fu5]
    repeat'(first|refine yz ?_|refine yi (cp2 y) hx ?_|refine yi (cp1 q) hq ?_|refine yp bp8 hc ?_|exact zD)
  ·have g2:decide ((k:Int)<((y.ps.map cp1).length:Int))=false:=by rw[hlp];simp;omega
   have hfy:eo4 cols y=true:=by rw[fq6 hge2]at okk;exact okk
   repeat'(first|refine yz ?_|refine yi (cp2 y) hx ?_)
   refine ac1 ?_;exact⟨⟨i+1,by omega,SKp.next hx0 ok hfy⟩,by dsimp only;omega,(zle 1)⟩
 ·have g1:decide ((i:Int)<((p.ns.map cp2).length:Int))=false:=by rw[hln];simp;omega
  rw[fq6 hge]at ok;rw[ok]
  repeat'(refine yz ?_)
  rw[fs6];refine ac7 (α:=SKp p.es (eo5 cols)) (fun s=>⟨[(1,.d (.sl (cols.map .str))),(2,.ptr 0 0),(7,.d (.int s.i))],[oPAk p]⟩) (fun s=>p.es.length-s.i) ⟨0,by omega,rfl⟩ (zle 1) ?_;rintro⟨i,hi,ok⟩;dsimp only;rcases fp2 i p.es.length with hlt|hge
  ·have g1:decide ((i:Int)<((p.es.map cp3).length:Int))=true:=by rw[hle];simpa using hlt
   have hx0:=fp1 hlt;generalize p.es[i]=y at hx0;have hx:=cv3 (f:=cp3) hx0;have hm:=fp3 hx0;have hyl:y.ps.length≤9223372036854775807:=hpe y hm;have hym:=hse y hm;have hlp:(y.ps.map cp1).length=y.ps.length:=Oc
   repeat'(refine yz ?_)
   refine ac7 (α:=SKp y.ps fun q=>df2 q.e cols) (fun s=>⟨[(1,.d (.sl (cols.map .str))),(2,.ptr 0 0),(7,.d (.int i)),(8,.d (.int s.i))],[oPAk p]⟩) (fun s=>y.ps.length-s.i) ⟨0,by omega,rfl⟩ (zle 1) ?_;rintro⟨k,hk,okk⟩;dsimp only;rcases fp2 k y.ps.length with hlt2|hge2
   ·have g2:decide ((k:Int)<((y.ps.map cp1).length:Int))=true:=by rw[hlp];simpa using hlt2
    have hq0:=fp1 hlt2;generalize y.ps[k]=q at hq0;have hq:=eo6 hq0;have hqm:=fp3 hq0;have hc:=en7 q.e cols (hym q hqm)
    cases hkn:df2 q.e cols with
    |true=>
     rw[hkn]at hc
     repeat'(first|refine yz ?_|refine yi (cp3 y) hx ?_|refine yi (cp1 q) hq ?_|refine yp bp8 hc ?_)
     refine ac1 ?_;exact⟨⟨k+1,by omega,SKp.next hq0 okk hkn⟩,by dsimp only;omega,(zle 1)⟩
    |false=>
     rw[hkn]at hc;have hno:p.es.all (eo5 cols)=false:=eo3 hm (eo3 (f:=fun q:PP=>df2 q.e cols) hqm hkn);rw[hno]
     repeat'(first|refine yz ?_|refine yi (cp3 y) hx ?_|refine yi (cp1 q) hq ?_|refine yp bp8 hc ?_|exact zD)
   ·have g2:decide ((k:Int)<((y.ps.map cp1).length:Int))=false:=by rw[hlp];simp;omega
    have hfy:eo5 cols y=true:=by rw[fq6 hge2]at okk;exact okk
    repeat'(first|refine yz ?_|refine yi (cp3 y) hx ?_)
    refine ac1 ?_;exact⟨⟨i+1,by omega,SKp.next hx0 ok hfy⟩,by dsimp only;omega,(zle 1)⟩
  ·have g1:decide ((i:Int)<((p.es.map cp3).length:Int))=false:=by rw[hle];simp;omega
   rw[fq6 hge]at ok;rw[ok]
   exact Ok
end Go.Proofs.YtndgolmgaenlfaaGreatDoor
namespace Go.Proofs.YtndgolmgaenlfaaGreatDoor
set_option maxRecDepth 4000
open Go Go.Abs Go.Val Go.RowKit Go.Proofs.Tryz
attribute [local irreducible] go SGo an1 Ev au8 EvO EvS RGo PGo
theorem eo8(l:List ByteArray)(s:ByteArray):EvS E 17 [.own 0,.d (.str s)] [.row 9 1 (l.map .str)] (.d (.bool (by1 l s))) [.row 9 1 (l.map .str)]:=
 dx0 (ds:=[]) (es:=[.str s]) (by3 l s)
theorem eo9{s:ByteArray}(h:s0B s=true):EvS E 215 [.nilS,.d (.str s)] [] .nilS []:=by
 have g0:(s.toList==(⟨#[]⟩:ByteArray).toList)=true:=h;refine yn func215 ntmps215 fun _ _ _ _=>?_
 repeat'(first|refine yz ?_|refine bb2 [] rfl rfl rfl rfl rfl ?_|refine yx ?_)
 all_goals rfl
theorem ep0{s:ByteArray}(h:s0B s=false):EvS E 215 [.nilS,.d (.str s)] [] (.own 0) [rS [s]]:=by
 have g0:(s.toList==(⟨#[]⟩:ByteArray).toList)=false:=h;have hc:=by3 [] s;have hc:Ev E 17 [.sl [],.str s] (.d (.bool false)):=hc;refine yn func215 ntmps215 fun _ _ _ _=>?_
 repeat'(first|refine yz ?_|refine yp b17 hc ?_|(refine qS rfl ⟨by simp,fun d hd=>by(obtain rfl:=fq2.1 hd;rfl),by(show(0+1)*16≤140737488355328;omega),by(show 0+1≤9223372036854775807;omega)⟩ ?_)|refine bb2 [0] rfl rfl rfl rfl rfl ?_|refine yx ?_)
 all_goals rfl
theorem ep1{s:ByteArray}{l:List ByteArray}(h:(s0B s||by1 l s)=true):EvS E 215 [.own 0,.d (.str s)] [rS l] (.own 0) [rS l]:=by
 have hc:=eo8 l s
 cases h0:s0B s with
 |true=>
  have g0:(s.toList==(⟨#[]⟩:ByteArray).toList)=true:=h0;refine yn func215 ntmps215 fun _ _ _ _=>?_
  repeat'(first|refine yz ?_|refine bb2 [0] rfl rfl rfl rfl rfl ?_|refine yx ?_)
  all_goals rfl
 |false=>
  have g0:(s.toList==(⟨#[]⟩:ByteArray).toList)=false:=h0;rw[h0,fs4]at h;rw[h]at hc;refine yn func215 ntmps215 fun _ _ _ _=>?_
  repeat'(first|refine yz ?_|refine yc [0] b17 (hc) ?_|refine bb2 [0] rfl rfl rfl rfl rfl ?_|refine yx ?_)
  all_goals rfl
theorem ep2{s:ByteArray}{l:List ByteArray}(h:(s0B s||by1 l s)=false)(hl:l.length≤1000000):EvS E 215 [.own 0,.d (.str s)] [rS l] (.own 1) [.dead,rS (l++ [s])]:=by
 have hc:=eo8 l s;rw[ft4]at h;have g0:(s.toList==(⟨#[]⟩:ByteArray).toList)=false:=h.1;rw[h.2]at hc;have hle:(l.map D.str).length=l.length:=Oc
 have hm:(l++ [s]).map D.str=l.map D.str++ [.str s]:=Oc
 unfold rS;rw[hm];refine yn func215 ntmps215 fun _ _ _ _=>?_
 repeat'(first|refine yz ?_|refine yc [0] b17 (hc) ?_|(refine qS rfl ⟨by simp,fun d hd=>by(obtain rfl:=fq2.1 hd;rfl),by(show((l.map D.str).length+1)*16≤140737488355328;omega),by(show(l.map D.str).length+1≤9223372036854775807;omega)⟩ ?_)|refine bb2 [0,1] rfl rfl rfl rfl rfl ?_|refine yx ?_)
 all_goals rfl
theorem ep3(ns:List NP)(es:List EP){j:Nat}(hj:j≤max ns.length es.length):((List.range j).flatMap (dy8 ns es)).length≤(do6 ns es).length:=by
 have h3:=dz3 ns es (max ns.length es.length) Oa Oa
 have h4:List.range (max ns.length es.length)=List.range j++(List.range (max ns.length es.length)).drop j:=by
  have h5:=fv5 j (List.range (max ns.length es.length));rw[List.take_range,Nat.min_eq_left hj]at h5;exact h5.symm
 rw[h4,fw7]at h3;have:=congrArg List.length h3;rw[fp4]at this;omega
set_option maxHeartbeats 8000000 in
theorem ep4(l:List PA)(hsm:(do7 l).length≤900000)(hn:∀p∈l,p.ns.length≤1000000∧p.es.length≤1000000):Ev E 137 [.sl (l.map cp4)] (.d (.sl ((do8 l).map .str))):=Ev.fit fun hfit=>by
 have hmax:l.length≤9223372036854775807:=(cv4 (hfit (.sl (l.map cp4)) Oc)).1;have hle:(l.map cp4).length=l.length:=Oc
 refine ye1 func137 ntmps137 fun _ _ _=>?_
 repeat'(refine yz ?_)
 refine bk1 ?_;refine ac7 (α:=SVo l) (fun p=>⟨[(0,.d (.sl (l.map cp4))),(3,fS 0 (dz5 [] (do7 (l.take p.i)))),(4,.d (.int p.i))],[gS (dz5 [] (do7 (l.take p.i)))]⟩) (fun p=>l.length-p.i) ⟨0,by omega⟩ (zle 1) ?_;rintro⟨i,hi⟩;dsimp only;rcases fp2 i l.length with hlt|hge
 ·have g1:decide ((i:Int)<((l.map cp4).length:Int))=true:=by rw[hle];simpa using hlt
  have hx0:=fp1 hlt;generalize l[i]=p at hx0;have hx:=cv3 (f:=cp4) hx0;have hpm:=fp3 hx0;obtain⟨hns,hes⟩:=hn p hpm;have hln:(p.ns.map cp2).length=p.ns.length:=Oc
  have hlee:(p.es.map cp3).length=p.es.length:=Oc
  have htk:do7 (l.take (i+1))=do7 (l.take i)++(do6 p.ns p.es++ [p.vr]):=by unfold do7;rw[fs5,hx0,fw7];simp
  have hbnd:(do7 (l.take (i+1))).length≤900000:=by
   have h:do7 l=do7 (l.take (i+1))++do7 (l.drop (i+1)):=by unfold do7;rw[←fw7,fv5]
   have:=congrArg List.length h;rw[fp4]at this;omega
  rw[htk,fp4,fp4]at hbnd;simp only[fp5,fq0]at hbnd;obtain⟨L0,hL0⟩:∃L0,L0=dz5 [] (do7 (l.take i)):=⟨_,rfl⟩;have hL0l:L0.length≤(do7 (l.take i)).length:=by rw[hL0];have:=dz7 (do7 (l.take i)) [];simpa using this
  have hend:dz5 [] (do7 (l.take (i+1)))=do5 (dz5 L0 (do6 p.ns p.es)) p.vr:=by rw[htk,dz6,dz6,←hL0];rfl
  rw[←hL0];clear hL0
  repeat'(first|refine yz ?_|refine yi (cp4 p) hx ?_)
  refine ac7 (α:=SVi (max p.ns.length p.es.length)) (fun q=>⟨[(0,.d (.sl (l.map cp4))),(3,fS 0 (dz5 L0 ((List.range q.j).flatMap (dy8 p.ns p.es)))),(4,.d (.int i)),(5,.ptr 1 0),(6,.d (.int q.j))],[gS (dz5 L0 ((List.range q.j).flatMap (dy8 p.ns p.es))),oPAp p]⟩) (fun q=>max p.ns.length p.es.length-q.j) ⟨0,by omega⟩ (by
   dsimp only;show Le _ _ ⟨[_,(3,fS 0 L0),_,_,_],[gS L0,_]⟩;rcases L0 with _|⟨a0,q0⟩<;>exact(zle 2)) ?_
  rintro⟨j,hj⟩;dsimp only
  have hL1b:(dz5 L0 ((List.range j).flatMap (dy8 p.ns p.es))).length≤900000:=by
   have h1:=dz7 ((List.range j).flatMap (dy8 p.ns p.es)) L0;have h2:=ep3 p.ns p.es hj;omega
  have hnext:dz5 L0 ((List.range (j+1)).flatMap (dy8 p.ns p.es))=dz5 (dz5 (dz5 L0 ((List.range j).flatMap (dy8 p.ns p.es))) (nN p.ns j)) (nE p.es j):=by rw[dy9,dz6,dy8,dz6]
  have hlast:max p.ns.length p.es.length≤j→dz5 L0 ((List.range j).flatMap (dy8 p.ns p.es))=dz5 L0 (do6 p.ns p.es):=fun h=>by rw[dz3 p.ns p.es j Oa Oa]
  generalize dz5 L0 ((List.range j).flatMap (dy8 p.ns p.es))=L1 at*
  have hnode:(∃n,decide ((j:Int)<((p.ns.map cp2).length:Int))=true∧(p.ns.map cp2)[((j:Nat):Int).toNat]? =some (cp2 n)∧nN p.ns j=[n.vr])∨(decide ((j:Int)<((p.ns.map cp2).length:Int))=false∧nN p.ns j=[]):=by
   rcases fp2 j p.ns.length with h|h
   ·have h0:=fp1 h;exact .inl ⟨_,by rw[hln];simpa using h,cv3 (f:=cp2) h0,ea0 h0⟩
   ·exact .inr ⟨by rw[hln];simp;omega,ea1 h⟩
  have hedge:(∃n,decide ((j:Int)<((p.es.map cp3).length:Int))=true∧(p.es.map cp3)[((j:Nat):Int).toNat]? =some (cp3 n)∧nE p.es j=[n.vr])∨(decide ((j:Int)<((p.es.map cp3).length:Int))=false∧nE p.es j=[]):=by
   rcases fp2 j p.es.length with h|h
   ·have h0:=fp1 h;exact .inl ⟨_,by rw[hlee];simpa using h,cv3 (f:=cp3) h0,ea2 h0⟩
   ·exact .inr ⟨by rw[hlee];simp;omega,ea3 h⟩
  rcases fp2 j (max p.ns.length p.es.length)with hlj|hgj
  ·rcases hnode with⟨n,gn,hxn,hnN⟩|⟨gn,hnN⟩
   ·rw[hnN]at hnext;have hnext:dz5 L0 ((List.range (j+1)).flatMap (dy8 p.ns p.es))=dz5 (do5 L1 n.vr) (nE p.es j):=hnext
    repeat'(first|(refine bn0 35 (fun(_:Unit)=>⟨[(0,.d (.sl (l.map cp4))),(3,fS 0 (do5 L1 n.vr)),(4,.d (.int i)),(5,.ptr 1 0),(6,.d (.int j))],[gS (do5 L1 n.vr),oPAp p]⟩) () ?_ ?_)|refine yz ?_|refine yx ?_)
    ·cases hsk:s0B n.vr||by1 L1 n.vr with
     |true=>
      have hL2:=dz8 hsk
      match L1,hsk,hL2,hL1b with
      |[],hsk,hL2,hL1b=>
       dsimp only[fS,gS];have hs0:s0B n.vr=true:=by simpa[by1]using hsk
       repeat'(first|refine yz ?_|refine yi (cp2 n) hxn ?_|refine bm9 [] rfl rfl rfl rfl (FnX.plain _) br3 ((eo9 (s:=n.vr) hs0)) rfl rfl rfl rfl rfl ?_)
       refine ac1 ?_;refine⟨(),rfl,?_⟩;rw[hL2];exact(zle 2)
      |a::q,hsk,hL2,hL1b=>
       dsimp only[fS,gS]
       repeat'(first|refine yz ?_|refine yi (cp2 n) hxn ?_|refine yc [0] br3 (ep1 (l:=a::q) (s:=n.vr) hsk) ?_)
       refine ac1 ?_;refine⟨(),rfl,?_⟩;rw[hL2];exact(zle 2)
     |false=>
      have hL2:=dz9 hsk
      match L1,hsk,hL2,hL1b with
      |[],hsk,hL2,hL1b=>
       dsimp only[fS,gS];have hs0:s0B n.vr=false:=by simpa[by1]using hsk
       repeat'(first|refine yz ?_|refine yi (cp2 n) hxn ?_|refine bm9 [] rfl rfl rfl rfl (FnX.plain _) br3 ((ep0 (s:=n.vr) hs0)) rfl rfl rfl rfl rfl ?_)
       refine ac1 ?_;refine⟨(),rfl,?_⟩;rw[hL2];exact(bh0 [2,1])
      |a::q,hsk,hL2,hL1b=>
       dsimp only[fS,gS]
       repeat'(first|refine yz ?_|refine yi (cp2 n) hxn ?_|refine ba7 [0] rfl rfl rfl rfl (FnX.plain _) br3 ((ep2 (l:=a::q) (s:=n.vr) hsk (by simp only[fp5]at*;omega))) rfl rfl rfl rfl rfl ?_)
       refine ac1 ?_;refine⟨(),rfl,?_⟩;rw[hL2];exact(bh0 [2,1])
    ·have hL2b:(do5 L1 n.vr).length≤900001:=by unfold do5;cases s0B n.vr||by1 L1 n.vr<;>simp<;>omega
     generalize do5 L1 n.vr=L2 at*;rcases hedge with⟨e,ge,hxe,hnE⟩|⟨ge,hnE⟩
     ·rw[hnE]at hnext;have hnext:dz5 L0 ((List.range (j+1)).flatMap (dy8 p.ns p.es))=do5 L2 e.vr:=hnext
      cases hsk:s0B e.vr||by1 L2 e.vr with
      |true=>
       have hL2:=dz8 hsk
       match L2,hsk,hL2,hL2b with
       |[],hsk,hL2,hL2b=>
        dsimp only[fS,gS];have hs0:s0B e.vr=true:=by simpa[by1]using hsk
        repeat'(first|refine yz ?_|refine yi (cp3 e) hxe ?_|refine bm9 [] rfl rfl rfl rfl (FnX.plain _) br3 ((eo9 (s:=e.vr) hs0)) rfl rfl rfl rfl rfl ?_)
        refine ac1 ?_;refine⟨⟨j+1,by omega⟩,by dsimp only;omega,?_⟩;dsimp only;rw[hnext,hL2];exact(zle 2)
       |a::q,hsk,hL2,hL2b=>
        dsimp only[fS,gS]
        repeat'(first|refine yz ?_|refine yi (cp3 e) hxe ?_|refine yc [0] br3 (ep1 (l:=a::q) (s:=e.vr) hsk) ?_)
        refine ac1 ?_;refine⟨⟨j+1,by omega⟩,by dsimp only;omega,?_⟩;dsimp only;rw[hnext,hL2];exact(zle 2)
      |false=>
       have hL2:=dz9 hsk
       match L2,hsk,hL2,hL2b with
       |[],hsk,hL2,hL2b=>
        dsimp only[fS,gS];have hs0:s0B e.vr=false:=by simpa[by1]using hsk
        repeat'(first|refine yz ?_|refine yi (cp3 e) hxe ?_|refine bm9 [] rfl rfl rfl rfl (FnX.plain _) br3 ((ep0 (s:=e.vr) hs0)) rfl rfl rfl rfl rfl ?_)
        refine ac1 ?_;refine⟨⟨j+1,by omega⟩,by dsimp only;omega,?_⟩;dsimp only;rw[hnext,hL2];exact(bh0 [2,1])
       |a::q,hsk,hL2,hL2b=>
        dsimp only[fS,gS]
        repeat'(first|refine yz ?_|refine yi (cp3 e) hxe ?_|refine ba7 [0] rfl rfl rfl rfl (FnX.plain _) br3 ((ep2 (l:=a::q) (s:=e.vr) hsk (by simp only[fp5]at*;omega))) rfl rfl rfl rfl rfl ?_)
        refine ac1 ?_;refine⟨⟨j+1,by omega⟩,by dsimp only;omega,?_⟩;dsimp only;rw[hnext,hL2];exact(bh0 [2,1])
     ·rw[hnE]at hnext;have hnext:dz5 L0 ((List.range (j+1)).flatMap (dy8 p.ns p.es))=L2:=hnext;rcases L2 with _|⟨a,q⟩
      ·dsimp only[fS,gS]
       repeat'(refine yz ?_)
       refine ac1 ?_;refine⟨⟨j+1,by omega⟩,by dsimp only;omega,?_⟩;dsimp only;rw[hnext];exact(zle 2)
      ·dsimp only[fS,gS]
       repeat'(refine yz ?_)
       refine ac1 ?_;refine⟨⟨j+1,by omega⟩,by dsimp only;omega,?_⟩;dsimp only;rw[hnext];exact(zle 2)
   ·rw[hnN]at hnext;have hlen:p.ns.length≤j:=by have:=of_decide_eq_false gn;rw[hln]at this;omega
    rcases hedge with⟨e,ge,hxe,hnE⟩|⟨ge,hnE⟩
    ·rw[hnE]at hnext;have hnext:dz5 L0 ((List.range (j+1)).flatMap (dy8 p.ns p.es))=do5 L1 e.vr:=hnext
     cases hsk:s0B e.vr||by1 L1 e.vr with
     |true=>
      have hL2:=dz8 hsk
      match L1,hsk,hL2,hL1b with
      |[],hsk,hL2,hL1b=>
       dsimp only[fS,gS];have hs0:s0B e.vr=true:=by simpa[by1]using hsk
       repeat'(first|refine yz ?_|refine yi (cp3 e) hxe ?_|refine bm9 [] rfl rfl rfl rfl (FnX.plain _) br3 ((eo9 (s:=e.vr) hs0)) rfl rfl rfl rfl rfl ?_|refine yx ?_)
       refine ac1 ?_;refine⟨⟨j+1,by omega⟩,by dsimp only;omega,?_⟩;dsimp only;rw[hnext,hL2];exact(zle 2)
      |a::q,hsk,hL2,hL1b=>
       dsimp only[fS,gS]
       repeat'(first|refine yz ?_|refine yi (cp3 e) hxe ?_|refine yc [0] br3 (ep1 (l:=a::q) (s:=e.vr) hsk) ?_|refine yx ?_)
       refine ac1 ?_;refine⟨⟨j+1,by omega⟩,by dsimp only;omega,?_⟩;dsimp only;rw[hnext,hL2];exact(zle 2)
     |false=>
      have hL2:=dz9 hsk
      match L1,hsk,hL2,hL1b with
      |[],hsk,hL2,hL1b=>
       dsimp only[fS,gS];have hs0:s0B e.vr=false:=by simpa[by1]using hsk
       repeat'(first|refine yz ?_|refine yi (cp3 e) hxe ?_|refine bm9 [] rfl rfl rfl rfl (FnX.plain _) br3 ((ep0 (s:=e.vr) hs0)) rfl rfl rfl rfl rfl ?_|refine yx ?_)
       refine ac1 ?_;refine⟨⟨j+1,by omega⟩,by dsimp only;omega,?_⟩;dsimp only;rw[hnext,hL2];exact(bh0 [2,1])
      |a::q,hsk,hL2,hL1b=>
       dsimp only[fS,gS]
       repeat'(first|refine yz ?_|refine yi (cp3 e) hxe ?_|refine ba7 [0] rfl rfl rfl rfl (FnX.plain _) br3 ((ep2 (l:=a::q) (s:=e.vr) hsk (by simp only[fp5]at*;omega))) rfl rfl rfl rfl rfl ?_|refine yx ?_)
       refine ac1 ?_;refine⟨⟨j+1,by omega⟩,by dsimp only;omega,?_⟩;dsimp only;rw[hnext,hL2];exact(bh0 [2,1])
    ·exfalso;have:=of_decide_eq_false ge;rw[hlee]at this;omega
  ·have gn:decide ((j:Int)<((p.ns.map cp2).length:Int))=false:=by rw[hln];simp;omega
   have ge:decide ((j:Int)<((p.es.map cp3).length:Int))=false:=by rw[hlee];simp;omega
   rw[←hlast hgj]at hend;clear hnode hedge hnext hlast
   cases hsk:s0B p.vr||by1 L1 p.vr with
   |true=>
    have hL2:=dz8 hsk
    match L1,hsk,hL2,hL1b with
    |[],hsk,hL2,hL1b=>
     dsimp only[fS,gS];have hs0:s0B p.vr=true:=by simpa[by1]using hsk
     repeat'(first|refine yz ?_|refine bm9 [] rfl rfl rfl rfl (FnX.plain _) br3 ((eo9 (s:=p.vr) hs0)) rfl rfl rfl rfl rfl ?_|refine yx ?_)
     refine ac1 ?_;refine⟨⟨i+1,by omega⟩,by dsimp only;omega,?_⟩;dsimp only;rw[hend,hL2];exact(zle 1)
    |a::q,hsk,hL2,hL1b=>
     dsimp only[fS,gS]
     repeat'(first|refine yz ?_|refine yc [0] br3 (ep1 (l:=a::q) (s:=p.vr) hsk) ?_|refine yx ?_)
     refine ac1 ?_;refine⟨⟨i+1,by omega⟩,by dsimp only;omega,?_⟩;dsimp only;rw[hend,hL2];exact(zle 1)
   |false=>
    have hL2:=dz9 hsk
    match L1,hsk,hL2,hL1b with
    |[],hsk,hL2,hL1b=>
     dsimp only[fS,gS];have hs0:s0B p.vr=false:=by simpa[by1]using hsk
     repeat'(first|refine yz ?_|refine bm9 [] rfl rfl rfl rfl (FnX.plain _) br3 ((ep0 (s:=p.vr) hs0)) rfl rfl rfl rfl rfl ?_|refine yx ?_)
     refine ac1 ?_;refine⟨⟨i+1,by omega⟩,by dsimp only;omega,?_⟩;dsimp only;rw[hend,hL2];exact(bh0 [2])
    |a::q,hsk,hL2,hL1b=>
     dsimp only[fS,gS]
     repeat'(first|refine yz ?_|refine ba7 [0] rfl rfl rfl rfl (FnX.plain _) br3 ((ep2 (l:=a::q) (s:=p.vr) hsk (by simp only[fp5]at*;omega))) rfl rfl rfl rfl rfl ?_|refine yx ?_)
     refine ac1 ?_;refine⟨⟨i+1,by omega⟩,by dsimp only;omega,?_⟩;dsimp only;rw[hend,hL2];exact(bh0 [2])
 ·have g1:decide ((i:Int)<((l.map cp4).length:Int))=false:=by rw[hle];simp;omega
  rw[fq6 hge];show go _ _ _ (an5 _ _ (.d (.sl ((dz5 [] (do7 l)).map .str))));generalize dz5 [] (do7 l)=o at*
  match o with
  |[]=>
   dsimp only[fS,gS];refine bh7 3 rfl ?_
   exact Ok
  |a::q=>
   dsimp only[fS,gS];refine au2 0 rfl ?_;dsimp only[ar6,ar5,ar8,ar7,List.map,List.set]
   exact Ok
end Go.Proofs.YtndgolmgaenlfaaGreatDoor
