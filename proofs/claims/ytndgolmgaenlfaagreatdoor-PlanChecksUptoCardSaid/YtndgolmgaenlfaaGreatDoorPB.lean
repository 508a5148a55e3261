/- A clause of patterns applied to each row, checked by the program; plan.Check, by the program; What the bulk of a plan's reading grants: all that plan.. Conditions: each part's own, as it says. -/
import Derived.Test.YtndgolmgaenlfaaGreatDoorPA
import Derived.Test.YtndgolmgaenlfaaGreatDoorCB
import Derived.Test.YtndgolmgaenlfaaGreatDoorGC
import Derived.Test.YtndgolmgaenlfaaGreatDoorFB
import Derived.Test.YtndgolmgaenlfaaGreatDoorCA
import Derived.Test.YtndgolmgaenlfaaGreatDoorMA
set_option linter.unusedVariables false
set_option linter.unusedSimpArgs false
namespace Go.Proofs.YtndgolmgaenlfaaGreatDoor
set_option maxRecDepth 4000
open Go Go.Abs Go.Val Go.RowKit Go.Proofs.Tryz
attribute [local irreducible] go SGo an1 Ev au8 EvO EvS RGo PGo
def ef3(l:List PA):List PP:=l.flatMap fun p=>p.ns.flatMap NP.ps++p.es.flatMap EP.ps
theorem ef4(l:List PA):dn0 l=(ef3 l).map fun q=>q.e:=by
 unfold dn0 ef3;rw[List.map_flatMap];congr 1
 funext p
 rw[fo8,List.map_flatMap,List.map_flatMap]
structure SmC(c:CL):Prop where
 ok:OkC c
 pr:∀q∈ef3 c.ps,smE q.e
 pl:(ef3 c.ps).length≤1000000
 wh:∀e∈c.wh,smE e
 nm:(dm7 c.ps).length≤900000
 ne:∀p∈c.ps,p.ns.length≤1000000∧p.es.length≤1000000
theorem ef5(l:List PP):∀d∈l.map cn9,d.cells.length=10:=fun d hd=>by
 obtain⟨u,-,rfl⟩:=fl3.1 hd;rfl
structure SiP(n:Nat) where
 i:Nat
 hi:i≤n
theorem ef6{l:List PA}{i:Nat}{p:PA}(h:l[i]? =some p):ef3 (l.take (i+1))=ef3 (l.take i)++(p.ns.flatMap NP.ps++p.es.flatMap EP.ps):=by
 unfold ef3;rw[fm8,h,fr2];simp
theorem ef7{α β:Type}{f:α→List β}{l:List α}{i:Nat}{x:α}(h:l[i]? =some x):(l.take (i+1)).flatMap f=(l.take i).flatMap f++f x:=by
 rw[fm8,h,fr2];simp
theorem ef8{α β:Type}{f:α→List β}(l:List α)(i:Nat):((l.take i).flatMap f).length≤(l.flatMap f).length:=by
 have h:l.flatMap f=(l.take i).flatMap f++(l.drop i).flatMap f:=by rw[←fr2,fp9]
 have:=congrArg List.length h;rw[fk1]at this;omega
theorem ef9(l:List PA)(i:Nat):(ef3 (l.take i)).length≤(ef3 l).length:=ef8 l i
theorem eg0(y:NP):co0 y=.agg [.str y.vr,.sl (y.lb.map .str),.sl (y.ps.map cn9)]:=rfl
theorem eg1(y:EP):co1 y=.agg [.str y.vr,.sl (y.ty.map .str),.int y.dir,.int y.mode,.int y.mn,.int y.mx,.sl (y.ps.map cn9)]:=rfl
def fP(k:Nat):List D→X
 |[]=>.nilS
 |_::_=>.own k
def gP:List D→aa5
 |[]=>.dead
 |x::r=>.row 96 10 (x::r)
set_option maxHeartbeats 8000000 in
theorem eg2(c:CL)(cols:List ByteArray)(hs:SmC c)(hcl:cols.length≤1000000):Ev E 40 [co6 c,.sl (cols.map .str)] (.d (.int (dn1 c cols).2)):=Ev.fit fun hfit=>by
 have hk:=ef2 c hs.ok;have hfc:=(hfit (co6 c) Oc).aggs;have hmp:=(ct4 (hfc (.sl (c.ps.map co2)) (by simp[co6]))).1
 have hmw:c.wh.length≤9223372036854775807:=by
  have h:=(by9 (hfc (.sl (by0 c.wh)) (by simp[co6]))).1;exact h
 have hpa:=(ct4 (hfc (.sl (c.ps.map co2)) (by simp[co6]))).2;have hVars:=dy5 c.ps hs.nm hs.ne;have hvl:(dm8 c.ps).length≤900000:=by have h:=dx7 (dm7 c.ps) [];have h2:=hs.nm;unfold dm8;unfold dx5 at h;simp only[fk4]at h;omega
 have hboth:=eb7 cols (dm8 c.ps) hcl Oa;have hc1:=ea0 cols (ef3 c.ps) hs.pr (by have:=hs.pl;omega);have hc2:=ea3 (dm4 cols (dm8 c.ps)) c.wh hs.wh hmw;rw[←by2]at hc2;have hc3:=cu2 63 b63 co7 c.wh (fun x _=>cv4 x);rw[←by2]at hc3
 have e1:((dn0 c.ps).all fun e=>dd2 e cols)= !((ef3 c.ps).any fun x=> !dd2 x.e cols):=by
  rw[ef4,fk9];simp only[List.all_map,fm3,Bool.not_eq_true',fq2,fq0,Function.comp];exact⟨fun h x hx=>by simpa using h x hx,fun h x hx=>by simpa using h x hx⟩
 have e2:(c.wh.all fun e=>dd2 e (dm4 cols (dm8 c.ps)))= !(c.wh.any fun x=> !dd2 x (dm4 cols (dm8 c.ps))):=by
  rw[fk9];simp only[fm3,Bool.not_eq_true',fq2,fq0];exact⟨fun h x hx=>by simpa using h x hx,fun h x hx=>by simpa using h x hx⟩
 have hap:(dn1 c cols).2=bif cr0 c !=0 then cr0 c else bif (ef3 c.ps).any (fun x=> !dd2 x.e cols)then 6 else bif c.wh.any (fun x=> !dd2 x (dm4 cols (dm8 c.ps)))then 6 else bif c.wh.any co7 then 9 else 0:=by
  unfold dn1;rw[e1,e2,Bool.not_not,Bool.not_not]
  cases cr0 c !=0<;>cases(ef3 c.ps).any (fun x=> !dd2 x.e cols)<;>cases c.wh.any (fun x=> !dd2 x (dm4 cols (dm8 c.ps)))<;>cases c.wh.any co7<;>rfl
 rw[hap];clear e1 e2 hap;generalize dm4 cols (dm8 c.ps)=al at*;generalize(c.wh.any fun x=> !dd2 x al)=b2 at*;generalize c.wh.any co7=b3 at*;generalize(ef3 c.ps).any (fun x=> !dd2 x.e cols)=b1 at*;have hpl:=hs.pl;obtain⟨k,opt,ds,ps,wh,e,nm,it,od,sk,lm,st,ns⟩:=c;simp only at hpl hc1 hc2 hc3 hVars hboth hmp hpa hmw ⊢;generalize dm8 ps=vp at*
 cases hz:cr0 ⟨k,opt,ds,ps,wh,e,nm,it,od,sk,lm,st,ns⟩ !=0 with
 |true=>
  rw[cond_true];generalize cr0 _=z at*;refine ye2 func40 ntmps40 fun _ _ _=>?_
  repeat'(first|refine yz ?_|refine yp b64 hk ?_|exact zD)
 |false=>
 have hz0:cr0 ⟨k,opt,ds,ps,wh,e,nm,it,od,sk,lm,st,ns⟩=0:=by simpa using hz
 rw[hz0]at hk;rw[cond_false];clear hz hz0;have hle:(ps.map co2).length=ps.length:=Oc
 obtain⟨C,hC⟩:∃C,C=co6 ⟨k,opt,ds,ps,wh,e,nm,it,od,sk,lm,st,ns⟩:=⟨_,rfl⟩;refine ye2 func40 ntmps40 fun _ _ _=>?_
 repeat'(first|refine yz ?_|refine yp b64 hk ?_)
 refine bk1 ?_;refine ac7 (α:=SiP ps.length) (fun p=>⟨[(2,.ptr 0 0),(3,.ptr 1 0),(6,fP 2 ((ef3 (ps.take p.i)).map cn9)),(20,.d (.sl (ps.map co2))),(21,.d (.int (ps.map co2).length)),(22,.d (.int p.i))],[oCL ⟨k,opt,ds,ps,wh,e,nm,it,od,sk,lm,st,ns⟩,ce4 cols,gP ((ef3 (ps.take p.i)).map cn9)]⟩) (fun p=>ps.length-p.i) ⟨0,by omega⟩ (zle 3) ?_;rintro⟨i,hi⟩;dsimp only;rcases fj8 i ps.length with hlt|hge
 ·have g1:decide ((i:Int)<((ps.map co2).length:Int))=true:=by rw[hle];simpa using hlt
  have hx0:=fj7 hlt;generalize ps[i]=p at hx0;have hx:=ct3 (f:=co2) hx0;have hpm:=fj9 hx0;have htk:=ef6 hx0;have hbd:=ef9 ps (i+1);rw[htk,fk1,fk1]at hbd;have hne:=hs.ne p hpm;generalize ef3 (ps.take i)=L at*;have hnl:(p.ns.map co0).length=p.ns.length:=Oc
  have hel:(p.es.map co1).length=p.es.length:=Oc
  repeat'(first|refine yz ?_|refine yi (co2 p) hx ?_)
  refine ac7 (α:=SiP p.ns.length) (fun q=>⟨[(2,.ptr 0 0),(3,.ptr 1 0),(6,fP 2 ((L++(p.ns.take q.i).flatMap NP.ps).map cn9)),(8,.ptr 3 0),(20,.d (.sl (ps.map co2))),(21,.d (.int (ps.map co2).length)),(22,.d (.int i)),(27,.d (.sl (p.ns.map co0))),(28,.d (.int (p.ns.map co0).length)),(29,.d (.int q.i))],[oCL ⟨k,opt,ds,ps,wh,e,nm,it,od,sk,lm,st,ns⟩,ce4 cols,gP ((L++(p.ns.take q.i).flatMap NP.ps).map cn9),.var 69 (.w (.d (co2 p)))]⟩) (fun q=>p.ns.length-q.i) ⟨0,by omega⟩ (by dsimp only;rw[fp2,fr6,fq3];generalize L.map cn9=K0;rcases K0 with _|⟨d0,r0⟩<;>exact(zle 4)) ?_;rintro⟨j,hj⟩;dsimp only;rcases fj8 j p.ns.length with hltj|hgej
  ·have g2:decide ((j:Int)<((p.ns.map co0).length:Int))=true:=by rw[hnl];simpa using hltj
   have hy0:=fj7 hltj;generalize p.ns[j]=y at hy0;have hy:=ct3 (f:=co0) hy0;have hft:=ef7 (f:=NP.ps) hy0;have hfl:=ef8 (f:=NP.ps) p.ns (j+1);rw[hft,fk1]at hfl;have hmp2:(L++(p.ns.take (j+1)).flatMap NP.ps).map cn9=(L++(p.ns.take j).flatMap NP.ps).map cn9++y.ps.map cn9:=by rw[hft];simp
   have hll:((L++(p.ns.take j).flatMap NP.ps).map cn9).length+(y.ps.map cn9).length≤1000000:=by simp only[fk3,fk1];omega
   have hpc:=ef5 y.ps;rw[eg0]at hy;generalize(L++(p.ns.take j).flatMap NP.ps).map cn9=K1 at*;generalize y.ps.map cn9=K2 at*;rcases K1 with _|⟨d1,r1⟩<;>rcases K2 with _|⟨d2,r2⟩
   ·dsimp only[fP,gP]
    repeat'(first|refine yz ?_|refine qI (.agg [.str y.vr,.sl (y.lb.map .str),.sl []]) rfl (ap1 rfl) rfl rfl rfl rfl rfl rfl Oh hy ?_|refine bk5 ?_)
    refine ac1 ?_;refine⟨⟨j+1,by omega⟩,by dsimp only;omega,?_⟩;dsimp only;rw[hmp2,fq3];exact(zle 4)
   ·dsimp only[fP,gP]
    repeat'(first|refine yz ?_|refine qI (.agg [.str y.vr,.sl (y.lb.map .str),.sl (d2::r2)]) rfl (ap1 rfl) rfl rfl rfl rfl rfl rfl Oh hy ?_|(refine qS rfl ⟨by simp,hpc,by(show _*136≤140737488355328;first|(simp only[fk0,fk4]at*;omega)|(simp;omega)),by(show _≤9223372036854775807;first|(simp only[fk0,fk4]at*;omega)|(simp;omega))⟩ ?_))
    refine ac1 ?_;refine⟨⟨j+1,by omega⟩,by dsimp only;omega,?_⟩;dsimp only;rw[hmp2];exact(bh0 [0,1,5,3])
   ·dsimp only[fP,gP]
    repeat'(first|refine yz ?_|refine qI (.agg [.str y.vr,.sl (y.lb.map .str),.sl []]) rfl (ap1 rfl) rfl rfl rfl rfl rfl rfl Oh hy ?_|refine bk0 rfl rfl rfl rfl rfl rfl rfl rfl rfl ?_)
    refine ac1 ?_;refine⟨⟨j+1,by omega⟩,by dsimp only;omega,?_⟩;dsimp only;rw[hmp2,fq3];exact(zle 4)
   ·dsimp only[fP,gP]
    repeat'(first|refine yz ?_|refine qI (.agg [.str y.vr,.sl (y.lb.map .str),.sl (d2::r2)]) rfl (ap1 rfl) rfl rfl rfl rfl rfl rfl Oh hy ?_|(refine qS rfl ⟨by simp,hpc,by(show _*136≤140737488355328;first|(simp only[fk0,fk4]at*;omega)|(simp;omega)),by(show _≤9223372036854775807;first|(simp only[fk0,fk4]at*;omega)|(simp;omega))⟩ ?_))
    refine ac1 ?_;refine⟨⟨j+1,by omega⟩,by dsimp only;omega,?_⟩;dsimp only;rw[hmp2];exact(bh0 [0,1,5,3])
  ·have g2:decide ((j:Int)<((p.ns.map co0).length:Int))=false:=by rw[hnl];simp;omega
   rw[fl4 hgej];have hM:(L++p.ns.flatMap NP.ps).length+(p.es.flatMap EP.ps).length≤1000000:=by rw[fk1];omega
   rw[←fn7]at htk;generalize L++p.ns.flatMap NP.ps=M at*
   repeat'(refine yz ?_)
   refine ac7 (α:=SiP p.es.length) (fun q=>⟨[(2,.ptr 0 0),(3,.ptr 1 0),(6,fP 2 ((M++(p.es.take q.i).flatMap EP.ps).map cn9)),(8,.ptr 3 0),(20,.d (.sl (ps.map co2))),(21,.d (.int (ps.map co2).length)),(22,.d (.int i)),(39,.d (.sl (p.es.map co1))),(40,.d (.int (p.es.map co1).length)),(41,.d (.int q.i))],[oCL ⟨k,opt,ds,ps,wh,e,nm,it,od,sk,lm,st,ns⟩,ce4 cols,gP ((M++(p.es.take q.i).flatMap EP.ps).map cn9),.var 69 (.w (.d (co2 p)))]⟩) (fun q=>p.es.length-q.i) ⟨0,by omega⟩ (by dsimp only;rw[fp2,fr6,fq3];generalize M.map cn9=K0;rcases K0 with _|⟨d0,r0⟩<;>exact(zle 4)) ?_;rintro⟨m,hm⟩;dsimp only;rcases fj8 m p.es.length with hltm|hgem
   ·have g2:decide ((m:Int)<((p.es.map co1).length:Int))=true:=by rw[hel];simpa using hltm
    have hy0:=fj7 hltm;generalize p.es[m]=y at hy0;have hy:=ct3 (f:=co1) hy0;have hft:=ef7 (f:=EP.ps) hy0;have hfl:=ef8 (f:=EP.ps) p.es (m+1);rw[hft,fk1]at hfl;have hmp2:(M++(p.es.take (m+1)).flatMap EP.ps).map cn9=(M++(p.es.take m).flatMap EP.ps).map cn9++y.ps.map cn9:=by rw[hft];simp
    have hll:((M++(p.es.take m).flatMap EP.ps).map cn9).length+(y.ps.map cn9).length≤1000000:=by simp only[fk3,fk1];omega
    have hpc:=ef5 y.ps;rw[eg1]at hy;generalize(M++(p.es.take m).flatMap EP.ps).map cn9=K1 at*;generalize y.ps.map cn9=K2 at*;rcases K1 with _|⟨d1,r1⟩<;>rcases K2 with _|⟨d2,r2⟩
    ·dsimp only[fP,gP]
     repeat'(first|refine yz ?_|refine qI (.agg [.str y.vr,.sl (y.ty.map .str),.int y.dir,.int y.mode,.int y.mn,.int y.mx,.sl []]) rfl (ap1 rfl) rfl rfl rfl rfl rfl rfl Oh hy ?_|refine bk5 ?_)
     refine ac1 ?_;refine⟨⟨m+1,by omega⟩,by dsimp only;omega,?_⟩;dsimp only;rw[hmp2,fq3];exact(zle 4)
    ·dsimp only[fP,gP]
     repeat'(first|refine yz ?_|refine qI (.agg [.str y.vr,.sl (y.ty.map .str),.int y.dir,.int y.mode,.int y.mn,.int y.mx,.sl (d2::r2)]) rfl (ap1 rfl) rfl rfl rfl rfl rfl rfl Oh hy ?_|(refine qS rfl ⟨by simp,hpc,by(show _*136≤140737488355328;first|(simp only[fk0,fk4]at*;omega)|(simp;omega)),by(show _≤9223372036854775807;first|(simp only[fk0,fk4]at*;omega)|(simp;omega))⟩ ?_))
     refine ac1 ?_;refine⟨⟨m+1,by omega⟩,by dsimp only;omega,?_⟩;dsimp only;rw[hmp2];exact(bh0 [0,1,5,3])
    ·dsimp only[fP,gP]
     repeat'(first|refine yz ?_|refine qI (.agg [.str y.vr,.sl (y.ty.map .str),.int y.dir,.int y.mode,.int y.mn,.int y.mx,.sl []]) rfl (ap1 rfl) rfl rfl rfl rfl rfl rfl Oh hy ?_|refine bk0 rfl rfl rfl rfl rfl rfl rfl rfl rfl ?_)
     refine ac1 ?_;refine⟨⟨m+1,by omega⟩,by dsimp only;omega,?_⟩;dsimp only;rw[hmp2,fq3];exact(zle 4)
    ·dsimp only[fP,gP]
     repeat'(first|refine yz ?_|refine qI (.agg [.str y.vr,.sl (y.ty.map .str),.int y.dir,.int y.mode,.int y.mn,.int y.mx,.sl (d2::r2)]) rfl (ap1 rfl) rfl rfl rfl rfl rfl rfl Oh hy ?_|(refine qS rfl ⟨by simp,hpc,by(show _*136≤140737488355328;first|(simp only[fk0,fk4]at*;omega)|(simp;omega)),by(show _≤9223372036854775807;first|(simp only[fk0,fk4]at*;omega)|(simp;omega))⟩ ?_))
     refine ac1 ?_;refine⟨⟨m+1,by omega⟩,by dsimp only;omega,?_⟩;dsimp only;rw[hmp2];exact(bh0 [0,1,5,3])
   ·have g2:decide ((m:Int)<((p.es.map co1).length:Int))=false:=by rw[hel];simp;omega
    rw[fl4 hgem,←htk]
    repeat'(refine yz ?_)
    refine ac1 ?_;refine⟨⟨i+1,by omega⟩,by dsimp only;omega,?_⟩;dsimp only;generalize(ef3 (ps.take (i+1))).map cn9=K0;rcases K0 with _|⟨d0,r0⟩<;>exact(zle 3)
 ·have g1:decide ((i:Int)<((ps.map co2).length:Int))=false:=by rw[hle];simp;omega
  rw[fl4 hge];clear hpa
  match hP:(ef3 ps).map cn9 with
  |[]=>
   rw[hP]at hc1;dsimp only[fP,gP];refine bh7 6 rfl ?_
   cases b1 with
   |true=>
    repeat'(first|refine yz ?_|refine ba6 rfl rfl rfl rfl rfl ?_|refine yc [1] b65 (hc1) ?_|exact zD)
   |false=>
   cases b2 with
   |true=>
    repeat'(first|refine yu 21 [5,6] [] ?_|refine yk 21 0 5 ?_|refine yw ?_|refine rgN ?_|refine yv ?_|refine yz ?_|refine ba6 rfl rfl rfl rfl rfl ?_|refine yc [1] b65 (hc1) ?_|refine yp b41 hVars ?_|refine yp b38 hboth ?_|refine yc [3] b67 (hc2) ?_|exact zD)
   |false=>
   cases b3 with
   |true=>
    repeat'(first|refine yu 21 [5,6] [] ?_|refine yk 21 0 5 ?_|refine yw ?_|refine rgN ?_|refine yv ?_|refine yz ?_|refine ba6 rfl rfl rfl rfl rfl ?_|refine yc [1] b65 (hc1) ?_|refine yp b41 hVars ?_|refine yp b38 hboth ?_|refine yc [3] b67 (hc2) ?_|refine yp b67 hc3 ?_|exact zD)
   |false=>
    repeat'(first|refine yu 21 [5,6] [] ?_|refine yk 21 0 5 ?_|refine yw ?_|refine rgN ?_|refine yv ?_|refine yz ?_|refine ba6 rfl rfl rfl rfl rfl ?_|refine yc [1] b65 (hc1) ?_|refine yp b41 hVars ?_|refine yp b38 hboth ?_|refine yc [3] b67 (hc2) ?_|refine yp b67 hc3 ?_|exact zD)
  |y::q=>
   rw[hP]at hc1;dsimp only[fP,gP];refine au2 2 rfl ?_;dsimp only[ar6,ar5,ar8,ar7,List.map,List.set]
   cases b1 with
   |true=>
    repeat'(first|refine yz ?_|refine ba6 rfl rfl rfl rfl rfl ?_|refine yc [1] b65 (hc1) ?_|exact zD)
   |false=>
   cases b2 with
   |true=>
    repeat'(first|refine yu 21 [5,6] [] ?_|refine yk 21 0 5 ?_|refine yw ?_|refine rgN ?_|refine yv ?_|refine yz ?_|refine ba6 rfl rfl rfl rfl rfl ?_|refine yc [1] b65 (hc1) ?_|refine yp b41 hVars ?_|refine yp b38 hboth ?_|refine yc [3] b67 (hc2) ?_|exact zD)
   |false=>
   cases b3 with
   |true=>
    repeat'(first|refine yu 21 [5,6] [] ?_|refine yk 21 0 5 ?_|refine yw ?_|refine rgN ?_|refine yv ?_|refine yz ?_|refine ba6 rfl rfl rfl rfl rfl ?_|refine yc [1] b65 (hc1) ?_|refine yp b41 hVars ?_|refine yp b38 hboth ?_|refine yc [3] b67 (hc2) ?_|refine yp b67 hc3 ?_|exact zD)
   |false=>
    repeat'(first|refine yu 21 [5,6] [] ?_|refine yk 21 0 5 ?_|refine yw ?_|refine rgN ?_|refine yv ?_|refine yz ?_|refine ba6 rfl rfl rfl rfl rfl ?_|refine yc [1] b65 (hc1) ?_|refine yp b41 hVars ?_|refine yp b38 hboth ?_|refine yc [3] b67 (hc2) ?_|refine yp b67 hc3 ?_|exact zD)
attribute [local irreducible] RGw
theorem eg3(p:Pl)(hs:alB SmB p)(hz:szP p≤1000000)(hw:cwP p≤1000000):Ev E 10 [dl6 p] (.tup [.sl ((do2 p).1.map .str),.int (do2 p).2]):=by
 have h1:=eb2 p hz 200 Od Od;have hd:dpB 200 p=decide (dpP p>200):=by unfold dpB;rw[decide_eq_decide];omega
 rw[hd]at h1;clear hd;have h2:=ea8 p hz;have h3:=ec5 p hs hz hw;obtain⟨b,ks⟩:=p;rw[dl9]at*;unfold do2;generalize szP (.mk b ks)=sz at*;generalize dn8 (.mk b ks)=c at*
 cases c1:decide (dpP (.mk b ks)>200)with
 |true=>
  rw[cond_true];rw[c1]at h1;refine ye1 func10 ntmps10 fun _ _ _=>?_
  repeat'(first|refine yz ?_|refine yp b22 h1 ?_|exact zL)
 |false=>
  rw[c1]at h1;rw[cond_false]
  cases c2:decide (sz>2000)with
  |true=>
   rw[cond_true];have g1:=yT ((sz:Int)>2000) (by have:=of_decide_eq_true c2;omega);refine ye1 func10 ntmps10 fun _ _ _=>?_
   repeat'(first|refine yz ?_|refine yp b22 h1 ?_|refine yp b13 h2 ?_|exact zL)
  |false=>
   rw[cond_false];have g1:=yF ((sz:Int)>2000) (by have:=of_decide_eq_false c2;omega);refine ye1 func10 ntmps10 fun _ _ _=>?_
   repeat'(first|refine yz ?_|refine yp b22 h1 ?_|refine yp b13 h2 ?_|refine yp b23 h3 ?_|exact zL)
theorem eg4:∀{L:List D} {d:D},d∈L→bg5 d≤bg6 L
 |a::r,d,h=>by
  rw[bg6];rcases fk7.1 h with rfl|h
  ·omega
  ·have:=eg4 h;omega
theorem eg5(k:Nat):∀{L:List D},(∀d∈L,k≤bg5 d)→k*L.length≤bg6 L
 |[],_=>by simp
 |a::r,h=>by
  have h1:=h a Oc;have h2:=eg5 k (L:=r) fun d hd=>h d (by simp[hd])
  rw[bg6,fk0,Nat.mul_add];omega
theorem eg6(l:List ByteArray):l.length≤bg6 (l.map D.str):=by
 have h:=eg5 1 (L:=l.map D.str) fun d hd=>by
  obtain⟨s,-,rfl⟩:=fl3.1 hd;show 1≤bg5 (.imm (.string s));rw[bg5];omega
 rw[fk3]at h;omega
theorem eg7(e:Ex):bg6 [.int e.op,.int e.v.k,.int e.v.n,.int e.v.d,.str e.v.s,.sl (bn1 e.v),.str e.nm,.bool e.ds,.sl (bx9 e)]=bg5 (by1 e):=by
 rw[show by1 e=.agg [.int e.op,.int e.v.k,.int e.v.n,.int e.v.d,.str e.v.s,.sl (bn1 e.v),.str e.nm,.bool e.ds,.sl (bx9 e)]from rfl,bg5]
theorem eg8(a:List D)(e:Ex)(b:List D):bg6 (a++([.int e.op,.int e.v.k,.int e.v.n,.int e.v.d,.str e.v.s,.sl (bn1 e.v),.str e.nm,.bool e.ds,.sl (bx9 e)]++b))=bg6 a+(bg5 (by1 e)+bg6 b):=by
 rw[bg7,bg7,eg7]
theorem eg9(q:PP):bg5 (by1 q.e)≤bg5 (cn9 q)∧1≤bg5 (cn9 q):=by
 have h:bg5 (cn9 q)=bg6 ([.str q.key]++([.int q.e.op,.int q.e.v.k,.int q.e.v.n,.int q.e.v.d,.str q.e.v.s,.sl (bn1 q.e.v),.str q.e.nm,.bool q.e.ds,.sl (bx9 q.e)]++ [])):=by
  show bg5 (.agg _)=_;rw[bg5];rfl
 rw[h,eg8]
 have h2:1≤bg6 [D.str q.key]:=by
  show 1≤bg6 [.imm (.string q.key)];rw[bg6,bg5];omega
 omega
theorem eh0(x:SIt):bg5 (by1 x.e)≤bg5 (co5 x)∧1≤bg5 (co5 x):=by
 have h:bg5 (co5 x)=bg6 ([.str x.vr,.str x.key,.str x.lb,.bool x.off]++([.int x.e.op,.int x.e.v.k,.int x.e.v.n,.int x.e.v.d,.str x.e.v.s,.sl (bn1 x.e.v),.str x.e.nm,.bool x.e.ds,.sl (bx9 x.e)]++ [])):=by
  show bg5 (.agg _)=_;rw[bg5];rfl
 rw[h,eg8]
 have h2:1≤bg6 [D.str x.vr,.str x.key,.str x.lb,.bool x.off]:=by
  show 1≤bg6 (.imm (.string x.vr)::_);rw[bg6,bg5];omega
 omega
theorem eh1(x:IT):bg5 (by1 x.e)≤bg5 (co3 x)∧1≤bg5 (co3 x)∧bg5 (by1 x.e)+1≤bg5 (co3 x):=by
 have h:bg5 (co3 x)=bg6 ([]++([.int x.e.op,.int x.e.v.k,.int x.e.v.n,.int x.e.v.d,.str x.e.v.s,.sl (bn1 x.e.v),.str x.e.nm,.bool x.e.ds,.sl (bx9 x.e)]++ [.str x.asn])):=by
  show bg5 (.agg _)=_;rw[bg5];rfl
 rw[h,eg8]
 have h2:1≤bg6 [D.str x.asn]:=by
  show 1≤bg6 [.imm (.string x.asn)];rw[bg6,bg5];omega
 omega
theorem eh2(x:SK):bg5 (by1 x.e)≤bg5 (co4 x)∧1≤bg5 (co4 x):=by
 have h:bg5 (co4 x)=bg6 ([]++([.int x.e.op,.int x.e.v.k,.int x.e.v.n,.int x.e.v.d,.str x.e.v.s,.sl (bn1 x.e.v),.str x.e.nm,.bool x.e.ds,.sl (bx9 x.e)]++ [.bool x.dc])):=by
  show bg5 (.agg _)=_;rw[bg5];rfl
 rw[h,eg8]
 have h2:1≤bg6 [D.bool x.dc]:=by
  have h3:bg5 (D.bool x.dc)=1:=by show bg5 (.imm (.bool x.dc))=1;simp[bg5]
  rw[bg6,h3];omega
 omega
theorem eh3(n:NP):3≤bg5 (co0 n)∧bg6 (n.ps.map cn9)≤bg5 (co0 n):=by
 have h:bg5 (co0 n)=n.vr.size+1+(bg6 (n.lb.map D.str)+1+(bg6 (n.ps.map cn9)+1)):=by
  show bg5 (.agg [.imm (.string n.vr),.sl (n.lb.map .str),.sl (n.ps.map cn9)])=_;simp only[bg5,bg6]<;>omega
 omega
theorem eh4(n:EP):3≤bg5 (co1 n)∧bg6 (n.ps.map cn9)≤bg5 (co1 n):=by
 have h:bg5 (co1 n)=n.vr.size+1+(bg6 (n.ty.map D.str)+1+(4+(bg6 (n.ps.map cn9)+1))):=by
  show bg5 (.agg [.imm (.string n.vr),.sl (n.ty.map .str),.int n.dir,.int n.mode,.int n.mn,.int n.mx,.sl (n.ps.map cn9)])=_;simp only[bg5,bg6,D.int]<;>omega
 omega
theorem eh5(p:PA):bg5 (co2 p)=p.vr.size+1+(bg6 (p.ns.map co0)+1+(bg6 (p.es.map co1)+1)):=by
 show bg5 (.agg [.imm (.string p.vr),.sl (p.ns.map co0),.sl (p.es.map co1)])=_;simp only[bg5,bg6]<;>omega
theorem eh6:∀(ns:List NP) (es:List EP),(dm6 ns es).length=ns.length+es.length
 |[],es=>by rw[dm6];simp
 |n::r,[]=>by rw[dm6];simp
 |n::r,e::q=>by
  have:=eh6 r q;rw[dm6];simp only[fk0];omega
theorem eh7:∀l:List PA,3*(dm7 l).length≤bg6 (l.map co2)
 |[]=>by simp[dm7]
 |p::r=>by
  have ih:=eh7 r;have h:=eh5 p;have h1:=eg5 3 (L:=p.ns.map co0) fun d hd=>by obtain⟨n,-,rfl⟩:=fl3.1 hd;exact(eh3 n).1
  have h2:=eg5 3 (L:=p.es.map co1) fun d hd=>by obtain⟨n,-,rfl⟩:=fl3.1 hd;exact(eh4 n).1
  rw[fk3]at h1 h2;have e:(dm7 (p::r)).length=(dm6 p.ns p.es).length+1+(dm7 r).length:=by unfold dm7;rw[fm6,fk1,fk1];rfl
  rw[e,eh6,fm5,bg6];omega
theorem eh8:∀l:List PA,bg6 ((ef3 l).map cn9)≤bg6 (l.map co2)
 |[]=>fl2 _
 |p::r=>by
  have ih:=eh8 r;have h:=eh5 p
  have kn:∀L:List NP,bg6 ((L.flatMap NP.ps).map cn9)≤bg6 (L.map co0):=by
   intro L
   induction L with
   |nil=>exact fl2 _
   |cons n q ihq=>
    have:=(eh3 n).2;rw[fm6,fo8,bg7,fm5,bg6];omega
  have ke:∀L:List EP,bg6 ((L.flatMap EP.ps).map cn9)≤bg6 (L.map co1):=by
   intro L
   induction L with
   |nil=>exact fl2 _
   |cons n q ihq=>
    have:=(eh4 n).2;rw[fm6,fo8,bg7,fm5,bg6];omega
  have h1:=kn p.ns;have h2:=ke p.es;have e:ef3 (p::r)=(p.ns.flatMap NP.ps++p.es.flatMap EP.ps)++ef3 r:=by unfold ef3;rw[fm6]
  rw[e,fo8,fo8,bg7,bg7,fm5,bg6];omega
theorem eh9:∀(ns:List NP) (es:List EP),(cq1 (cp6 ns es)).length≤(ns.flatMap NP.ps).length+(es.flatMap EP.ps).length∧∀e∈cq1 (cp6 ns es),∃q∈ns.flatMap NP.ps++es.flatMap EP.ps,e=q.e
 |[],es=>⟨fl9 _,fun e h=>by rw[cp6]at h;cases h⟩
 |n::r,[]=>by
  obtain⟨h1,h2⟩:=eh9 r [];have e0:cq1 (cp6 (n::r) [])=n.ps.map (fun p=>p.e)++cq1 (cp6 r []):=by rw[cp6];unfold cq1;rw[fm6];rfl
  rw[e0];refine⟨by simp only[fk1,fk3,fm6,fr6,fk4]at*;omega,fun e he=>?_⟩;rcases fm1.1 he with he|he
  ·obtain⟨q,hq,rfl⟩:=fl3.1 he;exact⟨q,by simp[hq],rfl⟩
  ·obtain⟨q,hq,rfl⟩:=h2 e he;exact⟨q,by rw[fm6,fn7];exact fm1.2 (.inr hq),rfl⟩
 |n::r,x::q=>by
  obtain⟨h1,h2⟩:=eh9 r q;have e0:cq1 (cp6 (n::r) (x::q))=n.ps.map (fun p=>p.e)++(x.ps.map (fun p=>p.e)++cq1 (cp6 r q)):=by rw[cp6];unfold cq1;rw[fm6,fm6];rfl
  rw[e0];refine⟨by simp only[fk1,fk3,fm6]at*;omega,fun e he=>?_⟩;rcases fm1.1 he with he|he
  ·obtain⟨u,hu,rfl⟩:=fl3.1 he;exact⟨u,by simp[hu],rfl⟩
  ·rcases fm1.1 he with he|he
   ·obtain⟨u,hu,rfl⟩:=fl3.1 he;exact⟨u,by simp[hu],rfl⟩
   ·obtain⟨u,hu,rfl⟩:=h2 e he;refine⟨u,?_,rfl⟩;rw[fm6,fm6];rcases fm1.1 hu with hu|hu
    ·exact fm1.2 (.inl (fm1.2 (.inr hu)))
    ·exact fm1.2 (.inr (fm1.2 (.inr hu)))
theorem ei0{α β:Type}{f:α→List β}{x:α}:∀{l:List α},x∈l→(f x).length≤(l.flatMap f).length
 |a::r,h=>by
  rw[fm6,fk1];rcases fk7.1 h with rfl|h
  ·omega
  ·have:=ei0 (f:=f) h;omega
theorem ei1(c:CL):bg6 (c.ps.map co2)+bg6 (by0 c.wh)+bg5 (by1 c.e)+bg6 (c.it.map co3)+bg6 (c.od.map co4)+bg6 (c.st.map co5)+bg6 (c.ns.map D.str)≤bg5 (co6 c):=by
 have h:bg5 (co6 c)=bg6 ([.int c.k,.bool c.opt,.bool c.ds,.sl (c.ps.map co2),.sl (by0 c.wh)]++([.int c.e.op,.int c.e.v.k,.int c.e.v.n,.int c.e.v.d,.str c.e.v.s,.sl (bn1 c.e.v),.str c.e.nm,.bool c.e.ds,.sl (bx9 c.e)]++ [.str c.nm,.sl (c.it.map co3),.sl (c.od.map co4),.int c.sk,.int c.lm,.sl (c.st.map co5),.sl (c.ns.map .str)])):=by
  show bg5 (.agg _)=_;rw[bg5];rfl
 rw[h,eg8];simp only[bg5,bg6];omega
theorem ei2{e:Ex}(h:bg5 (by1 e)≤1048576):dp5 e:=by
 have h1:=db0 e;have h2:=db1 e;exact⟨by omega,by omega⟩
theorem ei3{e:Ex}(h:bg5 (by1 e)≤1048576):smE e:=by
 have h1:=db0 e;show nd e≤1000000;omega
theorem ei4{c:CL}(h:bg5 (co6 c)≤1048576):SmC c:=by
 have hb:=ei1 c;have hn:=eh7 c.ps;have hp:=eh8 c.ps;have hpl:=eg5 1 (L:=(ef3 c.ps).map cn9) fun d hd=>by obtain⟨q,-,rfl⟩:=fl3.1 hd;exact(eg9 q).2
 rw[fk3]at hpl
 have hq:∀q∈ef3 c.ps,bg5 (by1 q.e)≤1048576:=fun q hq=>by
  have h1:=eg4 (fn4 (f:=cn9) hq);have h2:=(eg9 q).1;omega
 have hw:∀e∈c.wh,bg5 (by1 e)≤1048576:=fun e he=>by
  have h1:=eg4 (L:=by0 c.wh) (d:=by1 e) (by rw[by2];exact fn4 (f:=by1) he);omega
 have hpa:∀p∈c.ps,bg6 (p.ns.map co0)+bg6 (p.es.map co1)≤1048576:=fun p hp=>by
  have h1:=eg4 (fn4 (f:=co2) hp);rw[eh5]at h1;omega
 have hne:∀p∈c.ps,p.ns.length≤1000000∧p.es.length≤1000000:=fun p hp=>by
  have h0:=hpa p hp;have h1:=eg5 3 (L:=p.ns.map co0) fun d hd=>by obtain⟨n,-,rfl⟩:=fl3.1 hd;exact(eh3 n).1
  have h2:=eg5 3 (L:=p.es.map co1) fun d hd=>by obtain⟨n,-,rfl⟩:=fl3.1 hd;exact(eh4 n).1
  rw[fk3]at h1 h2;omega
 have hpp:9*(ef3 c.ps).length≤1048576:=by
  have h1:=eg5 9 (L:=(ef3 c.ps).map cn9) fun d hd=>by
   obtain⟨q,-,rfl⟩:=fl3.1 hd;have h2:=(eg9 q).1;have h3:=db0 q.e;have h4:1≤nd q.e:=by rw[ci2];omega
   omega
  rw[fk3]at h1;omega
 refine⟨⟨fun p hpm=>?_,fun e he=>ei2 (hw e he),ei2 Oa,fun x hx=>?_,fun x hx=>?_,fun x hx=>?_⟩,fun q h=>ei3 (hq q h),by omega,fun e he=>ei3 (hw e he),by omega,hne⟩
 ·have hg:=eh9 p.ns p.es;have hsub:∀q∈p.ns.flatMap NP.ps++p.es.flatMap EP.ps,q∈ef3 c.ps:=fun q hqm=>fq7.2 ⟨p,hpm,hqm⟩
  have hll:(p.ns.flatMap NP.ps).length+(p.es.flatMap EP.ps).length≤(ef3 c.ps).length:=by
   have:=ei0 (f:=fun p:PA=>p.ns.flatMap NP.ps++p.es.flatMap EP.ps) hpm;rw[fk1]at this;exact this
  refine⟨(hne p hpm).1,by omega,fun e he=>?_⟩;obtain⟨q,hqm,rfl⟩:=hg.2 e he;exact ei2 (hq q (hsub q hqm))
 ·have h1:=eg4 (fn4 (f:=co3) hx);have h2:=(eh1 x).1;exact ei2 Oa
 ·have h1:=eg4 (fn4 (f:=co4) hx);have h2:=(eh2 x).1;exact ei2 Oa
 ·have h1:=eg4 (fn4 (f:=co5) hx);have h2:=(eh0 x).1;exact ei2 Oa
theorem ei5(b:PB)(K:List D):bg6 K+bg6 (b.cj.vs.map D.str)+bg6 (b.cj.as.map cc6)+bg5 (co6 b.cl)+bg5 (by1 b.e)+bg6 (b.it.map co3)+bg6 (b.od.map co4)+5≤bg5 (dl5 b K):=by
 have hc:bg5 (co6 b.cl)=bg6 [.int b.cl.k,.bool b.cl.opt,.bool b.cl.ds,.sl (b.cl.ps.map co2),.sl (by0 b.cl.wh),.int b.cl.e.op,.int b.cl.e.v.k,.int b.cl.e.v.n,.int b.cl.e.v.d,.str b.cl.e.v.s,.sl (bn1 b.cl.e.v),.str b.cl.e.nm,.bool b.cl.e.ds,.sl (bx9 b.cl.e),.str b.cl.nm,.sl (b.cl.it.map co3),.sl (b.cl.od.map co4),.int b.cl.sk,.int b.cl.lm,.sl (b.cl.st.map co5),.sl (b.cl.ns.map .str)]:=by
  show bg5 (.agg _)=_;rw[bg5]
 have h:bg5 (dl5 b K)=bg6 ([.int b.op,.sl K,.sl (b.cj.vs.map .str),.sl (b.cj.as.map cc6)]++([.int b.cl.k,.bool b.cl.opt,.bool b.cl.ds,.sl (b.cl.ps.map co2),.sl (by0 b.cl.wh),.int b.cl.e.op,.int b.cl.e.v.k,.int b.cl.e.v.n,.int b.cl.e.v.d,.str b.cl.e.v.s,.sl (bn1 b.cl.e.v),.str b.cl.e.nm,.bool b.cl.e.ds,.sl (bx9 b.cl.e),.str b.cl.nm,.sl (b.cl.it.map co3),.sl (b.cl.od.map co4),.int b.cl.sk,.int b.cl.lm,.sl (b.cl.st.map co5),.sl (b.cl.ns.map .str)]++([.int b.e.op,.int b.e.v.k,.int b.e.v.n,.int b.e.v.d,.str b.e.v.s,.sl (bn1 b.e.v),.str b.e.nm,.bool b.e.ds,.sl (bx9 b.e)]++ [.str b.nm,.sl (b.it.map co3),.sl (b.od.map co4),.int b.sk,.int b.lm]))):=by
  show bg5 (.agg _)=_;rw[bg5];rfl
 rw[h,bg7,bg7,←hc,bg7,eg7];simp only[bg5,bg6,D.int,D.str];omega
theorem ei6{b:PB}{K:List D}(h:bg5 (dl5 b K)≤1048576)(hv:b.cj.vs.length≤1000000):SmB b:=by
 have hb:=ei5 b K;have h1:=eg6 b.cj.vs
 have h2:=eg5 3 (L:=b.cj.as.map cc6) fun d hd=>by
  obtain⟨a,-,rfl⟩:=fl3.1 hd;unfold cc6;simp only[bg5,bg6];omega
 rw[fk3]at h2;have hcl:bg5 (co6 b.cl)≤1048576:=Oa
 have hc:=ei1 b.cl;have hs:=ei4 hcl;have n1:=eh7 b.cl.ps;have l1:=eg5 1 (L:=b.cl.ps.map co2) fun d hd=>by obtain⟨p,-,rfl⟩:=fl3.1 hd;rw[eh5];omega
 have l2:=eg5 1 (L:=by0 b.cl.wh) fun d hd=>by
  rw[by2]at hd;obtain⟨e,-,rfl⟩:=fl3.1 hd;have h3:=db0 e;have h4:1≤nd e:=by rw[ci2];omega
  omega
 have l3:=eg5 1 (L:=b.cl.it.map co3) fun d hd=>by obtain⟨p,-,rfl⟩:=fl3.1 hd;exact(eh1 p).2.1
 have l4:=eg5 1 (L:=b.cl.od.map co4) fun d hd=>by obtain⟨p,-,rfl⟩:=fl3.1 hd;exact(eh2 p).2
 have l5:=eg5 1 (L:=b.cl.st.map co5) fun d hd=>by obtain⟨p,-,rfl⟩:=fl3.1 hd;exact(eh0 p).2
 have l6:=eg6 b.cl.ns;rw[fk3]at l1 l3 l4 l5;rw[by7]at l2;refine⟨hv,by omega,by unfold ds8;omega,ei3 Oa,fun x hx=>?_,fun x hx=>?_,hs.nm,hs.ne,fun _ cols hcols=>eg2 b.cl cols hs hcols⟩
 ·have g1:=eg4 (fn4 (f:=co3) hx);have g2:=(eh1 x).1;exact ei3 Oa
 ·have g1:=eg4 (fn4 (f:=co4) hx);have g2:=(eh2 x).1;exact ei3 Oa
mutual
def vsP:Pl→Nat
 |.mk b ks=>b.cj.vs.length+ei7 ks
def ei7:List Pl→Nat
 |[]=>0
 |p::r=>vsP p+ei7 r
end
theorem ei8:∀{l:List Pl} {p:Pl},p∈l→vsP p≤ei7 l
 |a::r,p,h=>by
  rw[ei7];rcases fk7.1 h with rfl|h
  ·omega
  ·have:=ei8 h;omega
theorem ei9(p:Pl):bg5 (dl6 p)≤1048576→vsP p≤100000→alB SmB p∧5*szP p≤bg5 (dl6 p)∧2*cwP p≤2*vsP p+bg5 (dl6 p):=by
 refine dl4 (P:=fun p=>bg5 (dl6 p)≤1048576→vsP p≤100000→alB SmB p∧5*szP p≤bg5 (dl6 p)∧2*cwP p≤2*vsP p+bg5 (dl6 p)) (fun b ks ih h hv=>?_) p;rw[dl9]at h ⊢;rw[vsP]at hv ⊢;have hb:=ei5 b (ks.map dl6);have hs:=ei6 h Oa
 have hk:∀x∈ks,bg5 (dl6 x)≤1048576∧vsP x≤100000:=fun x hx=>by
  have:=eg4 (fn4 (f:=dl6) hx);have:=ei8 hx;omega
 have key:∀L:List Pl,(∀x∈L,alB SmB x∧5*szP x≤bg5 (dl6 x)∧2*cwP x≤2*vsP x+bg5 (dl6 x))→dy6 SmB L∧5*do1 L≤bg6 (L.map dl6)∧2*dy9 L≤2*ei7 L+bg6 (L.map dl6):=by
  intro L
  induction L with
  |nil=>intro _;exact⟨trivial,fl2 _,fl9 _⟩
  |cons a r ihr=>
   intro hx;obtain⟨a1,a2,a3⟩:=hx a Oc;obtain⟨b1,b2,b3⟩:=ihr fun x hm=>hx x (by simp[hm])
   rw[do1,dy9,ei7,fm5,bg6];exact⟨⟨a1,b1⟩,by omega,by omega⟩
 obtain⟨k1,k2,k3⟩:=key ks fun x hx=>ih x hx (hk x hx).1 (hk x hx).2
 have n1:=eh7 b.cl.ps;have hc:=ei1 b.cl
 have l3:=eg5 10 (L:=b.it.map co3) fun d hd=>by
  obtain⟨p,-,rfl⟩:=fl3.1 hd;have h2:=(eh1 p).2.2;have h3:=db0 p.e;have h4:1≤nd p.e:=by rw[ci2];omega
  omega
 rw[fk3]at l3;rw[alB,szP,cwP];refine⟨⟨hs,k1⟩,by omega,?_⟩;unfold cwB;omega
theorem ej0(p:Pl)(h:bg5 (dl6 p)≤1048576)(hv:vsP p≤100000):Ev E 10 [dl6 p] (.tup [.sl ((do2 p).1.map .str),.int (do2 p).2]):=by
 obtain⟨h1,h2,h3⟩:=ei9 p h hv;exact eg3 p h1 Oa Oa
end Go.Proofs.YtndgolmgaenlfaaGreatDoor
namespace Go.Proofs.YtndgolmgaenlfaaGreatDoor
set_option maxRecDepth 4000
open Go Go.Abs Go.Val Go.RowKit Go.Proofs.Tryz
attribute [local irreducible] go SGo an1 Ev au8 EvO EvS RGo RGw PGo
theorem ej1{p:ByteArray→Bool}:∀{l:List ByteArray} {i:Nat},i≤l.length→(∀x∈l.take i,p x=true)→(∀x,l[i]? =some x→p x=false)→l.takeWhile p=l.take i∧l.dropWhile p=l.drop i
 |[],i,h,_,_=>by
  obtain rfl:i=0:=by simpa using h
  exact⟨rfl,rfl⟩
 |a::r,0,_,_,h=>by
  have ha:=h a rfl;exact⟨List.takeWhile_cons_of_neg (by rw[ha];decide),List.dropWhile_cons_of_neg (by rw[ha];decide)⟩
 |a::r,i+1,h,h1,h2=>by
  have ha:=h1 a Oc;have ih:=ej1 (p:=p) (l:=r) (i:=i) (by simpa using h) (fun x hx=>h1 x (by simp[hx])) (fun x hx=>h2 x (by simpa using hx));rw[List.takeWhile_cons_of_pos ha,List.dropWhile_cons_of_pos ha,ih.1,ih.2];exact⟨rfl,rfl⟩
def ej2(l:List ByteArray)(s:ByteArray)(i j:Nat):List ByteArray:=l.take i++s::((l.take j).drop i).filter fun x=> !(x.toList==s.toList)
theorem ej3{l:List ByteArray}{s:ByteArray}{i:Nat}(hinc:cx1 l)(hi:i≤l.length)(h1:∀x∈l.take i,ltP x s=true)(h2:∀x,l[i]? =some x→ltP x s=false):ej2 l s i l.length=cx2 s l:=by
 obtain⟨a,b⟩:=ej1 (p:=fun x=>ltP x s) hi h1 h2;rw[cy1 s hinc,a,b];unfold ej2;rw[List.take_length]
theorem ej4{l:List ByteArray}{s x:ByteArray}{i j:Nat}(h:l[j]? =some x)(hij:i≤j):ej2 l s i (j+1)=bif x.toList==s.toList then ej2 l s i j else ej2 l s i j++ [x]:=by
 have hlt:=(fk2.1 h).1;unfold ej2;rw[fm8,h]
 have hd:(l.take j++(some x).toList).drop i=(l.take j).drop i++ [x]:=by
  rw[List.drop_append_of_le_length (by rw[fm4];omega)];rfl
 rw[hd,List.filter_append]
 cases hc:x.toList==s.toList with
 |true=>simp[hc]
 |false=>simp[hc]
theorem ej5{l:List ByteArray}{s:ByteArray}{i:Nat}:ej2 l s i i=l.take i++ [s]:=by
 unfold ej2;rw[fk5 (by rw[fm4];omega)];rfl
theorem ej6(l:List ByteArray)(s:ByteArray)(i j:Nat):(ej2 l s i j).length≤2*l.length+1:=by
 unfold ej2;have h1:=fr7 (fun x:ByteArray=> !(x.toList==s.toList)) ((l.take j).drop i);have h2:((l.take j).drop i).length≤l.length:=by rw[fr4,fm4];omega
 have h3:(l.take i).length≤l.length:=by rw[fm4];omega
 rw[fk1,fk0];omega
structure SPu1(l:List ByteArray)(s:ByteArray) where
 i:Nat
 hi:i≤l.length
 ok:∀x∈l.take i,ltP x s=true
structure SPu2(l:List ByteArray)(i:Nat) where
 j:Nat
 h1:i≤j
 hj:j≤l.length
theorem ej7(l:List ByteArray)(s:ByteArray)(hinc:cx1 l)(hmax:l.length≤3000000):Ev E 276 [.sl (l.map .str),.str s] (.d (.sl ((cx2 s l).map .str))):=by
 have hle:(l.map D.str).length=l.length:=Oc
 refine ye2 func276 ntmps276 fun _ _ _=>?_
 repeat'(refine yz ?_)
 refine ac7 (α:=SPu1 l s) (fun p=>⟨[(0,.d (.sl (l.map .str))),(1,.d (.str s)),(5,bf9 0 ((l.take p.i).map .str)),(6,.d (.int p.i))],aw7 9 1 ((l.take p.i).map .str)⟩) (fun p=>l.length-p.i) ⟨0,by omega,fun _ h=>by cases h⟩ (zle 0) ?_;rintro⟨i,hi,ok⟩;dsimp only;have hln:((l.take i).map D.str).length≤3000000:=by rw[fk3,fm4];omega
 rcases fj8 i l.length with hlt|hge
 ·have g1:decide ((i:Int)<((l.map D.str).length:Int))=true:=by rw[hle];simpa using hlt
  have hx0:=fj7 hlt;generalize l[i]=x at hx0;have hx:=ct3 (f:=D.str) hx0
  cases hc:ltP x s with
  |true=>
   have hc2:Op.bytesLess x.toList s.toList=true:=hc;have htk:(l.take (i+1)).map D.str=(l.take i).map D.str++ [.str x]:=by rw[fm8,hx0,fo8];rfl
   have hok:∀y∈l.take (i+1),ltP y s=true:=by
    rw[fm8,hx0];intro y hy;rcases fm1.1 hy with h|h
    ·exact ok y h
    ·obtain rfl:y=x:=by simpa using h
     exact hc
   generalize(l.take i).map D.str=K at*
   match K,hln with
   |[],hln=>
    dsimp only[bf9,aw7,List.append,HAppend.hAppend,Append.append]
    repeat'(first|refine yz ?_|refine yi (.str x) hx ?_|(refine qS rfl ⟨by simp,fun d hd=>by(obtain rfl:=fk8.1 hd;rfl),by(show _*16≤140737488355328;simp<;>omega),by(show _≤9223372036854775807;simp<;>omega)⟩ ?_)|refine yx ?_)
    refine ac1 ?_;refine⟨⟨i+1,by omega,hok⟩,by dsimp only;omega,?_⟩;dsimp only;rw[htk];exact(bh0 [0])
   |d::r,hln=>
    simp only[fk0]at hln;dsimp only[bf9,aw7,List.append,HAppend.hAppend,Append.append]
    repeat'(first|refine yz ?_|refine yi (.str x) hx ?_|(refine qS rfl ⟨by simp,fun d hd=>by(obtain rfl:=fk8.1 hd;rfl),by(show _*16≤140737488355328;simp<;>omega),by(show _≤9223372036854775807;simp<;>omega)⟩ ?_)|refine yx ?_)
    refine ac1 ?_;refine⟨⟨i+1,by omega,hok⟩,by dsimp only;omega,?_⟩;dsimp only;rw[htk];exact(bh0 [1])
  |false=>
   have hc2:Op.bytesLess x.toList s.toList=false:=hc;have hex:∀y,l[i]? =some y→ltP y s=false:=fun y h=>by rw[hx0]at h;cases h;exact hc
   generalize hK:(l.take i).map D.str=K at*
   match K,hK,hln with
   |[],hK,hln=>
    dsimp only[bf9,aw7,List.append,HAppend.hAppend,Append.append]
    repeat'(first|refine yz ?_|refine yi (.str x) hx ?_|(refine qS rfl ⟨by simp,fun d hd=>by(obtain rfl:=fk8.1 hd;rfl),by(show _*16≤140737488355328;simp<;>omega),by(show _≤9223372036854775807;simp<;>omega)⟩ ?_)|refine yx ?_)
    refine ac7 (α:=SPu2 l i) (fun p=>⟨[(0,.d (.sl (l.map .str))),(1,.d (.str s)),(5,.own 0),(6,.d (.int p.j))],[.row 9 1 ((ej2 l s i p.j).map .str)]⟩) (fun p=>l.length-p.j) ⟨i,by omega,hi⟩ (by dsimp only;rw[ej5,fo8];rw[hK];exact(bh0 [0])) ?_;rintro⟨j,hij,hj⟩;dsimp only;have hrl:=ej6 l s i j;rcases fj8 j l.length with hlt2|hge2
    ·have g2:decide ((j:Int)<((l.map D.str).length:Int))=true:=by rw[hle];simpa using hlt2
     have hy0:=fj7 hlt2;generalize l[j]=y at hy0;have hy:=ct3 (f:=D.str) hy0;have hat:=ej4 (s:=s) hy0 hij
     cases hq:y.toList==s.toList with
     |true=>
      rw[hq,cond_true]at hat;have hq2:(!(y.toList==s.toList))=false:=by rw[hq];rfl
      repeat'(first|refine yz ?_|refine yi (.str y) hy ?_)
      refine ac1 ?_;refine⟨⟨j+1,by omega,by omega⟩,by dsimp only;omega,?_⟩;dsimp only;rw[hat];exact(zle 1)
     |false=>
      rw[hq,cond_false]at hat;have hq2:(!(y.toList==s.toList))=true:=by rw[hq];rfl
      have hrm:((ej2 l s i j).map D.str).length≤2*l.length+1:=by rw[fk3];exact hrl
      repeat'(first|refine yz ?_|refine yi (.str y) hy ?_|(refine qS rfl ⟨by simp,fun d hd=>by(obtain rfl:=fk8.1 hd;rfl),by(show _*16≤140737488355328;simp<;>omega),by(show _≤9223372036854775807;simp<;>omega)⟩ ?_))
      refine ac1 ?_;refine⟨⟨j+1,by omega,by omega⟩,by dsimp only;omega,?_⟩;dsimp only;rw[hat,fo8];exact(bh0 [1])
    ·have g2:decide ((j:Int)<((l.map D.str).length:Int))=false:=by rw[hle];simp;omega
     obtain rfl:j=l.length:=Oa
     rw[ej3 hinc hi ok hex];refine au2 0 rfl ?_;dsimp only[ar6,ar5,ar8,ar7,List.map,List.set]
     exact Ok
   |d::r,hK,hln=>
    simp only[fk0]at hln;dsimp only[bf9,aw7,List.append,HAppend.hAppend,Append.append]
    repeat'(first|refine yz ?_|refine yi (.str x) hx ?_|(refine qS rfl ⟨by simp,fun d hd=>by(obtain rfl:=fk8.1 hd;rfl),by(show _*16≤140737488355328;simp<;>omega),by(show _≤9223372036854775807;simp<;>omega)⟩ ?_)|refine yx ?_)
    refine ac7 (α:=SPu2 l i) (fun p=>⟨[(0,.d (.sl (l.map .str))),(1,.d (.str s)),(5,.own 0),(6,.d (.int p.j))],[.row 9 1 ((ej2 l s i p.j).map .str)]⟩) (fun p=>l.length-p.j) ⟨i,by omega,hi⟩ (by dsimp only;rw[ej5,fo8];rw[hK];exact(bh0 [1])) ?_;rintro⟨j,hij,hj⟩;dsimp only;have hrl:=ej6 l s i j;rcases fj8 j l.length with hlt2|hge2
    ·have g2:decide ((j:Int)<((l.map D.str).length:Int))=true:=by rw[hle];simpa using hlt2
     have hy0:=fj7 hlt2;generalize l[j]=y at hy0;have hy:=ct3 (f:=D.str) hy0;have hat:=ej4 (s:=s) hy0 hij
     cases hq:y.toList==s.toList with
     |true=>
      rw[hq,cond_true]at hat;have hq2:(!(y.toList==s.toList))=false:=by rw[hq];rfl
      repeat'(first|refine yz ?_|refine yi (.str y) hy ?_)
      refine ac1 ?_;refine⟨⟨j+1,by omega,by omega⟩,by dsimp only;omega,?_⟩;dsimp only;rw[hat];exact(zle 1)
     |false=>
      rw[hq,cond_false]at hat;have hq2:(!(y.toList==s.toList))=true:=by rw[hq];rfl
      have hrm:((ej2 l s i j).map D.str).length≤2*l.length+1:=by rw[fk3];exact hrl
      repeat'(first|refine yz ?_|refine yi (.str y) hy ?_|(refine qS rfl ⟨by simp,fun d hd=>by(obtain rfl:=fk8.1 hd;rfl),by(show _*16≤140737488355328;simp<;>omega),by(show _≤9223372036854775807;simp<;>omega)⟩ ?_))
      refine ac1 ?_;refine⟨⟨j+1,by omega,by omega⟩,by dsimp only;omega,?_⟩;dsimp only;rw[hat,fo8];exact(bh0 [1])
    ·have g2:decide ((j:Int)<((l.map D.str).length:Int))=false:=by rw[hle];simp;omega
     obtain rfl:j=l.length:=Oa
     rw[ej3 hinc hi ok hex];refine au2 0 rfl ?_;dsimp only[ar6,ar5,ar8,ar7,List.map,List.set]
     exact Ok
 ·have g1:decide ((i:Int)<((l.map D.str).length:Int))=false:=by rw[hle];simp;omega
  have hex:∀y,l[i]? =some y→ltP y s=false:=fun y h=>by rw[fn6 hge]at h;cases h
  generalize hK:(l.take i).map D.str=K at*
  match K,hK,hln with
  |[],hK,hln=>
   dsimp only[bf9,aw7,List.append,HAppend.hAppend,Append.append]
   repeat'(first|refine yz ?_|(refine qS rfl ⟨by simp,fun d hd=>by(obtain rfl:=fk8.1 hd;rfl),by(show _*16≤140737488355328;simp<;>omega),by(show _≤9223372036854775807;simp<;>omega)⟩ ?_)|refine yx ?_)
   refine ac7 (α:=SPu2 l i) (fun p=>⟨[(0,.d (.sl (l.map .str))),(1,.d (.str s)),(5,.own 0),(6,.d (.int p.j))],[.row 9 1 ((ej2 l s i p.j).map .str)]⟩) (fun p=>l.length-p.j) ⟨i,by omega,hi⟩ (by dsimp only;rw[ej5,fo8];rw[hK];exact(bh0 [0])) ?_;rintro⟨j,hij,hj⟩;dsimp only;have hrl:=ej6 l s i j;rcases fj8 j l.length with hlt2|hge2
   ·have g2:decide ((j:Int)<((l.map D.str).length:Int))=true:=by rw[hle];simpa using hlt2
    have hy0:=fj7 hlt2;generalize l[j]=y at hy0;have hy:=ct3 (f:=D.str) hy0;have hat:=ej4 (s:=s) hy0 hij
    cases hq:y.toList==s.toList with
    |true=>
     rw[hq,cond_true]at hat;have hq2:(!(y.toList==s.toList))=false:=by rw[hq];rfl
     repeat'(first|refine yz ?_|refine yi (.str y) hy ?_)
     refine ac1 ?_;refine⟨⟨j+1,by omega,by omega⟩,by dsimp only;omega,?_⟩;dsimp only;rw[hat];exact(zle 1)
    |false=>
     rw[hq,cond_false]at hat;have hq2:(!(y.toList==s.toList))=true:=by rw[hq];rfl
     have hrm:((ej2 l s i j).map D.str).length≤2*l.length+1:=by rw[fk3];exact hrl
     repeat'(first|refine yz ?_|refine yi (.str y) hy ?_)
     refine ac1 ?_;refine⟨⟨j+1,by omega,by omega⟩,by dsimp only;omega,?_⟩;dsimp only;rw[hat,fo8];exact(bh0 [1])
   ·have g2:decide ((j:Int)<((l.map D.str).length:Int))=false:=by rw[hle];simp;omega
    obtain rfl:j=l.length:=Oa
    rw[ej3 hinc hi ok hex];refine au2 0 rfl ?_;dsimp only[ar6,ar5,ar8,ar7,List.map,List.set]
    exact Ok
  |d::r,hK,hln=>
   simp only[fk0]at hln;dsimp only[bf9,aw7,List.append,HAppend.hAppend,Append.append]
   repeat'(first|refine yz ?_|(refine qS rfl ⟨by simp,fun d hd=>by(obtain rfl:=fk8.1 hd;rfl),by(show _*16≤140737488355328;simp<;>omega),by(show _≤9223372036854775807;simp<;>omega)⟩ ?_)|refine yx ?_)
   refine ac7 (α:=SPu2 l i) (fun p=>⟨[(0,.d (.sl (l.map .str))),(1,.d (.str s)),(5,.own 0),(6,.d (.int p.j))],[.row 9 1 ((ej2 l s i p.j).map .str)]⟩) (fun p=>l.length-p.j) ⟨i,by omega,hi⟩ (by dsimp only;rw[ej5,fo8];rw[hK];exact(bh0 [1])) ?_;rintro⟨j,hij,hj⟩;dsimp only;have hrl:=ej6 l s i j;rcases fj8 j l.length with hlt2|hge2
   ·have g2:decide ((j:Int)<((l.map D.str).length:Int))=true:=by rw[hle];simpa using hlt2
    have hy0:=fj7 hlt2;generalize l[j]=y at hy0;have hy:=ct3 (f:=D.str) hy0;have hat:=ej4 (s:=s) hy0 hij
    cases hq:y.toList==s.toList with
    |true=>
     rw[hq,cond_true]at hat;have hq2:(!(y.toList==s.toList))=false:=by rw[hq];rfl
     repeat'(first|refine yz ?_|refine yi (.str y) hy ?_)
     refine ac1 ?_;refine⟨⟨j+1,by omega,by omega⟩,by dsimp only;omega,?_⟩;dsimp only;rw[hat];exact(zle 1)
    |false=>
     rw[hq,cond_false]at hat;have hq2:(!(y.toList==s.toList))=true:=by rw[hq];rfl
     have hrm:((ej2 l s i j).map D.str).length≤2*l.length+1:=by rw[fk3];exact hrl
     repeat'(first|refine yz ?_|refine yi (.str y) hy ?_)
     refine ac1 ?_;refine⟨⟨j+1,by omega,by omega⟩,by dsimp only;omega,?_⟩;dsimp only;rw[hat,fo8];exact(bh0 [1])
   ·have g2:decide ((j:Int)<((l.map D.str).length:Int))=false:=by rw[hle];simp;omega
    obtain rfl:j=l.length:=Oa
    rw[ej3 hinc hi ok hex];refine au2 0 rfl ?_;dsimp only[ar6,ar5,ar8,ar7,List.map,List.set]
    exact Ok
theorem ej8:∀l:List Ex,l.length≤ndL l
 |[]=>fl2 _
 |a::r=>by
  have h1:nd a=ndL a.ks+1:=ci2 a;have h2:=ej8 r;simp only[fk0,ndL];omega
abbrev oXJ(d:D):aa5:=.var 33 (.w (.d d))
structure SUs1(n:Nat) where
 i:Nat
 hi:i≤n
theorem ej9{acc l:List ByteArray}{i:Nat}{x:ByteArray}(h:l[i]? =some x):cx6 acc (l.take (i+1))=cx2 x (cx6 acc (l.take i)):=by
 rw[fm8,h,cy0];rfl
def ruN(op:Int)(nm:ByteArray)(ks:List Ex)(i:Nat):List ByteArray:=cx6 [] ((bif op==2 then [nm]else [])++cy2 (ks.take i))
theorem ek0(op:Int)(nm:ByteArray)(ks:List Ex)(i:Nat):cx1 (ruN op nm ks i):=cx8 List.Pairwise.nil
theorem ek1{op:Int}{nm:ByteArray}{ks:List Ex}{i:Nat}{x:Ex}(h:ks[i]? =some x):ruN op nm ks (i+1)=cx6 (ruN op nm ks i) (cy3 x):=by
 have e:cy2 (ks.take (i+1))=cy2 (ks.take i)++usX x:=by
  rw[cy6,cy6,fm8,h,fr2];simp
 unfold ruN;rw[e,←fn7,cy0];exact(cx9 (cx8 List.Pairwise.nil)).symm
theorem ek2:∀l:List Ex,(cy2 l).length≤ndL l
 |[]=>fl2 _
 |x::r=>by
  have h1:=cy7 x;have h2:=ek2 r;simp only[cy2,fk1,ndL];omega
theorem ek3:∀(l:List Ex) (i:Nat),ndL (l.take i)≤ndL l
 |[],i=>by simp
 |a::r,0=>by simp[ndL]
 |a::r,i+1=>by
  have:=ek3 r i;simp only[List.take_succ_cons,ndL];omega
theorem ek4(op:Int)(nm:ByteArray)(ks:List Ex)(i:Nat):(ruN op nm ks i).length≤ndL ks+1:=by
 have h1:=cy9 ((bif op==2 then [nm]else [])++cy2 (ks.take i)) [];have h2:=ek2 (ks.take i);have h3:=ek3 ks i;unfold ruN;rw[fk1]at h1;simp only[fk4]at h1
 cases hc:op==2 with
 |true=>rw[hc]at h1;simp only[cond_true,fk0,fk4]at h1;simp only[cond_true];omega
 |false=>rw[hc]at h1;simp only[cond_false,fk4]at h1;simp only[cond_false];omega
theorem ek5(e:Ex):nd e≤1000000→Ev E 216 [by1 e] (.d (.sl ((cy3 e).map .str))):=by
 refine bz0 (P:=fun e=>nd e≤1000000→Ev E 216 [by1 e] (.d (.sl ((cy3 e).map .str)))) (fun op v nm ds ks ih hn=>?_) e;rw[ci2]at hn;have hn':ndL ks+1≤1000000:=hn;have hle:(by0 ks).length=ks.length:=by7 ks;have hkl:=ej8 ks;have hr:cy3 (.mk op v nm ds ks)=ruN op nm ks ks.length:=by unfold cy3 ruN;rw[usX,List.take_length]
 rw[hr];obtain⟨vk,vn,vd,vS,vl⟩:=v;show Ev E 216 [.agg [.int op,.int vk,.int vn,.int vd,.str vS,.sl (bn2 vl),.str nm,.bool ds,.sl (by0 ks)]] _;generalize bn2 vl=VL;have h0:=ej7 [] nm List.Pairwise.nil Od;have e0:ruN op nm ks 0=bif op==2 then cx2 nm []else []:=by unfold ruN;cases op==2<;>rfl
 cases c1:op==2 with
 |true=>
  rw[c1,cond_true]at e0;refine ye1 func216 ntmps216 fun _ _ _=>?_
  repeat'(first|refine yz ?_|refine yp b276 h0 ?_)
  refine ac7 (α:=SUs1 ks.length) (fun p=>⟨[(1,.ptr 0 0),(3,.d (.sl ((ruN op nm ks p.i).map .str))),(4,.d (.int p.i))],[oXJ (.agg [.int op,.int vk,.int vn,.int vd,.str vS,.sl VL,.str nm,.bool ds,.sl (by0 ks)])]⟩) (fun p=>ks.length-p.i) ⟨0,by omega⟩ (by dsimp only;rw[e0];exact(zle 1)) ?_;rintro⟨i,hi⟩;dsimp only;rcases fj8 i ks.length with hlt|hge
  ·have g1:decide ((i:Int)<((by0 ks).length:Int))=true:=by rw[hle];simpa using hlt
   have hx0:=fj7 hlt;generalize ks[i]=x at hx0;have hx:(by0 ks)[(i:Int).toNat]? =some (by1 x):=by5 (by rw[fm2];exact hx0);have hm:=fj9 hx0;have hcx:=ih x hm (by have:=ci3 hm;omega);have hul:=cz0 x;have hnx:=ci3 hm;have hat:=ek1 (op:=op) (nm:=nm) hx0;have hrl:=ek4 op nm ks i;have hri:=ek0 op nm ks i;generalize ruN op nm ks i=W at*;generalize cy3 x=U at*;have hlu:(U.map D.str).length=U.length:=Oc
   repeat'(first|refine yz ?_|refine yi (by1 x) hx ?_|refine yp b216 hcx ?_)
   refine ac7 (α:=SUs1 U.length) (fun p=>⟨[(1,.ptr 0 0),(3,.d (.sl ((cx6 W (U.take p.i)).map .str))),(4,.d (.int i)),(5,.d (.sl (U.map .str))),(6,.d (.int p.i))],[oXJ (.agg [.int op,.int vk,.int vn,.int vd,.str vS,.sl VL,.str nm,.bool ds,.sl (by0 ks)])]⟩) (fun p=>U.length-p.i) ⟨0,by omega⟩ (zle 1) ?_;rintro⟨k,hk⟩;dsimp only;rcases fj8 k U.length with hlt2|hge2
   ·have g2:decide ((k:Int)<((U.map D.str).length:Int))=true:=by rw[hlu];simpa using hlt2
    have hy0:=fj7 hlt2;generalize U[k]=y at hy0;have hy:=ct3 (f:=D.str) hy0;have hil:=cy9 (U.take k) W;have htl:(U.take k).length≤U.length:=by rw[fm4];omega
    have hcp:=ej7 (cx6 W (U.take k)) y (cx8 hri) Oa;rw[←ej9 hy0]at hcp
    repeat'(first|refine yz ?_|refine yi (.str y) hy ?_|refine yp b276 hcp ?_)
    refine ac1 ?_;exact⟨⟨k+1,by omega⟩,by dsimp only;omega,(zle 1)⟩
   ·have g2:decide ((k:Int)<((U.map D.str).length:Int))=false:=by rw[hlu];simp;omega
    rw[fl4 hge2]
    repeat'(refine yz ?_)
    refine ac1 ?_;refine⟨⟨i+1,by omega⟩,by dsimp only;omega,?_⟩;dsimp only;rw[hat];exact(zle 1)
  ·have g1:decide ((i:Int)<((by0 ks).length:Int))=false:=by rw[hle];simp;omega
   obtain rfl:i=ks.length:=Oa
   exact Ok
 |false=>
  rw[c1,cond_false]at e0;refine ye1 func216 ntmps216 fun _ _ _=>?_
  repeat'(refine yz ?_)
  refine bh7 3 rfl ?_;refine ac7 (α:=SUs1 ks.length) (fun p=>⟨[(1,.ptr 0 0),(3,.d (.sl ((ruN op nm ks p.i).map .str))),(4,.d (.int p.i))],[oXJ (.agg [.int op,.int vk,.int vn,.int vd,.str vS,.sl VL,.str nm,.bool ds,.sl (by0 ks)])]⟩) (fun p=>ks.length-p.i) ⟨0,by omega⟩ (by dsimp only;rw[e0];exact(zle 1)) ?_;rintro⟨i,hi⟩;dsimp only;rcases fj8 i ks.length with hlt|hge
  ·have g1:decide ((i:Int)<((by0 ks).length:Int))=true:=by rw[hle];simpa using hlt
   have hx0:=fj7 hlt;generalize ks[i]=x at hx0;have hx:(by0 ks)[(i:Int).toNat]? =some (by1 x):=by5 (by rw[fm2];exact hx0);have hm:=fj9 hx0;have hcx:=ih x hm (by have:=ci3 hm;omega);have hul:=cz0 x;have hnx:=ci3 hm;have hat:=ek1 (op:=op) (nm:=nm) hx0;have hrl:=ek4 op nm ks i;have hri:=ek0 op nm ks i;generalize ruN op nm ks i=W at*;generalize cy3 x=U at*;have hlu:(U.map D.str).length=U.length:=Oc
   repeat'(first|refine yz ?_|refine yi (by1 x) hx ?_|refine yp b216 hcx ?_)
   refine ac7 (α:=SUs1 U.length) (fun p=>⟨[(1,.ptr 0 0),(3,.d (.sl ((cx6 W (U.take p.i)).map .str))),(4,.d (.int i)),(5,.d (.sl (U.map .str))),(6,.d (.int p.i))],[oXJ (.agg [.int op,.int vk,.int vn,.int vd,.str vS,.sl VL,.str nm,.bool ds,.sl (by0 ks)])]⟩) (fun p=>U.length-p.i) ⟨0,by omega⟩ (zle 1) ?_;rintro⟨k,hk⟩;dsimp only;rcases fj8 k U.length with hlt2|hge2
   ·have g2:decide ((k:Int)<((U.map D.str).length:Int))=true:=by rw[hlu];simpa using hlt2
    have hy0:=fj7 hlt2;generalize U[k]=y at hy0;have hy:=ct3 (f:=D.str) hy0;have hil:=cy9 (U.take k) W;have htl:(U.take k).length≤U.length:=by rw[fm4];omega
    have hcp:=ej7 (cx6 W (U.take k)) y (cx8 hri) Oa;rw[←ej9 hy0]at hcp
    repeat'(first|refine yz ?_|refine yi (.str y) hy ?_|refine yp b276 hcp ?_)
    refine ac1 ?_;exact⟨⟨k+1,by omega⟩,by dsimp only;omega,(zle 1)⟩
   ·have g2:decide ((k:Int)<((U.map D.str).length:Int))=false:=by rw[hlu];simp;omega
    rw[fl4 hge2]
    repeat'(refine yz ?_)
    refine ac1 ?_;refine⟨⟨i+1,by omega⟩,by dsimp only;omega,?_⟩;dsimp only;rw[hat];exact(zle 1)
  ·have g1:decide ((i:Int)<((by0 ks).length:Int))=false:=by rw[hle];simp;omega
   obtain rfl:i=ks.length:=Oa
   exact Ok
abbrev oPK(b:PB)(K:List D):aa5:=.var 40 (.w (.d (dl5 b K)))
theorem ek6(p:Pl):szP p≤1000000→Ev E 14 [dl6 p] (.d (.int (szP p))):=by
 refine dl4 (P:=fun p=>szP p≤1000000→Ev E 14 [dl6 p] (.d (.int (szP p)))) (fun b ks ih hn=>?_) p;rw[szP]at hn;have hle:(ks.map dl6).length=ks.length:=Oc
 have hkl:=do5 ks;rw[dl9,szP];have hrt:((do1 ks+1:Nat):Int)=1+(do1 ks:Int):=Oa
 rw[hrt];refine ye1 func14 ntmps14 fun _ _ _=>?_
 repeat'(refine yz ?_)
 refine ac7 (α:=SPiP ks.length) (fun p=>⟨[(1,.ptr 0 0),(3,.d (.int (1+(do1 (ks.take p.i):Int)))),(4,.d (.int p.i))],[oPK b (ks.map dl6)]⟩) (fun p=>ks.length-p.i) ⟨0,by omega⟩ (zle 1) ?_;rintro⟨i,hi⟩;dsimp only;have hpt:=ea6 ks i;rcases fj8 i ks.length with hlt|hge
 ·have g1:decide ((i:Int)<((ks.map dl6).length:Int))=true:=by rw[hle];simpa using hlt
  have hx0:=fj7 hlt;generalize ks[i]=x at hx0;have hx:=ct3 (f:=dl6) hx0;have hm:=fj9 hx0;have hsx:=do3 hm;have hc:=ih x hm Oa;have ht:=ea5 hx0;have e1:1+(do1 (ks.take i):Int)+(szP x:Int)=1+((do1 (ks.take (i+1)):Nat):Int):=by rw[ht];omega
  rw[ea7]at hx hc
  repeat'(first|refine yz ?_|refine qI (dl5 x.b (x.ks.map dl6)) rfl (ap1 rfl) rfl rfl rfl rfl rfl rfl Oh hx ?_|refine yp b14 hc ?_)
  refine ac1 ?_;refine⟨⟨i+1,by omega⟩,by dsimp only;omega,?_⟩;dsimp only;rw[←e1];exact(zle 1)
 ·have g1:decide ((i:Int)<((ks.map dl6).length:Int))=false:=by rw[hle];simp;omega
  rw[fl4 hge]
  exact Ok
theorem ek7:∀a b:List Pl,do0 (a++b)=max (do0 a) (do0 b)
 |[],b=>by rw[fm7,do0];omega
 |x::r,b=>by rw[fn1,do0,do0,ek7 r b];omega
theorem ek8{l:List Pl}{i:Nat}{x:Pl}(h:l[i]? =some x):do0 (l.take (i+1))=max (do0 (l.take i)) (dpP x):=by
 rw[fm8,h,ek7];show max _ (do0 [x])=_;rw[do0,do0];omega
theorem ek9(p:Pl):szP p≤1000000→Ev E 24 [dl6 p] (.d (.int (dpP p))):=by
 refine dl4 (P:=fun p=>szP p≤1000000→Ev E 24 [dl6 p] (.d (.int (dpP p)))) (fun b ks ih hn=>?_) p;have hdz:=do6 (.mk b ks);rw[szP]at hn hdz;rw[dpP]at hdz;have hle:(ks.map dl6).length=ks.length:=Oc
 have hkl:=do5 ks;rw[dl9,dpP];refine ye1 func24 ntmps24 fun _ _ _=>?_
 repeat'(refine yz ?_)
 refine ac7 (α:=SPiP ks.length) (fun p=>⟨[(1,.ptr 0 0),(3,.d (.int (do0 (ks.take p.i):Nat))),(4,.d (.int p.i))],[oPK b (ks.map dl6)]⟩) (fun p=>ks.length-p.i) ⟨0,by omega⟩ (zle 1) ?_;rintro⟨i,hi⟩;dsimp only;rcases fj8 i ks.length with hlt|hge
 ·have g1:decide ((i:Int)<((ks.map dl6).length:Int))=true:=by rw[hle];simpa using hlt
  have hx0:=fj7 hlt;generalize ks[i]=x at hx0;have hx:=ct3 (f:=dl6) hx0;have hm:=fj9 hx0;have hsx:=do3 hm;have hdx:=do6 x;have hc:=ih x hm Oa;have ht:=ek8 hx0;have e1:max ((do0 (ks.take i):Nat):Int) ((dpP x:Nat):Int)=((do0 (ks.take (i+1)):Nat):Int):=by rw[ht];omega
  rw[ea7]at hx hc
  repeat'(first|refine yz ?_|refine qI (dl5 x.b (x.ks.map dl6)) rfl (ap1 rfl) rfl rfl rfl rfl rfl rfl Oh hx ?_|refine yp b24 hc ?_)
  refine ac1 ?_;refine⟨⟨i+1,by omega⟩,by dsimp only;omega,?_⟩;dsimp only;rw[←e1];exact(zle 1)
 ·have g1:decide ((i:Int)<((ks.map dl6).length:Int))=false:=by rw[hle];simp;omega
  rw[fl4 hge];have e2:((do0 ks+1:Nat):Int)=(do0 ks:Int)+1:=Oa
  rw[e2]
  exact Ok
set_option maxHeartbeats 2000000 in
theorem el0(c:CL):Ev E 132 [co6 c] (.d (.bool (dm1 c))):=by
 have hb:=ds4 c.e;unfold dm1;obtain⟨k,opt,ds,ps,wh,e,nm,it,od,sk,lm,st,ns⟩:=c;simp only at hb ⊢;have l1:(((ps.map co2).length:Int)==0)=(ps.length==0):=by rw[fk3,fk9,beq_iff_eq,beq_iff_eq];omega
 have l2:(((by0 wh).length:Int)==0)=(wh.length==0):=by rw[by7,fk9,beq_iff_eq,beq_iff_eq];omega
 have l3:(((it.map co3).length:Int)==0)=(it.length==0):=by rw[fk3,fk9,beq_iff_eq,beq_iff_eq];omega
 have l4:(((od.map co4).length:Int)==0)=(od.length==0):=by rw[fk3,fk9,beq_iff_eq,beq_iff_eq];omega
 have l5:(((st.map co5).length:Int)==0)=(st.length==0):=by rw[fk3,fk9,beq_iff_eq,beq_iff_eq];omega
 have l6:(((ns.map D.str).length:Int)==0)=(ns.length==0):=by rw[fk3,fk9,beq_iff_eq,beq_iff_eq];omega
 rw[←l1,←l2,←l3,←l4,←l5,←l6];clear l1 l2 l3 l4 l5 l6;obtain⟨ze,hze⟩:∃b,cq3 e=b:=⟨_,rfl⟩;rw[hze]at hb ⊢;show Ev E 132 [.agg [.int k,.bool opt,.bool ds,.sl (ps.map co2),.sl (by0 wh),.int e.op,.int e.v.k,.int e.v.n,.int e.v.d,.str e.v.s,.sl (bn1 e.v),.str e.nm,.bool e.ds,.sl (bx9 e),.str nm,.sl (it.map co3),.sl (od.map co4),.int sk,.int lm,.sl (st.map co5),.sl (ns.map D.str)]] (.d (.bool (k==0&&(!opt&&(!ds&&(((ps.map co2).length:Int)==0&&(((by0 wh).length:Int)==0&&(ze&&((nm.toList==(⟨#[]⟩:ByteArray).toList) &&(((it.map co3).length:Int)==0&&(((od.map co4).length:Int)==0&&(sk==0&&(lm==0&&(((st.map co5).length:Int)==0&&((ns.map D.str).length:Int)==0))))))))))))));generalize ps.map co2=L1 at*;generalize by0 wh=L2 at*;generalize it.map co3=L3 at*;generalize od.map co4=L4 at*;generalize st.map co5=L5 at*;generalize ns.map D.str=L6 at*;refine ye1 func132 ntmps132 fun _ _ _=>?_
 repeat'(first|refine yz ?_|refine yp bp7 hb ?_|(refine yy ?_ ?_<;>intro _))
 all_goals(refine congrArg D.bool ?_;clear hb hze;simp_all)
theorem el1:Ev E 131 [.int 1] (.d (.int 0)):=by
 refine ye1 func131 ntmps131 fun _ _ _=>?_
 exact Ok
theorem el2:Ev E 131 [.int 3] (.d (.int 2)):=by
 refine ye1 func131 ntmps131 fun _ _ _=>?_
 exact Ok
theorem el3:Ev E 131 [.int 6] (.d (.int 1)):=by
 refine ye1 func131 ntmps131 fun _ _ _=>?_
 exact Ok
theorem el4:Ev E 131 [.int 11] (.d (.int 1)):=by
 refine ye1 func131 ntmps131 fun _ _ _=>?_
 exact Ok
structure SKnJ(cols U:List ByteArray) where
 i:Nat
 hi:i≤U.length
 ok:(U.take i).all (fun s=>bx6 cols s)=true
theorem el5(e:Ex)(cols:List ByteArray)(hn:nd e≤1000000):Ev E 139 [by1 e,.sl (cols.map .str)] (.d (.bool (dd2 e cols))):=by
 have hu:=ek5 e hn;have hul:=cz0 e;unfold dd2;generalize cy3 e=U at*;have hlu:(U.map D.str).length=U.length:=Oc
 refine ye2 func139 ntmps139 fun _ _ _=>?_
 repeat'(first|refine yz ?_|refine yp b216 hu ?_)
 refine ac7 (α:=SKnJ cols U) (fun p=>⟨[(1,.d (.sl (cols.map .str))),(2,.ptr 0 0),(5,.d (.sl (U.map .str))),(6,.d (.int p.i))],[oXJ (by1 e)]⟩) (fun p=>U.length-p.i) ⟨0,by omega,rfl⟩ (zle 1) ?_;rintro⟨i,hi,ok⟩;dsimp only;rcases fj8 i U.length with hlt|hge
 ·have g1:decide ((i:Int)<((U.map D.str).length:Int))=true:=by rw[hlu];simpa using hlt
  have hx0:=fj7 hlt;generalize U[i]=x at hx0;have hx:=ct3 (f:=D.str) hx0;have hh:=bx8 cols x
  cases hc:bx6 cols x with
  |true=>
   rw[hc]at hh
   repeat'(first|refine yz ?_|refine yi (.str x) hx ?_|refine yp b17 hh ?_)
   refine ac1 ?_;exact⟨⟨i+1,by omega,by rw[fm8,hx0,List.all_append,ok];simp[hc]⟩,by dsimp only;omega,(zle 1)⟩
  |false=>
   rw[hc]at hh
   have hf:(U.all fun s=>bx6 cols s)=false:=by
    rw[←fq0];intro h;have:=fm3.1 h x (fj9 hx0);rw[hc]at this
    cases this
   rw[hf]
   repeat'(first|refine yz ?_|refine yi (.str x) hx ?_|refine yp b17 hh ?_|exact zD)
 ·have g1:decide ((i:Int)<((U.map D.str).length:Int))=false:=by rw[hlu];simp;omega
  rw[fl4 hge]at ok;rw[ok]
  exact Ok
theorem el6(e:Ex)(cols:List ByteArray)(hn:nd e≤1000000):Ev E 74 [by1 e,.sl (cols.map .str),.bool false] (.d (.int (dd3 e cols))):=by
 have hd:=db1 e;have hk:=cn8 e Oa Oa;have h1:=el5 e cols hn;have h2:=dq6 e;unfold dd3;generalize dd2 e cols=kn at*;generalize co7 e=ha at*
 cases hc:cn6 e !=0 with
 |true=>
  rw[cond_true];generalize cn6 e=z at*;refine ye3 func74 ntmps74 fun _ _ _=>?_
  repeat'(first|refine yz ?_|refine yp b76 hk ?_|exact zD)
 |false=>
  rw[cond_false];have h0:cn6 e=0:=by simpa using hc
  rw[h0]at hk
  cases kn with
  |false=>
   refine ye3 func74 ntmps74 fun _ _ _=>?_
   repeat'(first|refine yz ?_|refine yp b76 hk ?_|refine yp bp8 h1 ?_|exact zD)
  |true=>
   cases ha with
   |true=>
    refine ye3 func74 ntmps74 fun _ _ _=>?_
    repeat'(first|refine yz ?_|refine yp b76 hk ?_|refine yp bp8 h1 ?_|refine yp bp9 h2 ?_|exact zD)
   |false=>
    refine ye3 func74 ntmps74 fun _ _ _=>?_
    repeat'(first|refine yz ?_|refine yp b76 hk ?_|refine yp bp8 h1 ?_|refine yp bp9 h2 ?_|exact zD)
theorem el7(a b:List ByteArray)(ha:a.length≤1000000)(hb:b.length≤1000000):Ev E 72 [.sl (a.map .str),.sl (b.map .str)] (.d (.sl ((dm4 a b).map .str))):=by
 have hle:(b.map D.str).length=b.length:=Oc
 have hj:dm4 a b=joi a b b.length:=by unfold dm4 joi;rw[List.take_length]
 rw[hj]
 by_cases h0:a=[]
 ·subst h0;refine ye2 func72 ntmps72 fun _ _ _=>?_
  repeat'(first|(refine bm2 ?_)|(refine bm3 ?_)|refine yz ?_)
  refine ac7 (α:=SBoP b) (fun p=>⟨[(0,.d (.sl ([].map .str))),(1,.d (.sl (b.map .str))),(5,bm7 0 ((joi [] b p.i).map .str)),(6,.d (.int p.i))],aw7 9 1 ((joi [] b p.i).map .str)⟩) (fun p=>b.length-p.i) ⟨0,by omega⟩ (zle 0) ?_;rintro⟨i,hi⟩;dsimp only;have hol:=eb6 [] b i;rcases fj8 i b.length with hlt|hge
  ·have g1:decide ((i:Int)<((b.map D.str).length:Int))=true:=by rw[hle];simpa using hlt
   have hx0:=fj7 hlt;generalize b[i]=x at hx0;have hx:=ct3 (f:=D.str) hx0;have hc:=bx8 [] x;have hat:=eb5 (a:=[]) hx0
   cases hh:bx6 [] x with
   |true=>
    simp[bx6]at hh
   |false=>
    rw[hh,cond_false]at hat;rw[hh]at hc;generalize joi [] b i=o at*
    match o,hol with
    |[],hol=>
     dsimp only[bm7,aw7,List.map]
     repeat'(first|refine yz ?_|refine yi (.str x) hx ?_|refine yp b17 hc ?_|(refine bm4 ?_ ?_;exact⟨by simp,fun d hd=>by(obtain rfl:=fk8.1 hd;rfl),by(show 1*16≤140737488355328;omega),by(show 1≤9223372036854775807;omega)⟩))
     refine ac1 ?_;refine⟨⟨i+1,by omega⟩,by dsimp only;omega,?_⟩;dsimp only;rw[hat];exact(bh0 [0])
    |y::q,hol=>
     dsimp only[bm7,aw7,List.map]
     repeat'(first|refine yz ?_|refine yi (.str x) hx ?_|refine yp b17 hc ?_|(refine qS rfl ⟨by simp,fun d hd=>by(obtain rfl:=fk8.1 hd;rfl),by(show _*16≤140737488355328;simp;simp only[fk0]at hol;omega),by(show _≤9223372036854775807;simp;simp only[fk0]at hol;omega)⟩ ?_))
     refine ac1 ?_;refine⟨⟨i+1,by omega⟩,by dsimp only;omega,?_⟩;dsimp only;rw[hat,dy4];exact(bh0 [1])
  ·have g1:decide ((i:Int)<((b.map D.str).length:Int))=false:=by rw[hle];simp;omega
   obtain rfl:i=b.length:=Oa
   generalize joi [] b b.length=o at*
   match o with
   |[]=>
    dsimp only[bm7,aw7,List.map];refine bm6 5 rfl ?_
    exact Ok
   |y::q=>
    dsimp only[bm7,aw7,List.map];refine au2 0 rfl ?_;dsimp only[ar6,ar5,ar8,ar7,List.map,List.set]
    exact Ok
 ·have hne:a.map D.str≠ []:=by simpa using h0
  have hal:(a.map D.str).length=a.length:=Oc
  have hac:∀d∈a.map D.str,d.cells.length=1:=fun d hd=>by obtain⟨s,-,rfl⟩:=fl3.1 hd;rfl
  refine ye2 func72 ntmps72 fun _ _ _=>?_
  repeat'(first|(refine bm2 ?_)|refine yz ?_|(refine bm4 ?_ ?_;exact⟨hne,hac,by(show(a.map D.str).length*16≤140737488355328;omega),by(show(a.map D.str).length≤9223372036854775807;omega)⟩))
  refine ac7 (α:=SBoP b) (fun p=>⟨[(0,.d (.sl (a.map .str))),(1,.d (.sl (b.map .str))),(5,bm7 0 ((joi a b p.i).map .str)),(6,.d (.int p.i))],aw7 9 1 ((joi a b p.i).map .str)⟩) (fun p=>b.length-p.i) ⟨0,by omega⟩ (by
   have e0:joi a b 0=a:=by unfold joi;simp
   dsimp only;rw[e0]
   match a,h0 with
   |x::r,_=>exact(zle 1)) ?_
  rintro⟨i,hi⟩;dsimp only;have hol:=eb6 a b i;rcases fj8 i b.length with hlt|hge
  ·have g1:decide ((i:Int)<((b.map D.str).length:Int))=true:=by rw[hle];simpa using hlt
   have hx0:=fj7 hlt;generalize b[i]=x at hx0;have hx:=ct3 (f:=D.str) hx0;have hc:=bx8 a x;have hat:=eb5 (a:=a) hx0
   cases hh:bx6 a x with
   |true=>
    rw[hh,cond_true]at hat;rw[hh]at hc;generalize joi a b i=o at*
    match o with
    |[]=>
     dsimp only[bm7,aw7,List.map]
     repeat'(first|refine yz ?_|refine yi (.str x) hx ?_|refine yp b17 hc ?_)
     refine ac1 ?_;refine⟨⟨i+1,by omega⟩,by dsimp only;omega,?_⟩;dsimp only;rw[hat];exact(zle 0)
    |y::q=>
     dsimp only[bm7,aw7,List.map]
     repeat'(first|refine yz ?_|refine yi (.str x) hx ?_|refine yp b17 hc ?_)
     refine ac1 ?_;refine⟨⟨i+1,by omega⟩,by dsimp only;omega,?_⟩;dsimp only;rw[hat];exact(zle 1)
   |false=>
    rw[hh,cond_false]at hat;rw[hh]at hc;generalize joi a b i=o at*
    match o,hol with
    |[],hol=>
     dsimp only[bm7,aw7,List.map]
     repeat'(first|refine yz ?_|refine yi (.str x) hx ?_|refine yp b17 hc ?_|(refine bm4 ?_ ?_;exact⟨by simp,fun d hd=>by(obtain rfl:=fk8.1 hd;rfl),by(show 1*16≤140737488355328;omega),by(show 1≤9223372036854775807;omega)⟩))
     refine ac1 ?_;refine⟨⟨i+1,by omega⟩,by dsimp only;omega,?_⟩;dsimp only;rw[hat];exact(bh0 [0])
    |y::q,hol=>
     dsimp only[bm7,aw7,List.map]
     repeat'(first|refine yz ?_|refine yi (.str x) hx ?_|refine yp b17 hc ?_|(refine qS rfl ⟨by simp,fun d hd=>by(obtain rfl:=fk8.1 hd;rfl),by(show _*16≤140737488355328;simp;simp only[fk0]at hol;omega),by(show _≤9223372036854775807;simp;simp only[fk0]at hol;omega)⟩ ?_))
     refine ac1 ?_;refine⟨⟨i+1,by omega⟩,by dsimp only;omega,?_⟩;dsimp only;rw[hat,dy4];exact(bh0 [1])
  ·have g1:decide ((i:Int)<((b.map D.str).length:Int))=false:=by rw[hle];simp;omega
   obtain rfl:i=b.length:=Oa
   generalize joi a b b.length=o at*
   match o with
   |[]=>
    dsimp only[bm7,aw7,List.map];refine bm6 5 rfl ?_
    exact Ok
   |y::q=>
    dsimp only[bm7,aw7,List.map];refine au2 0 rfl ?_;dsimp only[ar6,ar5,ar8,ar7,List.map,List.set]
    exact Ok
end Go.Proofs.YtndgolmgaenlfaaGreatDoor
