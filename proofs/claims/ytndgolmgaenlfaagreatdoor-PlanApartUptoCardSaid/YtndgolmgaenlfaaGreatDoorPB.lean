/- A clause of patterns applied to each row, checked by the program; plan.Check, by the program; What the bulk of a plan's reading grants: all that plan.. Conditions: each part's own, as it says. -/
import Derived.Test.YtndgolmgaenlfaaGreatDoorPA
import Derived.Test.YtndgolmgaenlfaaGreatDoorCB
import Derived.Test.YtndgolmgaenlfaaGreatDoorGC
import Derived.Test.YtndgolmgaenlfaaGreatDoorFB
import Derived.Test.YtndgolmgaenlfaaGreatDoorCA
import Derived.Test.YtndgolmgaenlfaaGreatDoorMA
import Derived.Test.YtndgolmgaenlfaaGreatDoorFA
set_option linter.unusedVariables false
set_option linter.unusedSimpArgs false
namespace Go.Proofs.YtndgolmgaenlfaaGreatDoor
set_option maxRecDepth 4000
open Go Go.Abs Go.Val Go.RowKit Go.Proofs.Tryz
attribute [local irreducible] go SGo an9 Ev aw1 EvO EvS RGo PGo
def ef3(l:List PA):List PP:=l.flatMap fun p=>p.ns.flatMap NP.ps++p.es.flatMap EP.ps
theorem ef4(l:List PA):dq3 l=(ef3 l).map fun q=>q.e:=by
 unfold dq3 ef3;rw[List.map_flatMap];congr 1
 funext p
 rw[gg7,List.map_flatMap,List.map_flatMap]
structure SmC(c:CL):Prop where
 ok:OkC c
 pr:∀q∈ef3 c.ps,smE q.e
 pl:(ef3 c.ps).length≤1000000
 wh:∀e∈c.wh,smE e
 nm:(dq0 c.ps).length≤900000
 ne:∀p∈c.ps,p.ns.length≤1000000∧p.es.length≤1000000
theorem ef5(l:List PP):∀d∈l.map ct7,d.cells.length=10:=fun d hd=>by
 obtain⟨u,-,rfl⟩:=ga1.1 hd;rfl
structure SiP(n:Nat) where
 i:Nat
 hi:i≤n
theorem ef6{l:List PA}{i:Nat}{p:PA}(h:l[i]? =some p):ef3 (l.take (i+1))=ef3 (l.take i)++(p.ns.flatMap NP.ps++p.es.flatMap EP.ps):=by
 unfold ef3;rw[gd7,h,gi0];simp
theorem ef7{α β:Type}{f:α→List β}{l:List α}{i:Nat}{x:α}(h:l[i]? =some x):(l.take (i+1)).flatMap f=(l.take i).flatMap f++f x:=by
 rw[gd7,h,gi0];simp
theorem ef8{α β:Type}{f:α→List β}(l:List α)(i:Nat):((l.take i).flatMap f).length≤(l.flatMap f).length:=by
 have h:l.flatMap f=(l.take i).flatMap f++(l.drop i).flatMap f:=by rw[←gi0,gf7]
 have:=congrArg List.length h;rw[fy8]at this;omega
theorem ef9(l:List PA)(i:Nat):(ef3 (l.take i)).length≤(ef3 l).length:=ef8 l i
theorem eg0(y:NP):ct8 y=.agg [.str y.vr,.sl (y.lb.map .str),.sl (y.ps.map ct7)]:=rfl
theorem eg1(y:EP):ct9 y=.agg [.str y.vr,.sl (y.ty.map .str),.int y.dir,.int y.mode,.int y.mn,.int y.mx,.sl (y.ps.map ct7)]:=rfl
def fP(k:Nat):List D→X
 |[]=>.nilS
 |_::_=>.own k
def gP:List D→aa5
 |[]=>.dead
 |x::r=>.row 96 10 (x::r)
set_option maxHeartbeats 8000000 in
theorem eg2(c:CL)(cols:List ByteArray)(hs:SmC c)(hcl:cols.length≤1000000):Ev E 40 [cu4 c,.sl (cols.map .str)] (.d (.int (dq4 c cols).2)):=Ev.fit fun hfit=>by
 have hk:=ef2 c hs.ok;have hfc:=(hfit (cu4 c) Oc).aggs;have hmp:=(cz2 (hfc (.sl (c.ps.map cu0)) (by simp[cu4]))).1
 have hmw:c.wh.length≤9223372036854775807:=by
  have h:=(bz9 (hfc (.sl (bz0 c.wh)) (by simp[cu4]))).1;exact h
 have hpa:=(cz2 (hfc (.sl (c.ps.map cu0)) (by simp[cu4]))).2;have hVars:=dz4 c.ps hs.nm hs.ne;have hvl:(dq1 c.ps).length≤900000:=by have h:=dy8 (dq0 c.ps) [];have h2:=hs.nm;unfold dq1;unfold dy6 at h;simp only[fz2]at h;omega
 have hboth:=ec6 cols (dq1 c.ps) hcl Oa;have hc1:=ea9 cols (ef3 c.ps) hs.pr (by have:=hs.pl;omega);have hc2:=eb2 (dp7 cols (dq1 c.ps)) c.wh hs.wh hmw;rw[←bz2]at hc2;have hc3:=da0 63 b63 cu5 c.wh (fun x _=>db2 x);rw[←bz2]at hc3
 have e1:((dq3 c.ps).all fun e=>di7 e cols)= !((ef3 c.ps).any fun x=> !di7 x.e cols):=by
  rw[ef4,gb5];simp only[List.all_map,ga6,Bool.not_eq_true',gb9,ge5,Function.comp];exact⟨fun h x hx=>by simpa using h x hx,fun h x hx=>by simpa using h x hx⟩
 have e2:(c.wh.all fun e=>di7 e (dp7 cols (dq1 c.ps)))= !(c.wh.any fun x=> !di7 x (dp7 cols (dq1 c.ps))):=by
  rw[gb5];simp only[ga6,Bool.not_eq_true',gb9,ge5];exact⟨fun h x hx=>by simpa using h x hx,fun h x hx=>by simpa using h x hx⟩
 have hap:(dq4 c cols).2=bif cw7 c !=0 then cw7 c else bif (ef3 c.ps).any (fun x=> !di7 x.e cols)then 6 else bif c.wh.any (fun x=> !di7 x (dp7 cols (dq1 c.ps)))then 6 else bif c.wh.any cu5 then 9 else 0:=by
  unfold dq4;rw[e1,e2,Bool.not_not,Bool.not_not]
  cases cw7 c !=0<;>cases(ef3 c.ps).any (fun x=> !di7 x.e cols)<;>cases c.wh.any (fun x=> !di7 x (dp7 cols (dq1 c.ps)))<;>cases c.wh.any cu5<;>rfl
 rw[hap];clear e1 e2 hap;generalize dp7 cols (dq1 c.ps)=al at*;generalize(c.wh.any fun x=> !di7 x al)=b2 at*;generalize c.wh.any cu5=b3 at*;generalize(ef3 c.ps).any (fun x=> !di7 x.e cols)=b1 at*;have hpl:=hs.pl;obtain⟨k,opt,ds,ps,wh,e,nm,it,od,sk,lm,st,ns⟩:=c;simp only at hpl hc1 hc2 hc3 hVars hboth hmp hpa hmw ⊢;generalize dq1 ps=vp at*
 cases hz:cw7 ⟨k,opt,ds,ps,wh,e,nm,it,od,sk,lm,st,ns⟩ !=0 with
 |true=>
  rw[cond_true];generalize cw7 _=z at*;refine ye2 func40 ntmps40 fun _ _ _=>?_
  repeat'(first|refine yz ?_|refine yp b64 hk ?_|exact zD)
 |false=>
 have hz0:cw7 ⟨k,opt,ds,ps,wh,e,nm,it,od,sk,lm,st,ns⟩=0:=by simpa using hz
 rw[hz0]at hk;rw[cond_false];clear hz hz0;have hle:(ps.map cu0).length=ps.length:=Oc
 obtain⟨C,hC⟩:∃C,C=cu4 ⟨k,opt,ds,ps,wh,e,nm,it,od,sk,lm,st,ns⟩:=⟨_,rfl⟩;refine ye2 func40 ntmps40 fun _ _ _=>?_
 repeat'(first|refine yz ?_|refine yp b64 hk ?_)
 refine bl9 ?_;refine ac8 (α:=SiP ps.length) (fun p=>⟨[(2,.ptr 0 0),(3,.ptr 1 0),(6,fP 2 ((ef3 (ps.take p.i)).map ct7)),(20,.d (.sl (ps.map cu0))),(21,.d (.int (ps.map cu0).length)),(22,.d (.int p.i))],[oCL ⟨k,opt,ds,ps,wh,e,nm,it,od,sk,lm,st,ns⟩,cl8 cols,gP ((ef3 (ps.take p.i)).map ct7)]⟩) (fun p=>ps.length-p.i) ⟨0,by omega⟩ (zle 3) ?_;rintro⟨i,hi⟩;dsimp only;rcases fy5 i ps.length with hlt|hge
 ·have g1:decide ((i:Int)<((ps.map cu0).length:Int))=true:=by rw[hle];simpa using hlt
  have hx0:=fy4 hlt;generalize ps[i]=p at hx0;have hx:=cz1 (f:=cu0) hx0;have hpm:=fy6 hx0;have htk:=ef6 hx0;have hbd:=ef9 ps (i+1);rw[htk,fy8,fy8]at hbd;have hne:=hs.ne p hpm;generalize ef3 (ps.take i)=L at*;have hnl:(p.ns.map ct8).length=p.ns.length:=Oc
  have hel:(p.es.map ct9).length=p.es.length:=Oc
  repeat'(first|refine yz ?_|refine yi (cu0 p) hx ?_)
  refine ac8 (α:=SiP p.ns.length) (fun q=>⟨[(2,.ptr 0 0),(3,.ptr 1 0),(6,fP 2 ((L++(p.ns.take q.i).flatMap NP.ps).map ct7)),(8,.ptr 3 0),(20,.d (.sl (ps.map cu0))),(21,.d (.int (ps.map cu0).length)),(22,.d (.int i)),(27,.d (.sl (p.ns.map ct8))),(28,.d (.int (p.ns.map ct8).length)),(29,.d (.int q.i))],[oCL ⟨k,opt,ds,ps,wh,e,nm,it,od,sk,lm,st,ns⟩,cl8 cols,gP ((L++(p.ns.take q.i).flatMap NP.ps).map ct7),.var 69 (.w (.d (cu0 p)))]⟩) (fun q=>p.ns.length-q.i) ⟨0,by omega⟩ (by dsimp only;rw[gc8,List.flatMap_nil,ge7];generalize L.map ct7=K0;rcases K0 with _|⟨d0,r0⟩<;>exact(zle 4)) ?_;rintro⟨j,hj⟩;dsimp only;rcases fy5 j p.ns.length with hltj|hgej
  ·have g2:decide ((j:Int)<((p.ns.map ct8).length:Int))=true:=by rw[hnl];simpa using hltj
   have hy0:=fy4 hltj;generalize p.ns[j]=y at hy0;have hy:=cz1 (f:=ct8) hy0;have hft:=ef7 (f:=NP.ps) hy0;have hfl:=ef8 (f:=NP.ps) p.ns (j+1);rw[hft,fy8]at hfl;have hmp2:(L++(p.ns.take (j+1)).flatMap NP.ps).map ct7=(L++(p.ns.take j).flatMap NP.ps).map ct7++y.ps.map ct7:=by rw[hft];simp
   have hll:((L++(p.ns.take j).flatMap NP.ps).map ct7).length+(y.ps.map ct7).length≤1000000:=by simp only[fz3,fy8];omega
   have hpc:=ef5 y.ps;rw[eg0]at hy;generalize(L++(p.ns.take j).flatMap NP.ps).map ct7=K1 at*;generalize y.ps.map ct7=K2 at*;rcases K1 with _|⟨d1,r1⟩<;>rcases K2 with _|⟨d2,r2⟩
   ·dsimp only[fP,gP]
    repeat'(first|refine yz ?_|refine qI (.agg [.str y.vr,.sl (y.lb.map .str),.sl []]) rfl (ap9 rfl) rfl rfl rfl rfl rfl rfl Oh hy ?_|refine bm3 ?_)
    refine ac2 ?_;refine⟨⟨j+1,by omega⟩,by dsimp only;omega,?_⟩;dsimp only;rw[hmp2,ge7];exact(zle 4)
   ·dsimp only[fP,gP]
    repeat'(first|refine yz ?_|refine qI (.agg [.str y.vr,.sl (y.lb.map .str),.sl (d2::r2)]) rfl (ap9 rfl) rfl rfl rfl rfl rfl rfl Oh hy ?_|(refine qS rfl ⟨by simp,hpc,by(show _*136≤140737488355328;first|(simp only[fy7,fz2]at*;omega)|(simp;omega)),by(show _≤9223372036854775807;first|(simp only[fy7,fz2]at*;omega)|(simp;omega))⟩ ?_))
    refine ac2 ?_;refine⟨⟨j+1,by omega⟩,by dsimp only;omega,?_⟩;dsimp only;rw[hmp2];exact(bi7 [0,1,5,3])
   ·dsimp only[fP,gP]
    repeat'(first|refine yz ?_|refine qI (.agg [.str y.vr,.sl (y.lb.map .str),.sl []]) rfl (ap9 rfl) rfl rfl rfl rfl rfl rfl Oh hy ?_|refine bl8 rfl rfl rfl rfl rfl rfl rfl rfl rfl ?_)
    refine ac2 ?_;refine⟨⟨j+1,by omega⟩,by dsimp only;omega,?_⟩;dsimp only;rw[hmp2,ge7];exact(zle 4)
   ·dsimp only[fP,gP]
    repeat'(first|refine yz ?_|refine qI (.agg [.str y.vr,.sl (y.lb.map .str),.sl (d2::r2)]) rfl (ap9 rfl) rfl rfl rfl rfl rfl rfl Oh hy ?_|(refine qS rfl ⟨by simp,hpc,by(show _*136≤140737488355328;first|(simp only[fy7,fz2]at*;omega)|(simp;omega)),by(show _≤9223372036854775807;first|(simp only[fy7,fz2]at*;omega)|(simp;omega))⟩ ?_))
    refine ac2 ?_;refine⟨⟨j+1,by omega⟩,by dsimp only;omega,?_⟩;dsimp only;rw[hmp2];exact(bi7 [0,1,5,3])
  ·have g2:decide ((j:Int)<((p.ns.map ct8).length:Int))=false:=by rw[hnl];simp;omega
   rw[ga3 hgej];have hM:(L++p.ns.flatMap NP.ps).length+(p.es.flatMap EP.ps).length≤1000000:=by rw[fy8];omega
   rw[←fz5]at htk;generalize L++p.ns.flatMap NP.ps=M at*
   repeat'(refine yz ?_)
   refine ac8 (α:=SiP p.es.length) (fun q=>⟨[(2,.ptr 0 0),(3,.ptr 1 0),(6,fP 2 ((M++(p.es.take q.i).flatMap EP.ps).map ct7)),(8,.ptr 3 0),(20,.d (.sl (ps.map cu0))),(21,.d (.int (ps.map cu0).length)),(22,.d (.int i)),(39,.d (.sl (p.es.map ct9))),(40,.d (.int (p.es.map ct9).length)),(41,.d (.int q.i))],[oCL ⟨k,opt,ds,ps,wh,e,nm,it,od,sk,lm,st,ns⟩,cl8 cols,gP ((M++(p.es.take q.i).flatMap EP.ps).map ct7),.var 69 (.w (.d (cu0 p)))]⟩) (fun q=>p.es.length-q.i) ⟨0,by omega⟩ (by dsimp only;rw[gc8,List.flatMap_nil,ge7];generalize M.map ct7=K0;rcases K0 with _|⟨d0,r0⟩<;>exact(zle 4)) ?_;rintro⟨m,hm⟩;dsimp only;rcases fy5 m p.es.length with hltm|hgem
   ·have g2:decide ((m:Int)<((p.es.map ct9).length:Int))=true:=by rw[hel];simpa using hltm
    have hy0:=fy4 hltm;generalize p.es[m]=y at hy0;have hy:=cz1 (f:=ct9) hy0;have hft:=ef7 (f:=EP.ps) hy0;have hfl:=ef8 (f:=EP.ps) p.es (m+1);rw[hft,fy8]at hfl;have hmp2:(M++(p.es.take (m+1)).flatMap EP.ps).map ct7=(M++(p.es.take m).flatMap EP.ps).map ct7++y.ps.map ct7:=by rw[hft];simp
    have hll:((M++(p.es.take m).flatMap EP.ps).map ct7).length+(y.ps.map ct7).length≤1000000:=by simp only[fz3,fy8];omega
    have hpc:=ef5 y.ps;rw[eg1]at hy;generalize(M++(p.es.take m).flatMap EP.ps).map ct7=K1 at*;generalize y.ps.map ct7=K2 at*;rcases K1 with _|⟨d1,r1⟩<;>rcases K2 with _|⟨d2,r2⟩
    ·dsimp only[fP,gP]
     repeat'(first|refine yz ?_|refine qI (.agg [.str y.vr,.sl (y.ty.map .str),.int y.dir,.int y.mode,.int y.mn,.int y.mx,.sl []]) rfl (ap9 rfl) rfl rfl rfl rfl rfl rfl Oh hy ?_|refine bm3 ?_)
     refine ac2 ?_;refine⟨⟨m+1,by omega⟩,by dsimp only;omega,?_⟩;dsimp only;rw[hmp2,ge7];exact(zle 4)
    ·dsimp only[fP,gP]
     repeat'(first|refine yz ?_|refine qI (.agg [.str y.vr,.sl (y.ty.map .str),.int y.dir,.int y.mode,.int y.mn,.int y.mx,.sl (d2::r2)]) rfl (ap9 rfl) rfl rfl rfl rfl rfl rfl Oh hy ?_|(refine qS rfl ⟨by simp,hpc,by(show _*136≤140737488355328;first|(simp only[fy7,fz2]at*;omega)|(simp;omega)),by(show _≤9223372036854775807;first|(simp only[fy7,fz2]at*;omega)|(simp;omega))⟩ ?_))
     refine ac2 ?_;refine⟨⟨m+1,by omega⟩,by dsimp only;omega,?_⟩;dsimp only;rw[hmp2];exact(bi7 [0,1,5,3])
    ·dsimp only[fP,gP]
     repeat'(first|refine yz ?_|refine qI (.agg [.str y.vr,.sl (y.ty.map .str),.int y.dir,.int y.mode,.int y.mn,.int y.mx,.sl []]) rfl (ap9 rfl) rfl rfl rfl rfl rfl rfl Oh hy ?_|refine bl8 rfl rfl rfl rfl rfl rfl rfl rfl rfl ?_)
     refine ac2 ?_;refine⟨⟨m+1,by omega⟩,by dsimp only;omega,?_⟩;dsimp only;rw[hmp2,ge7];exact(zle 4)
    ·dsimp only[fP,gP]
     repeat'(first|refine yz ?_|refine qI (.agg [.str y.vr,.sl (y.ty.map .str),.int y.dir,.int y.mode,.int y.mn,.int y.mx,.sl (d2::r2)]) rfl (ap9 rfl) rfl rfl rfl rfl rfl rfl Oh hy ?_|(refine qS rfl ⟨by simp,hpc,by(show _*136≤140737488355328;first|(simp only[fy7,fz2]at*;omega)|(simp;omega)),by(show _≤9223372036854775807;first|(simp only[fy7,fz2]at*;omega)|(simp;omega))⟩ ?_))
     refine ac2 ?_;refine⟨⟨m+1,by omega⟩,by dsimp only;omega,?_⟩;dsimp only;rw[hmp2];exact(bi7 [0,1,5,3])
   ·have g2:decide ((m:Int)<((p.es.map ct9).length:Int))=false:=by rw[hel];simp;omega
    rw[ga3 hgem,←htk]
    repeat'(refine yz ?_)
    refine ac2 ?_;refine⟨⟨i+1,by omega⟩,by dsimp only;omega,?_⟩;dsimp only;generalize(ef3 (ps.take (i+1))).map ct7=K0;rcases K0 with _|⟨d0,r0⟩<;>exact(zle 3)
 ·have g1:decide ((i:Int)<((ps.map cu0).length:Int))=false:=by rw[hle];simp;omega
  rw[ga3 hge];clear hpa
  match hP:(ef3 ps).map ct7 with
  |[]=>
   rw[hP]at hc1;dsimp only[fP,gP];refine bj5 6 rfl ?_
   cases b1 with
   |true=>
    repeat'(first|refine yz ?_|refine bb9 rfl rfl rfl rfl rfl ?_|refine yc [1] b65 (hc1) ?_|exact zD)
   |false=>
   cases b2 with
   |true=>
    repeat'(first|refine yu 21 [5,6] [] ?_|refine yk 21 0 5 ?_|refine yw ?_|refine rgN ?_|refine yv ?_|refine yz ?_|refine bb9 rfl rfl rfl rfl rfl ?_|refine yc [1] b65 (hc1) ?_|refine yp b41 hVars ?_|refine yp b38 hboth ?_|refine yc [3] b67 (hc2) ?_|exact zD)
   |false=>
   cases b3 with
   |true=>
    repeat'(first|refine yu 21 [5,6] [] ?_|refine yk 21 0 5 ?_|refine yw ?_|refine rgN ?_|refine yv ?_|refine yz ?_|refine bb9 rfl rfl rfl rfl rfl ?_|refine yc [1] b65 (hc1) ?_|refine yp b41 hVars ?_|refine yp b38 hboth ?_|refine yc [3] b67 (hc2) ?_|refine yp b67 hc3 ?_|exact zD)
   |false=>
    repeat'(first|refine yu 21 [5,6] [] ?_|refine yk 21 0 5 ?_|refine yw ?_|refine rgN ?_|refine yv ?_|refine yz ?_|refine bb9 rfl rfl rfl rfl rfl ?_|refine yc [1] b65 (hc1) ?_|refine yp b41 hVars ?_|refine yp b38 hboth ?_|refine yc [3] b67 (hc2) ?_|refine yp b67 hc3 ?_|exact zD)
  |y::q=>
   rw[hP]at hc1;dsimp only[fP,gP];refine av3 2 rfl ?_;dsimp only[as7,as6,as9,as8,List.map,List.set]
   cases b1 with
   |true=>
    repeat'(first|refine yz ?_|refine bb9 rfl rfl rfl rfl rfl ?_|refine yc [1] b65 (hc1) ?_|exact zD)
   |false=>
   cases b2 with
   |true=>
    repeat'(first|refine yu 21 [5,6] [] ?_|refine yk 21 0 5 ?_|refine yw ?_|refine rgN ?_|refine yv ?_|refine yz ?_|refine bb9 rfl rfl rfl rfl rfl ?_|refine yc [1] b65 (hc1) ?_|refine yp b41 hVars ?_|refine yp b38 hboth ?_|refine yc [3] b67 (hc2) ?_|exact zD)
   |false=>
   cases b3 with
   |true=>
    repeat'(first|refine yu 21 [5,6] [] ?_|refine yk 21 0 5 ?_|refine yw ?_|refine rgN ?_|refine yv ?_|refine yz ?_|refine bb9 rfl rfl rfl rfl rfl ?_|refine yc [1] b65 (hc1) ?_|refine yp b41 hVars ?_|refine yp b38 hboth ?_|refine yc [3] b67 (hc2) ?_|refine yp b67 hc3 ?_|exact zD)
   |false=>
    repeat'(first|refine yu 21 [5,6] [] ?_|refine yk 21 0 5 ?_|refine yw ?_|refine rgN ?_|refine yv ?_|refine yz ?_|refine bb9 rfl rfl rfl rfl rfl ?_|refine yc [1] b65 (hc1) ?_|refine yp b41 hVars ?_|refine yp b38 hboth ?_|refine yc [3] b67 (hc2) ?_|refine yp b67 hc3 ?_|exact zD)
attribute [local irreducible] RGw
theorem eg3(p:Pl)(hs:alB SmB p)(hz:szP p≤1000000)(hw:cwP p≤1000000):Ev E 10 [do8 p] (.tup [.sl ((dr5 p).1.map .str),.int (dr5 p).2]):=by
 have h1:=ec1 p hz 200 Od Od;have hd:dpB 200 p=decide (dpP p>200):=by unfold dpB;rw[decide_eq_decide];omega
 rw[hd]at h1;clear hd;have h2:=eb7 p hz;have h3:=ed4 p hs hz hw;obtain⟨b,ks⟩:=p;rw[dp1]at*;unfold dr5;generalize szP (.mk b ks)=sz at*;generalize dr1 (.mk b ks)=c at*
 cases c1:decide (dpP (.mk b ks)>200)with
 |true=>
  rw[cond_true];rw[c1]at h1;refine ye1 func10 ntmps10 fun _ _ _=>?_
  repeat'(first|refine yz ?_|refine yp b22 h1 ?_|exact zL)
 |false=>
  rw[c1]at h1;rw[cond_false]
  cases c2:decide (sz>2000)with
  |true=>
   rw[cond_true];have g1:=yT ((sz:Int)>2000) (by have:=of_decide_eq_true c2;omega);refine ye1 func10 ntmps10 fun _ _ _=>?_
   repeat'(first|refine yz ?_|refine yp b22 h1 ?_|refine yp b13 h2 ?_|exact zL)
  |false=>
   rw[cond_false];have g1:=yF ((sz:Int)>2000) (by have:=of_decide_eq_false c2;omega);refine ye1 func10 ntmps10 fun _ _ _=>?_
   repeat'(first|refine yz ?_|refine yp b22 h1 ?_|refine yp b13 h2 ?_|refine yp b23 h3 ?_|exact zL)
theorem eg4:∀{L:List D} {d:D},d∈L→bi2 d≤bi3 L
 |a::r,d,h=>by
  rw[bi3];rcases fz0.1 h with rfl|h
  ·omega
  ·have:=eg4 h;omega
theorem eg5(k:Nat):∀{L:List D},(∀d∈L,k≤bi2 d)→k*L.length≤bi3 L
 |[],_=>by simp
 |a::r,h=>by
  have h1:=h a Oc;have h2:=eg5 k (L:=r) fun d hd=>h d (by simp[hd])
  rw[bi3,fy7,Nat.mul_add];omega
theorem eg6(l:List ByteArray):l.length≤bi3 (l.map D.str):=by
 have h:=eg5 1 (L:=l.map D.str) fun d hd=>by
  obtain⟨s,-,rfl⟩:=ga1.1 hd;show 1≤bi2 (.imm (.string s));rw[bi2];omega
 rw[fz3]at h;omega
theorem eg7(e:Ex):bi3 [.int e.op,.int e.v.k,.int e.v.n,.int e.v.d,.str e.v.s,.sl (kids e.v),.str e.nm,.bool e.ds,.sl (by9 e)]=bi2 (bz1 e):=by
 rw[show bz1 e=.agg [.int e.op,.int e.v.k,.int e.v.n,.int e.v.d,.str e.v.s,.sl (kids e.v),.str e.nm,.bool e.ds,.sl (by9 e)]from rfl,bi2]
theorem eg8(a:List D)(e:Ex)(b:List D):bi3 (a++([.int e.op,.int e.v.k,.int e.v.n,.int e.v.d,.str e.v.s,.sl (kids e.v),.str e.nm,.bool e.ds,.sl (by9 e)]++b))=bi3 a+(bi2 (bz1 e)+bi3 b):=by
 rw[bi4,bi4,eg7]
theorem eg9(q:PP):bi2 (bz1 q.e)≤bi2 (ct7 q)∧1≤bi2 (ct7 q):=by
 have h:bi2 (ct7 q)=bi3 ([.str q.key]++([.int q.e.op,.int q.e.v.k,.int q.e.v.n,.int q.e.v.d,.str q.e.v.s,.sl (kids q.e.v),.str q.e.nm,.bool q.e.ds,.sl (by9 q.e)]++ [])):=by
  show bi2 (.agg _)=_;rw[bi2];rfl
 rw[h,eg8]
 have h2:1≤bi3 [D.str q.key]:=by
  show 1≤bi3 [.imm (.string q.key)];rw[bi3,bi2];omega
 omega
theorem eh0(x:SIt):bi2 (bz1 x.e)≤bi2 (cu3 x)∧1≤bi2 (cu3 x):=by
 have h:bi2 (cu3 x)=bi3 ([.str x.vr,.str x.key,.str x.lb,.bool x.off]++([.int x.e.op,.int x.e.v.k,.int x.e.v.n,.int x.e.v.d,.str x.e.v.s,.sl (kids x.e.v),.str x.e.nm,.bool x.e.ds,.sl (by9 x.e)]++ [])):=by
  show bi2 (.agg _)=_;rw[bi2];rfl
 rw[h,eg8]
 have h2:1≤bi3 [D.str x.vr,.str x.key,.str x.lb,.bool x.off]:=by
  show 1≤bi3 (.imm (.string x.vr)::_);rw[bi3,bi2];omega
 omega
theorem eh1(x:IT):bi2 (bz1 x.e)≤bi2 (cu1 x)∧1≤bi2 (cu1 x)∧bi2 (bz1 x.e)+1≤bi2 (cu1 x):=by
 have h:bi2 (cu1 x)=bi3 ([]++([.int x.e.op,.int x.e.v.k,.int x.e.v.n,.int x.e.v.d,.str x.e.v.s,.sl (kids x.e.v),.str x.e.nm,.bool x.e.ds,.sl (by9 x.e)]++ [.str x.asn])):=by
  show bi2 (.agg _)=_;rw[bi2];rfl
 rw[h,eg8]
 have h2:1≤bi3 [D.str x.asn]:=by
  show 1≤bi3 [.imm (.string x.asn)];rw[bi3,bi2];omega
 omega
theorem eh2(x:SK):bi2 (bz1 x.e)≤bi2 (cu2 x)∧1≤bi2 (cu2 x):=by
 have h:bi2 (cu2 x)=bi3 ([]++([.int x.e.op,.int x.e.v.k,.int x.e.v.n,.int x.e.v.d,.str x.e.v.s,.sl (kids x.e.v),.str x.e.nm,.bool x.e.ds,.sl (by9 x.e)]++ [.bool x.dc])):=by
  show bi2 (.agg _)=_;rw[bi2];rfl
 rw[h,eg8]
 have h2:1≤bi3 [D.bool x.dc]:=by
  have h3:bi2 (D.bool x.dc)=1:=by show bi2 (.imm (.bool x.dc))=1;simp[bi2]
  rw[bi3,h3];omega
 omega
theorem eh3(n:NP):3≤bi2 (ct8 n)∧bi3 (n.ps.map ct7)≤bi2 (ct8 n):=by
 have h:bi2 (ct8 n)=n.vr.size+1+(bi3 (n.lb.map D.str)+1+(bi3 (n.ps.map ct7)+1)):=by
  show bi2 (.agg [.imm (.string n.vr),.sl (n.lb.map .str),.sl (n.ps.map ct7)])=_;simp only[bi2,bi3]<;>omega
 omega
theorem eh4(n:EP):3≤bi2 (ct9 n)∧bi3 (n.ps.map ct7)≤bi2 (ct9 n):=by
 have h:bi2 (ct9 n)=n.vr.size+1+(bi3 (n.ty.map D.str)+1+(4+(bi3 (n.ps.map ct7)+1))):=by
  show bi2 (.agg [.imm (.string n.vr),.sl (n.ty.map .str),.int n.dir,.int n.mode,.int n.mn,.int n.mx,.sl (n.ps.map ct7)])=_;simp only[bi2,bi3,D.int]<;>omega
 omega
theorem eh5(p:PA):bi2 (cu0 p)=p.vr.size+1+(bi3 (p.ns.map ct8)+1+(bi3 (p.es.map ct9)+1)):=by
 show bi2 (.agg [.imm (.string p.vr),.sl (p.ns.map ct8),.sl (p.es.map ct9)])=_;simp only[bi2,bi3]<;>omega
theorem eh6:∀(ns:List NP) (es:List EP),(dp9 ns es).length=ns.length+es.length
 |[],es=>by rw[dp9];simp
 |n::r,[]=>by rw[dp9];simp
 |n::r,e::q=>by
  have:=eh6 r q;rw[dp9];simp only[fy7];omega
theorem eh7:∀l:List PA,3*(dq0 l).length≤bi3 (l.map cu0)
 |[]=>by simp[dq0]
 |p::r=>by
  have ih:=eh7 r;have h:=eh5 p;have h1:=eg5 3 (L:=p.ns.map ct8) fun d hd=>by obtain⟨n,-,rfl⟩:=ga1.1 hd;exact(eh3 n).1
  have h2:=eg5 3 (L:=p.es.map ct9) fun d hd=>by obtain⟨n,-,rfl⟩:=ga1.1 hd;exact(eh4 n).1
  rw[fz3]at h1 h2;have e:(dq0 (p::r)).length=(dp9 p.ns p.es).length+1+(dq0 r).length:=by unfold dq0;rw[gc7,fy8,fy8];rfl
  rw[e,eh6,fz7,bi3];omega
theorem eh8:∀l:List PA,bi3 ((ef3 l).map ct7)≤bi3 (l.map cu0)
 |[]=>fz6 _
 |p::r=>by
  have ih:=eh8 r;have h:=eh5 p
  have kn:∀L:List NP,bi3 ((L.flatMap NP.ps).map ct7)≤bi3 (L.map ct8):=by
   intro L
   induction L with
   |nil=>exact fz6 _
   |cons n q ihq=>
    have:=(eh3 n).2;rw[gc7,gg7,bi4,fz7,bi3];omega
  have ke:∀L:List EP,bi3 ((L.flatMap EP.ps).map ct7)≤bi3 (L.map ct9):=by
   intro L
   induction L with
   |nil=>exact fz6 _
   |cons n q ihq=>
    have:=(eh4 n).2;rw[gc7,gg7,bi4,fz7,bi3];omega
  have h1:=kn p.ns;have h2:=ke p.es;have e:ef3 (p::r)=(p.ns.flatMap NP.ps++p.es.flatMap EP.ps)++ef3 r:=by unfold ef3;rw[gc7]
  rw[e,gg7,gg7,bi4,bi4,fz7,bi3];omega
theorem eh9:∀(ns:List NP) (es:List EP),(cv8 (cv3 ns es)).length≤(ns.flatMap NP.ps).length+(es.flatMap EP.ps).length∧∀e∈cv8 (cv3 ns es),∃q∈ns.flatMap NP.ps++es.flatMap EP.ps,e=q.e
 |[],es=>⟨ga8 _,fun e h=>by rw[cv3]at h;cases h⟩
 |n::r,[]=>by
  obtain⟨h1,h2⟩:=eh9 r [];have e0:cv8 (cv3 (n::r) [])=n.ps.map (fun p=>p.e)++cv8 (cv3 r []):=by rw[cv3];unfold cv8;rw[gc7];rfl
  rw[e0];refine⟨by simp only[fy8,fz3,gc7,List.flatMap_nil,fz2]at*;omega,fun e he=>?_⟩;rcases gb2.1 he with he|he
  ·obtain⟨q,hq,rfl⟩:=ga1.1 he;exact⟨q,by simp[hq],rfl⟩
  ·obtain⟨q,hq,rfl⟩:=h2 e he;exact⟨q,by rw[gc7,fz5];exact gb2.2 (.inr hq),rfl⟩
 |n::r,x::q=>by
  obtain⟨h1,h2⟩:=eh9 r q;have e0:cv8 (cv3 (n::r) (x::q))=n.ps.map (fun p=>p.e)++(x.ps.map (fun p=>p.e)++cv8 (cv3 r q)):=by rw[cv3];unfold cv8;rw[gc7,gc7];rfl
  rw[e0];refine⟨by simp only[fy8,fz3,gc7]at*;omega,fun e he=>?_⟩;rcases gb2.1 he with he|he
  ·obtain⟨u,hu,rfl⟩:=ga1.1 he;exact⟨u,by simp[hu],rfl⟩
  ·rcases gb2.1 he with he|he
   ·obtain⟨u,hu,rfl⟩:=ga1.1 he;exact⟨u,by simp[hu],rfl⟩
   ·obtain⟨u,hu,rfl⟩:=h2 e he;refine⟨u,?_,rfl⟩;rw[gc7,gc7];rcases gb2.1 hu with hu|hu
    ·exact gb2.2 (.inl (gb2.2 (.inr hu)))
    ·exact gb2.2 (.inr (gb2.2 (.inr hu)))
theorem ei0{α β:Type}{f:α→List β}{x:α}:∀{l:List α},x∈l→(f x).length≤(l.flatMap f).length
 |a::r,h=>by
  rw[gc7,fy8];rcases fz0.1 h with rfl|h
  ·omega
  ·have:=ei0 (f:=f) h;omega
theorem ei1(c:CL):bi3 (c.ps.map cu0)+bi3 (bz0 c.wh)+bi2 (bz1 c.e)+bi3 (c.it.map cu1)+bi3 (c.od.map cu2)+bi3 (c.st.map cu3)+bi3 (c.ns.map D.str)≤bi2 (cu4 c):=by
 have h:bi2 (cu4 c)=bi3 ([.int c.k,.bool c.opt,.bool c.ds,.sl (c.ps.map cu0),.sl (bz0 c.wh)]++([.int c.e.op,.int c.e.v.k,.int c.e.v.n,.int c.e.v.d,.str c.e.v.s,.sl (kids c.e.v),.str c.e.nm,.bool c.e.ds,.sl (by9 c.e)]++ [.str c.nm,.sl (c.it.map cu1),.sl (c.od.map cu2),.int c.sk,.int c.lm,.sl (c.st.map cu3),.sl (c.ns.map .str)])):=by
  show bi2 (.agg _)=_;rw[bi2];rfl
 rw[h,eg8];simp only[bi2,bi3];omega
theorem ei2{e:Ex}(h:bi2 (bz1 e)≤1048576):ds7 e:=by
 have h1:=dg5 e;have h2:=dg6 e;exact⟨by omega,by omega⟩
theorem ei3{e:Ex}(h:bi2 (bz1 e)≤1048576):smE e:=by
 have h1:=dg5 e;show nd e≤1000000;omega
theorem ei4{c:CL}(h:bi2 (cu4 c)≤1048576):SmC c:=by
 have hb:=ei1 c;have hn:=eh7 c.ps;have hp:=eh8 c.ps;have hpl:=eg5 1 (L:=(ef3 c.ps).map ct7) fun d hd=>by obtain⟨q,-,rfl⟩:=ga1.1 hd;exact(eg9 q).2
 rw[fz3]at hpl
 have hq:∀q∈ef3 c.ps,bi2 (bz1 q.e)≤1048576:=fun q hq=>by
  have h1:=eg4 (gc4 (f:=ct7) hq);have h2:=(eg9 q).1;omega
 have hw:∀e∈c.wh,bi2 (bz1 e)≤1048576:=fun e he=>by
  have h1:=eg4 (L:=bz0 c.wh) (d:=bz1 e) (by rw[bz2];exact gc4 (f:=bz1) he);omega
 have hpa:∀p∈c.ps,bi3 (p.ns.map ct8)+bi3 (p.es.map ct9)≤1048576:=fun p hp=>by
  have h1:=eg4 (gc4 (f:=cu0) hp);rw[eh5]at h1;omega
 have hne:∀p∈c.ps,p.ns.length≤1000000∧p.es.length≤1000000:=fun p hp=>by
  have h0:=hpa p hp;have h1:=eg5 3 (L:=p.ns.map ct8) fun d hd=>by obtain⟨n,-,rfl⟩:=ga1.1 hd;exact(eh3 n).1
  have h2:=eg5 3 (L:=p.es.map ct9) fun d hd=>by obtain⟨n,-,rfl⟩:=ga1.1 hd;exact(eh4 n).1
  rw[fz3]at h1 h2;omega
 have hpp:9*(ef3 c.ps).length≤1048576:=by
  have h1:=eg5 9 (L:=(ef3 c.ps).map ct7) fun d hd=>by
   obtain⟨q,-,rfl⟩:=ga1.1 hd;have h2:=(eg9 q).1;have h3:=dg5 q.e;have h4:1≤nd q.e:=by rw[cp0];omega
   omega
  rw[fz3]at h1;omega
 refine⟨⟨fun p hpm=>?_,fun e he=>ei2 (hw e he),ei2 Oa,fun x hx=>?_,fun x hx=>?_,fun x hx=>?_⟩,fun q h=>ei3 (hq q h),by omega,fun e he=>ei3 (hw e he),by omega,hne⟩
 ·have hg:=eh9 p.ns p.es;have hsub:∀q∈p.ns.flatMap NP.ps++p.es.flatMap EP.ps,q∈ef3 c.ps:=fun q hqm=>gh2.2 ⟨p,hpm,hqm⟩
  have hll:(p.ns.flatMap NP.ps).length+(p.es.flatMap EP.ps).length≤(ef3 c.ps).length:=by
   have:=ei0 (f:=fun p:PA=>p.ns.flatMap NP.ps++p.es.flatMap EP.ps) hpm;rw[fy8]at this;exact this
  refine⟨(hne p hpm).1,by omega,fun e he=>?_⟩;obtain⟨q,hqm,rfl⟩:=hg.2 e he;exact ei2 (hq q (hsub q hqm))
 ·have h1:=eg4 (gc4 (f:=cu1) hx);have h2:=(eh1 x).1;exact ei2 Oa
 ·have h1:=eg4 (gc4 (f:=cu2) hx);have h2:=(eh2 x).1;exact ei2 Oa
 ·have h1:=eg4 (gc4 (f:=cu3) hx);have h2:=(eh0 x).1;exact ei2 Oa
theorem ei5(b:PB)(K:List D):bi3 K+bi3 (b.cj.vs.map D.str)+bi3 (b.cj.as.map cj6)+bi2 (cu4 b.cl)+bi2 (bz1 b.e)+bi3 (b.it.map cu1)+bi3 (b.od.map cu2)+5≤bi2 (do7 b K):=by
 have hc:bi2 (cu4 b.cl)=bi3 [.int b.cl.k,.bool b.cl.opt,.bool b.cl.ds,.sl (b.cl.ps.map cu0),.sl (bz0 b.cl.wh),.int b.cl.e.op,.int b.cl.e.v.k,.int b.cl.e.v.n,.int b.cl.e.v.d,.str b.cl.e.v.s,.sl (kids b.cl.e.v),.str b.cl.e.nm,.bool b.cl.e.ds,.sl (by9 b.cl.e),.str b.cl.nm,.sl (b.cl.it.map cu1),.sl (b.cl.od.map cu2),.int b.cl.sk,.int b.cl.lm,.sl (b.cl.st.map cu3),.sl (b.cl.ns.map .str)]:=by
  show bi2 (.agg _)=_;rw[bi2]
 have h:bi2 (do7 b K)=bi3 ([.int b.op,.sl K,.sl (b.cj.vs.map .str),.sl (b.cj.as.map cj6)]++([.int b.cl.k,.bool b.cl.opt,.bool b.cl.ds,.sl (b.cl.ps.map cu0),.sl (bz0 b.cl.wh),.int b.cl.e.op,.int b.cl.e.v.k,.int b.cl.e.v.n,.int b.cl.e.v.d,.str b.cl.e.v.s,.sl (kids b.cl.e.v),.str b.cl.e.nm,.bool b.cl.e.ds,.sl (by9 b.cl.e),.str b.cl.nm,.sl (b.cl.it.map cu1),.sl (b.cl.od.map cu2),.int b.cl.sk,.int b.cl.lm,.sl (b.cl.st.map cu3),.sl (b.cl.ns.map .str)]++([.int b.e.op,.int b.e.v.k,.int b.e.v.n,.int b.e.v.d,.str b.e.v.s,.sl (kids b.e.v),.str b.e.nm,.bool b.e.ds,.sl (by9 b.e)]++ [.str b.nm,.sl (b.it.map cu1),.sl (b.od.map cu2),.int b.sk,.int b.lm]))):=by
  show bi2 (.agg _)=_;rw[bi2];rfl
 rw[h,bi4,bi4,←hc,bi4,eg7];simp only[bi2,bi3,D.int,D.str];omega
theorem ei6{b:PB}{K:List D}(h:bi2 (do7 b K)≤1048576)(hv:b.cj.vs.length≤1000000):SmB b:=by
 have hb:=ei5 b K;have h1:=eg6 b.cj.vs
 have h2:=eg5 3 (L:=b.cj.as.map cj6) fun d hd=>by
  obtain⟨a,-,rfl⟩:=ga1.1 hd;unfold cj6;simp only[bi2,bi3];omega
 rw[fz3]at h2;have hcl:bi2 (cu4 b.cl)≤1048576:=Oa
 have hc:=ei1 b.cl;have hs:=ei4 hcl;have n1:=eh7 b.cl.ps;have l1:=eg5 1 (L:=b.cl.ps.map cu0) fun d hd=>by obtain⟨p,-,rfl⟩:=ga1.1 hd;rw[eh5];omega
 have l2:=eg5 1 (L:=bz0 b.cl.wh) fun d hd=>by
  rw[bz2]at hd;obtain⟨e,-,rfl⟩:=ga1.1 hd;have h3:=dg5 e;have h4:1≤nd e:=by rw[cp0];omega
  omega
 have l3:=eg5 1 (L:=b.cl.it.map cu1) fun d hd=>by obtain⟨p,-,rfl⟩:=ga1.1 hd;exact(eh1 p).2.1
 have l4:=eg5 1 (L:=b.cl.od.map cu2) fun d hd=>by obtain⟨p,-,rfl⟩:=ga1.1 hd;exact(eh2 p).2
 have l5:=eg5 1 (L:=b.cl.st.map cu3) fun d hd=>by obtain⟨p,-,rfl⟩:=ga1.1 hd;exact(eh0 p).2
 have l6:=eg6 b.cl.ns;rw[fz3]at l1 l3 l4 l5;rw[bz7]at l2;refine⟨hv,by omega,by unfold du0;omega,ei3 Oa,fun x hx=>?_,fun x hx=>?_,hs.nm,hs.ne,fun _ cols hcols=>eg2 b.cl cols hs hcols⟩
 ·have g1:=eg4 (gc4 (f:=cu1) hx);have g2:=(eh1 x).1;exact ei3 Oa
 ·have g1:=eg4 (gc4 (f:=cu2) hx);have g2:=(eh2 x).1;exact ei3 Oa
mutual
def vsP:Pl→Nat
 |.mk b ks=>b.cj.vs.length+ei7 ks
def ei7:List Pl→Nat
 |[]=>0
 |p::r=>vsP p+ei7 r
end
theorem ei8:∀{l:List Pl} {p:Pl},p∈l→vsP p≤ei7 l
 |a::r,p,h=>by
  rw[ei7];rcases fz0.1 h with rfl|h
  ·omega
  ·have:=ei8 h;omega
theorem ei9(p:Pl):bi2 (do8 p)≤1048576→vsP p≤100000→alB SmB p∧5*szP p≤bi2 (do8 p)∧2*cwP p≤2*vsP p+bi2 (do8 p):=by
 refine do6 (P:=fun p=>bi2 (do8 p)≤1048576→vsP p≤100000→alB SmB p∧5*szP p≤bi2 (do8 p)∧2*cwP p≤2*vsP p+bi2 (do8 p)) (fun b ks ih h hv=>?_) p;rw[dp1]at h ⊢;rw[vsP]at hv ⊢;have hb:=ei5 b (ks.map do8);have hs:=ei6 h Oa
 have hk:∀x∈ks,bi2 (do8 x)≤1048576∧vsP x≤100000:=fun x hx=>by
  have:=eg4 (gc4 (f:=do8) hx);have:=ei8 hx;omega
 have key:∀L:List Pl,(∀x∈L,alB SmB x∧5*szP x≤bi2 (do8 x)∧2*cwP x≤2*vsP x+bi2 (do8 x))→dz5 SmB L∧5*dr4 L≤bi3 (L.map do8)∧2*dz8 L≤2*ei7 L+bi3 (L.map do8):=by
  intro L
  induction L with
  |nil=>intro _;exact⟨trivial,fz6 _,ga8 _⟩
  |cons a r ihr=>
   intro hx;obtain⟨a1,a2,a3⟩:=hx a Oc;obtain⟨b1,b2,b3⟩:=ihr fun x hm=>hx x (by simp[hm])
   rw[dr4,dz8,ei7,fz7,bi3];exact⟨⟨a1,b1⟩,by omega,by omega⟩
 obtain⟨k1,k2,k3⟩:=key ks fun x hx=>ih x hx (hk x hx).1 (hk x hx).2
 have n1:=eh7 b.cl.ps;have hc:=ei1 b.cl
 have l3:=eg5 10 (L:=b.it.map cu1) fun d hd=>by
  obtain⟨p,-,rfl⟩:=ga1.1 hd;have h2:=(eh1 p).2.2;have h3:=dg5 p.e;have h4:1≤nd p.e:=by rw[cp0];omega
  omega
 rw[fz3]at l3;rw[alB,szP,cwP];refine⟨⟨hs,k1⟩,by omega,?_⟩;unfold cwB;omega
theorem ej0(p:Pl)(h:bi2 (do8 p)≤1048576)(hv:vsP p≤100000):Ev E 10 [do8 p] (.tup [.sl ((dr5 p).1.map .str),.int (dr5 p).2]):=by
 obtain⟨h1,h2,h3⟩:=ei9 p h hv;exact eg3 p h1 Oa Oa
end Go.Proofs.YtndgolmgaenlfaaGreatDoor
namespace Go.Proofs.YtndgolmgaenlfaaGreatDoor
set_option maxRecDepth 4000
open Go Go.Abs Go.Val Go.RowKit Go.Proofs.Tryz
attribute [local irreducible] go SGo an9 Ev aw1 EvO EvS RGo RGw PGo
theorem byteAt_get{s:ByteArray}{i:Nat}{c:UInt8}(h:s.data.toList[i]? =some c):ag5 s i=(c.toNat:Int):=by
 unfold ag5;rw[gd6,h];rfl
abbrev oPAk(p:PA):aa5:=.var 69 (.w (.d (cu0 p)))
structure SKp{α:Type}(l:List α)(f:α→Bool) where
 i:Nat
 hi:i≤l.length
 ok:(l.take i).all f=true
theorem SKp.next{α:Type}{l:List α}{f:α→Bool}{i:Nat}{x:α}(h:l[i]? =some x)(ok:(l.take i).all f=true)(hx:f x=true):(l.take (i+1)).all f=true:=by
 rw[gd7,h,List.all_append,ok];simp[hx]
theorem ej1{α:Type}{l:List α}{f:α→Bool}{x:α}(h:x∈l)(hx:f x=false):l.all f=false:=by
 rw[←ge5];intro ha;have:=ga6.1 ha x h;rw[hx]at this
 cases this
theorem ej2{l:List PP}{i:Nat}{q:PP}(h:l[i]? =some q):(l.map ct7)[(i:Int).toNat]? =some (ct7 q):=cz1 (f:=ct7) h
end Go.Proofs.YtndgolmgaenlfaaGreatDoor
namespace Go.Proofs.YtndgolmgaenlfaaGreatDoor
set_option maxRecDepth 4000
open Go Go.Abs Go.Val Go.RowKit Go.Proofs.Tryz
attribute [local irreducible] go SGo an9 Ev aw1 EvO EvS RGo PGo
end Go.Proofs.YtndgolmgaenlfaaGreatDoor
namespace Go.Proofs.YtndgolmgaenlfaaGreatDoor
set_option maxRecDepth 4000
open Go Go.Abs Go.Val Go.RowKit Go.Proofs.Tryz
attribute [local irreducible] go SGo an9 Ev aw1 EvO EvS RGo
attribute [local irreducible] PGo RGw
end Go.Proofs.YtndgolmgaenlfaaGreatDoor
