/- A clause of patterns applied to each row, checked by the program; plan.Check, by the program; What the bulk of a plan's reading grants: all that plan.check and rewrite want to be small; The variables of an expression, by the specification: increasing lists; Sizes, depths and shapes of plans, the check of an expression over columns, columns joined, by the specification. Conditions: each part's own, as it says. -/
import Derived.Test.YtndgolmgaenlfaaGreatDoorPA
import Derived.Test.YtndgolmgaenlfaaGreatDoorCB
import Derived.Test.YtndgolmgaenlfaaGreatDoorGC
import Derived.Test.YtndgolmgaenlfaaGreatDoorFB
import Derived.Test.YtndgolmgaenlfaaGreatDoorCA
import Derived.Test.YtndgolmgaenlfaaGreatDoorMA
set_option linter.unusedVariables false
set_option linter.unusedSimpArgs false
namespace Go.Proofs.YtndgolmgaenlfaaGreatDoor
set_option maxRecDepth 4000
open Go Go.Abs Go.Val Go.RowKit Go.Proofs.Tryz
attribute [local irreducible] go SGo an1 Ev au7 EvO EvS RGo PGo
def dw0(l:List PA):List PP:=l.flatMap fun p=>p.ns.flatMap NP.ps++p.es.flatMap EP.ps
theorem dw1(l:List PA):df1 l=(dw0 l).map fun q=>q.e:=by
 unfold df1 dw0;rw[List.map_flatMap];congr 1
 funext p
 rw[ff2,List.map_flatMap,List.map_flatMap]
structure SmC(c:CL):Prop where
 ok:OkC c
 pr:∀q∈dw0 c.ps,smE q.e
 pl:(dw0 c.ps).length≤1000000
 wh:∀e∈c.wh,smE e
 nm:(de8 c.ps).length≤900000
 ne:∀p∈c.ps,p.ns.length≤1000000∧p.es.length≤1000000
theorem dw2(l:List PP):∀d∈l.map ci5,d.cells.length=10:=fun d hd=>by
 obtain⟨u,-,rfl⟩:=ey6.1 hd;rfl
structure SiP(n:Nat) where
 i:Nat
 hi:i≤n
theorem dw3{l:List PA}{i:Nat}{p:PA}(h:l[i]? =some p):dw0 (l.take (i+1))=dw0 (l.take i)++(p.ns.flatMap NP.ps++p.es.flatMap EP.ps):=by
 unfold dw0;rw[fc0,h,fg4];simp
theorem dw4{α β:Type}{f:α→List β}{l:List α}{i:Nat}{x:α}(h:l[i]? =some x):(l.take (i+1)).flatMap f=(l.take i).flatMap f++f x:=by
 rw[fc0,h,fg4];simp
theorem dw5{α β:Type}{f:α→List β}(l:List α)(i:Nat):((l.take i).flatMap f).length≤(l.flatMap f).length:=by
 have h:l.flatMap f=(l.take i).flatMap f++(l.drop i).flatMap f:=by rw[←fg4,fd9]
 have:=congrArg List.length h;rw[ex8]at this;omega
theorem dw6(l:List PA)(i:Nat):(dw0 (l.take i)).length≤(dw0 l).length:=dw5 l i
theorem dw7(y:NP):ci6 y=.agg [.str y.vr,.sl (y.lb.map .str),.sl (y.ps.map ci5)]:=rfl
theorem dw8(y:EP):ci7 y=.agg [.str y.vr,.sl (y.ty.map .str),.int y.dir,.int y.mode,.int y.mn,.int y.mx,.sl (y.ps.map ci5)]:=rfl
def fP(k:Nat):List D→X
 |[]=>.nilS
 |_::_=>.own k
def gP:List D→aa5
 |[]=>.dead
 |x::r=>.row 96 10 (x::r)
set_option maxHeartbeats 8000000 in
theorem dw9(c:CL)(cols:List ByteArray)(hs:SmC c)(hcl:cols.length≤1000000):Ev E 40 [cj2 c,.sl (cols.map .str)] (.d (.int (df2 c cols).2)):=Ev.fit fun hfit=>by
 have hk:=dv9 c hs.ok;have hfc:=(hfit (cj2 c) Oc).aggs;have hmp:=(co0 (hfc (.sl (c.ps.map ci8)) (by simp[cj2]))).1
 have hmw:c.wh.length≤9223372036854775807:=by
  have h:=(bv3 (hfc (.sl (bu4 c.wh)) (by simp[cj2]))).1;exact h
 have hpa:=(co0 (hfc (.sl (c.ps.map ci8)) (by simp[cj2]))).2;have hVars:=dp9 c.ps hs.nm hs.ne;have hvl:(de9 c.ps).length≤900000:=by have h:=dp3 (de8 c.ps) [];have h2:=hs.nm;unfold de9;unfold dp1 at h;simp only[ey5]at h;omega
 have hboth:=dt2 cols (de9 c.ps) hcl Oa;have hc1:=dr4 cols (dw0 c.ps) hs.pr (by have:=hs.pl;omega);have hc2:=dr7 (de5 cols (de9 c.ps)) c.wh hs.wh hmw;rw[←bu6]at hc2;have hc3:=co8 63 b63 cj3 c.wh (fun x _=>cq0 x);rw[←bu6]at hc3
 have e1:((df1 c.ps).all fun e=>cx5 e cols)= !((dw0 c.ps).any fun x=> !cx5 x.e cols):=by
  rw[dw1,fa4];simp only[List.all_map,ez8,Bool.not_eq_true',fc2,fe5,Function.comp];exact⟨fun h x hx=>by simpa using h x hx,fun h x hx=>by simpa using h x hx⟩
 have e2:(c.wh.all fun e=>cx5 e (de5 cols (de9 c.ps)))= !(c.wh.any fun x=> !cx5 x (de5 cols (de9 c.ps))):=by
  rw[fa4];simp only[ez8,Bool.not_eq_true',fc2,fe5];exact⟨fun h x hx=>by simpa using h x hx,fun h x hx=>by simpa using h x hx⟩
 have hap:(df2 c cols).2=bif cl5 c !=0 then cl5 c else bif (dw0 c.ps).any (fun x=> !cx5 x.e cols)then 6 else bif c.wh.any (fun x=> !cx5 x (de5 cols (de9 c.ps)))then 6 else bif c.wh.any cj3 then 9 else 0:=by
  unfold df2;rw[e1,e2,Bool.not_not,Bool.not_not]
  cases cl5 c !=0<;>cases(dw0 c.ps).any (fun x=> !cx5 x.e cols)<;>cases c.wh.any (fun x=> !cx5 x (de5 cols (de9 c.ps)))<;>cases c.wh.any cj3<;>rfl
 rw[hap];clear e1 e2 hap;generalize de5 cols (de9 c.ps)=al at*;generalize(c.wh.any fun x=> !cx5 x al)=b2 at*;generalize c.wh.any cj3=b3 at*;generalize(dw0 c.ps).any (fun x=> !cx5 x.e cols)=b1 at*;have hpl:=hs.pl;obtain⟨k,opt,ds,ps,wh,e,nm,it,od,sk,lm,st,ns⟩:=c;simp only at hpl hc1 hc2 hc3 hVars hboth hmp hpa hmw ⊢;generalize de9 ps=vp at*
 cases hz:cl5 ⟨k,opt,ds,ps,wh,e,nm,it,od,sk,lm,st,ns⟩ !=0 with
 |true=>
  rw[cond_true];generalize cl5 _=z at*;refine ye2 func40 ntmps40 fun _ _ _=>?_
  repeat'(first|refine yz ?_|refine yp b64 hk ?_|exact zD)
 |false=>
 have hz0:cl5 ⟨k,opt,ds,ps,wh,e,nm,it,od,sk,lm,st,ns⟩=0:=by simpa using hz
 rw[hz0]at hk;rw[cond_false];clear hz hz0;have hle:(ps.map ci8).length=ps.length:=Oc
 obtain⟨C,hC⟩:∃C,C=cj2 ⟨k,opt,ds,ps,wh,e,nm,it,od,sk,lm,st,ns⟩:=⟨_,rfl⟩;refine ye2 func40 ntmps40 fun _ _ _=>?_
 repeat'(first|refine yz ?_|refine yp b64 hk ?_)
 refine bj9 ?_;refine ac7 (α:=SiP ps.length) (fun p=>⟨[(2,.ptr 0 0),(3,.ptr 1 0),(6,fP 2 ((dw0 (ps.take p.i)).map ci5)),(20,.d (.sl (ps.map ci8))),(21,.d (.int (ps.map ci8).length)),(22,.d (.int p.i))],[oCL ⟨k,opt,ds,ps,wh,e,nm,it,od,sk,lm,st,ns⟩,ca6 cols,gP ((dw0 (ps.take p.i)).map ci5)]⟩) (fun p=>ps.length-p.i) ⟨0,by omega⟩ (zle 3) ?_;rintro⟨i,hi⟩;dsimp only;rcases ex7 i ps.length with hlt|hge
 ·have g1:decide ((i:Int)<((ps.map ci8).length:Int))=true:=by rw[hle];simpa using hlt
  have hx0:=ex6 hlt;generalize ps[i]=p at hx0;have hx:=cn9 (f:=ci8) hx0;have hpm:=ey0 hx0;have htk:=dw3 hx0;have hbd:=dw6 ps (i+1);rw[htk,ex8,ex8]at hbd;have hne:=hs.ne p hpm;generalize dw0 (ps.take i)=L at*;have hnl:(p.ns.map ci6).length=p.ns.length:=Oc
  have hel:(p.es.map ci7).length=p.es.length:=Oc
  repeat'(first|refine yz ?_|refine yi (ci8 p) hx ?_)
  refine ac7 (α:=SiP p.ns.length) (fun q=>⟨[(2,.ptr 0 0),(3,.ptr 1 0),(6,fP 2 ((L++(p.ns.take q.i).flatMap NP.ps).map ci5)),(8,.ptr 3 0),(20,.d (.sl (ps.map ci8))),(21,.d (.int (ps.map ci8).length)),(22,.d (.int i)),(27,.d (.sl (p.ns.map ci6))),(28,.d (.int (p.ns.map ci6).length)),(29,.d (.int q.i))],[oCL ⟨k,opt,ds,ps,wh,e,nm,it,od,sk,lm,st,ns⟩,ca6 cols,gP ((L++(p.ns.take q.i).flatMap NP.ps).map ci5),.var 69 (.w (.d (ci8 p)))]⟩) (fun q=>p.ns.length-q.i) ⟨0,by omega⟩ (by dsimp only;rw[fc7,List.flatMap_nil,fd4];generalize L.map ci5=K0;rcases K0 with _|⟨d0,r0⟩<;>exact(zle 4)) ?_;rintro⟨j,hj⟩;dsimp only;rcases ex7 j p.ns.length with hltj|hgej
  ·have g2:decide ((j:Int)<((p.ns.map ci6).length:Int))=true:=by rw[hnl];simpa using hltj
   have hy0:=ex6 hltj;generalize p.ns[j]=y at hy0;have hy:=cn9 (f:=ci6) hy0;have hft:=dw4 (f:=NP.ps) hy0;have hfl:=dw5 (f:=NP.ps) p.ns (j+1);rw[hft,ex8]at hfl;have hmp2:(L++(p.ns.take (j+1)).flatMap NP.ps).map ci5=(L++(p.ns.take j).flatMap NP.ps).map ci5++y.ps.map ci5:=by rw[hft];simp
   have hll:((L++(p.ns.take j).flatMap NP.ps).map ci5).length+(y.ps.map ci5).length≤1000000:=by simp only[ey4,ex8];omega
   have hpc:=dw2 y.ps;rw[dw7]at hy;generalize(L++(p.ns.take j).flatMap NP.ps).map ci5=K1 at*;generalize y.ps.map ci5=K2 at*;rcases K1 with _|⟨d1,r1⟩<;>rcases K2 with _|⟨d2,r2⟩
   ·dsimp only[fP,gP]
    repeat'(first|refine yz ?_|refine qI (.agg [.str y.vr,.sl (y.lb.map .str),.sl []]) rfl (ap1 rfl) rfl rfl rfl rfl rfl rfl Oh hy ?_|refine bk3 ?_)
    refine ac1 ?_;refine⟨⟨j+1,by omega⟩,by dsimp only;omega,?_⟩;dsimp only;rw[hmp2,fd4];exact(zle 4)
   ·dsimp only[fP,gP]
    repeat'(first|refine yz ?_|refine qI (.agg [.str y.vr,.sl (y.lb.map .str),.sl (d2::r2)]) rfl (ap1 rfl) rfl rfl rfl rfl rfl rfl Oh hy ?_|(refine qS rfl ⟨by simp,hpc,by(show _*136≤140737488355328;first|(simp only[ex9,ey5]at*;omega)|(simp;omega)),by(show _≤9223372036854775807;first|(simp only[ex9,ey5]at*;omega)|(simp;omega))⟩ ?_))
    refine ac1 ?_;refine⟨⟨j+1,by omega⟩,by dsimp only;omega,?_⟩;dsimp only;rw[hmp2];exact(bg8 [0,1,5,3])
   ·dsimp only[fP,gP]
    repeat'(first|refine yz ?_|refine qI (.agg [.str y.vr,.sl (y.lb.map .str),.sl []]) rfl (ap1 rfl) rfl rfl rfl rfl rfl rfl Oh hy ?_|refine bj8 rfl rfl rfl rfl rfl rfl rfl rfl rfl ?_)
    refine ac1 ?_;refine⟨⟨j+1,by omega⟩,by dsimp only;omega,?_⟩;dsimp only;rw[hmp2,fd4];exact(zle 4)
   ·dsimp only[fP,gP]
    repeat'(first|refine yz ?_|refine qI (.agg [.str y.vr,.sl (y.lb.map .str),.sl (d2::r2)]) rfl (ap1 rfl) rfl rfl rfl rfl rfl rfl Oh hy ?_|(refine qS rfl ⟨by simp,hpc,by(show _*136≤140737488355328;first|(simp only[ex9,ey5]at*;omega)|(simp;omega)),by(show _≤9223372036854775807;first|(simp only[ex9,ey5]at*;omega)|(simp;omega))⟩ ?_))
    refine ac1 ?_;refine⟨⟨j+1,by omega⟩,by dsimp only;omega,?_⟩;dsimp only;rw[hmp2];exact(bg8 [0,1,5,3])
  ·have g2:decide ((j:Int)<((p.ns.map ci6).length:Int))=false:=by rw[hnl];simp;omega
   rw[ez9 hgej];have hM:(L++p.ns.flatMap NP.ps).length+(p.es.flatMap EP.ps).length≤1000000:=by rw[ex8];omega
   rw[←fb1]at htk;generalize L++p.ns.flatMap NP.ps=M at*
   repeat'(refine yz ?_)
   refine ac7 (α:=SiP p.es.length) (fun q=>⟨[(2,.ptr 0 0),(3,.ptr 1 0),(6,fP 2 ((M++(p.es.take q.i).flatMap EP.ps).map ci5)),(8,.ptr 3 0),(20,.d (.sl (ps.map ci8))),(21,.d (.int (ps.map ci8).length)),(22,.d (.int i)),(39,.d (.sl (p.es.map ci7))),(40,.d (.int (p.es.map ci7).length)),(41,.d (.int q.i))],[oCL ⟨k,opt,ds,ps,wh,e,nm,it,od,sk,lm,st,ns⟩,ca6 cols,gP ((M++(p.es.take q.i).flatMap EP.ps).map ci5),.var 69 (.w (.d (ci8 p)))]⟩) (fun q=>p.es.length-q.i) ⟨0,by omega⟩ (by dsimp only;rw[fc7,List.flatMap_nil,fd4];generalize M.map ci5=K0;rcases K0 with _|⟨d0,r0⟩<;>exact(zle 4)) ?_;rintro⟨m,hm⟩;dsimp only;rcases ex7 m p.es.length with hltm|hgem
   ·have g2:decide ((m:Int)<((p.es.map ci7).length:Int))=true:=by rw[hel];simpa using hltm
    have hy0:=ex6 hltm;generalize p.es[m]=y at hy0;have hy:=cn9 (f:=ci7) hy0;have hft:=dw4 (f:=EP.ps) hy0;have hfl:=dw5 (f:=EP.ps) p.es (m+1);rw[hft,ex8]at hfl;have hmp2:(M++(p.es.take (m+1)).flatMap EP.ps).map ci5=(M++(p.es.take m).flatMap EP.ps).map ci5++y.ps.map ci5:=by rw[hft];simp
    have hll:((M++(p.es.take m).flatMap EP.ps).map ci5).length+(y.ps.map ci5).length≤1000000:=by simp only[ey4,ex8];omega
    have hpc:=dw2 y.ps;rw[dw8]at hy;generalize(M++(p.es.take m).flatMap EP.ps).map ci5=K1 at*;generalize y.ps.map ci5=K2 at*;rcases K1 with _|⟨d1,r1⟩<;>rcases K2 with _|⟨d2,r2⟩
    ·dsimp only[fP,gP]
     repeat'(first|refine yz ?_|refine qI (.agg [.str y.vr,.sl (y.ty.map .str),.int y.dir,.int y.mode,.int y.mn,.int y.mx,.sl []]) rfl (ap1 rfl) rfl rfl rfl rfl rfl rfl Oh hy ?_|refine bk3 ?_)
     refine ac1 ?_;refine⟨⟨m+1,by omega⟩,by dsimp only;omega,?_⟩;dsimp only;rw[hmp2,fd4];exact(zle 4)
    ·dsimp only[fP,gP]
     repeat'(first|refine yz ?_|refine qI (.agg [.str y.vr,.sl (y.ty.map .str),.int y.dir,.int y.mode,.int y.mn,.int y.mx,.sl (d2::r2)]) rfl (ap1 rfl) rfl rfl rfl rfl rfl rfl Oh hy ?_|(refine qS rfl ⟨by simp,hpc,by(show _*136≤140737488355328;first|(simp only[ex9,ey5]at*;omega)|(simp;omega)),by(show _≤9223372036854775807;first|(simp only[ex9,ey5]at*;omega)|(simp;omega))⟩ ?_))
     refine ac1 ?_;refine⟨⟨m+1,by omega⟩,by dsimp only;omega,?_⟩;dsimp only;rw[hmp2];exact(bg8 [0,1,5,3])
    ·dsimp only[fP,gP]
     repeat'(first|refine yz ?_|refine qI (.agg [.str y.vr,.sl (y.ty.map .str),.int y.dir,.int y.mode,.int y.mn,.int y.mx,.sl []]) rfl (ap1 rfl) rfl rfl rfl rfl rfl rfl Oh hy ?_|refine bj8 rfl rfl rfl rfl rfl rfl rfl rfl rfl ?_)
     refine ac1 ?_;refine⟨⟨m+1,by omega⟩,by dsimp only;omega,?_⟩;dsimp only;rw[hmp2,fd4];exact(zle 4)
    ·dsimp only[fP,gP]
     repeat'(first|refine yz ?_|refine qI (.agg [.str y.vr,.sl (y.ty.map .str),.int y.dir,.int y.mode,.int y.mn,.int y.mx,.sl (d2::r2)]) rfl (ap1 rfl) rfl rfl rfl rfl rfl rfl Oh hy ?_|(refine qS rfl ⟨by simp,hpc,by(show _*136≤140737488355328;first|(simp only[ex9,ey5]at*;omega)|(simp;omega)),by(show _≤9223372036854775807;first|(simp only[ex9,ey5]at*;omega)|(simp;omega))⟩ ?_))
     refine ac1 ?_;refine⟨⟨m+1,by omega⟩,by dsimp only;omega,?_⟩;dsimp only;rw[hmp2];exact(bg8 [0,1,5,3])
   ·have g2:decide ((m:Int)<((p.es.map ci7).length:Int))=false:=by rw[hel];simp;omega
    rw[ez9 hgem,←htk]
    repeat'(refine yz ?_)
    refine ac1 ?_;refine⟨⟨i+1,by omega⟩,by dsimp only;omega,?_⟩;dsimp only;generalize(dw0 (ps.take (i+1))).map ci5=K0;rcases K0 with _|⟨d0,r0⟩<;>exact(zle 3)
 ·have g1:decide ((i:Int)<((ps.map ci8).length:Int))=false:=by rw[hle];simp;omega
  rw[ez9 hge];clear hpa
  match hP:(dw0 ps).map ci5 with
  |[]=>
   rw[hP]at hc1;dsimp only[fP,gP];refine bh5 6 rfl ?_
   cases b1 with
   |true=>
    repeat'(first|refine yz ?_|refine ba4 rfl rfl rfl rfl rfl ?_|refine yc [1] b65 (hc1) ?_|exact zD)
   |false=>
   cases b2 with
   |true=>
    repeat'(first|refine yu 21 [5,6] [] ?_|refine yk 21 0 5 ?_|refine yw ?_|refine rgN ?_|refine yv ?_|refine yz ?_|refine ba4 rfl rfl rfl rfl rfl ?_|refine yc [1] b65 (hc1) ?_|refine yp b41 hVars ?_|refine yp b38 hboth ?_|refine yc [3] b67 (hc2) ?_|exact zD)
   |false=>
   cases b3 with
   |true=>
    repeat'(first|refine yu 21 [5,6] [] ?_|refine yk 21 0 5 ?_|refine yw ?_|refine rgN ?_|refine yv ?_|refine yz ?_|refine ba4 rfl rfl rfl rfl rfl ?_|refine yc [1] b65 (hc1) ?_|refine yp b41 hVars ?_|refine yp b38 hboth ?_|refine yc [3] b67 (hc2) ?_|refine yp b67 hc3 ?_|exact zD)
   |false=>
    repeat'(first|refine yu 21 [5,6] [] ?_|refine yk 21 0 5 ?_|refine yw ?_|refine rgN ?_|refine yv ?_|refine yz ?_|refine ba4 rfl rfl rfl rfl rfl ?_|refine yc [1] b65 (hc1) ?_|refine yp b41 hVars ?_|refine yp b38 hboth ?_|refine yc [3] b67 (hc2) ?_|refine yp b67 hc3 ?_|exact zD)
  |y::q=>
   rw[hP]at hc1;dsimp only[fP,gP];refine au1 2 rfl ?_;dsimp only[ar5,ar4,ar7,ar6,List.map,List.set]
   cases b1 with
   |true=>
    repeat'(first|refine yz ?_|refine ba4 rfl rfl rfl rfl rfl ?_|refine yc [1] b65 (hc1) ?_|exact zD)
   |false=>
   cases b2 with
   |true=>
    repeat'(first|refine yu 21 [5,6] [] ?_|refine yk 21 0 5 ?_|refine yw ?_|refine rgN ?_|refine yv ?_|refine yz ?_|refine ba4 rfl rfl rfl rfl rfl ?_|refine yc [1] b65 (hc1) ?_|refine yp b41 hVars ?_|refine yp b38 hboth ?_|refine yc [3] b67 (hc2) ?_|exact zD)
   |false=>
   cases b3 with
   |true=>
    repeat'(first|refine yu 21 [5,6] [] ?_|refine yk 21 0 5 ?_|refine yw ?_|refine rgN ?_|refine yv ?_|refine yz ?_|refine ba4 rfl rfl rfl rfl rfl ?_|refine yc [1] b65 (hc1) ?_|refine yp b41 hVars ?_|refine yp b38 hboth ?_|refine yc [3] b67 (hc2) ?_|refine yp b67 hc3 ?_|exact zD)
   |false=>
    repeat'(first|refine yu 21 [5,6] [] ?_|refine yk 21 0 5 ?_|refine yw ?_|refine rgN ?_|refine yv ?_|refine yz ?_|refine ba4 rfl rfl rfl rfl rfl ?_|refine yc [1] b65 (hc1) ?_|refine yp b41 hVars ?_|refine yp b38 hboth ?_|refine yc [3] b67 (hc2) ?_|refine yp b67 hc3 ?_|exact zD)
attribute [local irreducible] RGw
theorem dx0(p:Pl)(hs:alB SmB p)(hz:szP p≤1000000)(hw:cwP p≤1000000):Ev E 10 [dd6 p] (.tup [.sl ((dg3 p).1.map .str),.int (dg3 p).2]):=by
 have h1:=ds7 p hz 200 Od Od;have hd:dpB 200 p=decide (dpP p>200):=by unfold dpB;rw[decide_eq_decide];omega
 rw[hd]at h1;clear hd;have h2:=ds3 p hz;have h3:=du1 p hs hz hw;obtain⟨b,ks⟩:=p;rw[dd9]at*;unfold dg3;generalize szP (.mk b ks)=sz at*;generalize df9 (.mk b ks)=c at*
 cases c1:decide (dpP (.mk b ks)>200)with
 |true=>
  rw[cond_true];rw[c1]at h1;refine ye1 func10 ntmps10 fun _ _ _=>?_
  repeat'(first|refine yz ?_|refine yp b22 h1 ?_|exact zL)
 |false=>
  rw[c1]at h1;rw[cond_false]
  cases c2:decide (sz>2000)with
  |true=>
   rw[cond_true];have g1:=yT ((sz:Int)>2000) (by have:=of_decide_eq_true c2;omega);refine ye1 func10 ntmps10 fun _ _ _=>?_
   repeat'(first|refine yz ?_|refine yp b22 h1 ?_|refine yp b13 h2 ?_|exact zL)
  |false=>
   rw[cond_false];have g1:=yF ((sz:Int)>2000) (by have:=of_decide_eq_false c2;omega);refine ye1 func10 ntmps10 fun _ _ _=>?_
   repeat'(first|refine yz ?_|refine yp b22 h1 ?_|refine yp b13 h2 ?_|refine yp b23 h3 ?_|exact zL)
theorem dx1:∀{L:List D} {d:D},d∈L→bg3 d≤bg4 L
 |a::r,d,h=>by
  rw[bg4];rcases ey2.1 h with rfl|h
  ·omega
  ·have:=dx1 h;omega
theorem dx2(k:Nat):∀{L:List D},(∀d∈L,k≤bg3 d)→k*L.length≤bg4 L
 |[],_=>by simp
 |a::r,h=>by
  have h1:=h a Oc;have h2:=dx2 k (L:=r) fun d hd=>h d (by simp[hd])
  rw[bg4,ex9,Nat.mul_add];omega
theorem dx3(l:List ByteArray):l.length≤bg4 (l.map D.str):=by
 have h:=dx2 1 (L:=l.map D.str) fun d hd=>by
  obtain⟨s,-,rfl⟩:=ey6.1 hd;show 1≤bg3 (.imm (.string s));rw[bg3];omega
 rw[ey4]at h;omega
theorem dx4(e:Ex):bg4 [.int e.op,.int e.v.k,.int e.v.n,.int e.v.d,.str e.v.s,.sl (kids e.v),.str e.nm,.bool e.ds,.sl (bu3 e)]=bg3 (bu5 e):=by
 rw[show bu5 e=.agg [.int e.op,.int e.v.k,.int e.v.n,.int e.v.d,.str e.v.s,.sl (kids e.v),.str e.nm,.bool e.ds,.sl (bu3 e)]from rfl,bg3]
theorem dx5(a:List D)(e:Ex)(b:List D):bg4 (a++([.int e.op,.int e.v.k,.int e.v.n,.int e.v.d,.str e.v.s,.sl (kids e.v),.str e.nm,.bool e.ds,.sl (bu3 e)]++b))=bg4 a+(bg3 (bu5 e)+bg4 b):=by
 rw[bg5,bg5,dx4]
theorem dx6(q:PP):bg3 (bu5 q.e)≤bg3 (ci5 q)∧1≤bg3 (ci5 q):=by
 have h:bg3 (ci5 q)=bg4 ([.str q.key]++([.int q.e.op,.int q.e.v.k,.int q.e.v.n,.int q.e.v.d,.str q.e.v.s,.sl (kids q.e.v),.str q.e.nm,.bool q.e.ds,.sl (bu3 q.e)]++ [])):=by
  show bg3 (.agg _)=_;rw[bg3];rfl
 rw[h,dx5]
 have h2:1≤bg4 [D.str q.key]:=by
  show 1≤bg4 [.imm (.string q.key)];rw[bg4,bg3];omega
 omega
theorem dx7(x:SIt):bg3 (bu5 x.e)≤bg3 (cj1 x)∧1≤bg3 (cj1 x):=by
 have h:bg3 (cj1 x)=bg4 ([.str x.vr,.str x.key,.str x.lb,.bool x.off]++([.int x.e.op,.int x.e.v.k,.int x.e.v.n,.int x.e.v.d,.str x.e.v.s,.sl (kids x.e.v),.str x.e.nm,.bool x.e.ds,.sl (bu3 x.e)]++ [])):=by
  show bg3 (.agg _)=_;rw[bg3];rfl
 rw[h,dx5]
 have h2:1≤bg4 [D.str x.vr,.str x.key,.str x.lb,.bool x.off]:=by
  show 1≤bg4 (.imm (.string x.vr)::_);rw[bg4,bg3];omega
 omega
theorem dx8(x:IT):bg3 (bu5 x.e)≤bg3 (ci9 x)∧1≤bg3 (ci9 x)∧bg3 (bu5 x.e)+1≤bg3 (ci9 x):=by
 have h:bg3 (ci9 x)=bg4 ([]++([.int x.e.op,.int x.e.v.k,.int x.e.v.n,.int x.e.v.d,.str x.e.v.s,.sl (kids x.e.v),.str x.e.nm,.bool x.e.ds,.sl (bu3 x.e)]++ [.str x.asn])):=by
  show bg3 (.agg _)=_;rw[bg3];rfl
 rw[h,dx5]
 have h2:1≤bg4 [D.str x.asn]:=by
  show 1≤bg4 [.imm (.string x.asn)];rw[bg4,bg3];omega
 omega
theorem dx9(x:SK):bg3 (bu5 x.e)≤bg3 (cj0 x)∧1≤bg3 (cj0 x):=by
 have h:bg3 (cj0 x)=bg4 ([]++([.int x.e.op,.int x.e.v.k,.int x.e.v.n,.int x.e.v.d,.str x.e.v.s,.sl (kids x.e.v),.str x.e.nm,.bool x.e.ds,.sl (bu3 x.e)]++ [.bool x.dc])):=by
  show bg3 (.agg _)=_;rw[bg3];rfl
 rw[h,dx5]
 have h2:1≤bg4 [D.bool x.dc]:=by
  have h3:bg3 (D.bool x.dc)=1:=by show bg3 (.imm (.bool x.dc))=1;simp[bg3]
  rw[bg4,h3];omega
 omega
theorem dy0(n:NP):3≤bg3 (ci6 n)∧bg4 (n.ps.map ci5)≤bg3 (ci6 n):=by
 have h:bg3 (ci6 n)=n.vr.size+1+(bg4 (n.lb.map D.str)+1+(bg4 (n.ps.map ci5)+1)):=by
  show bg3 (.agg [.imm (.string n.vr),.sl (n.lb.map .str),.sl (n.ps.map ci5)])=_;simp only[bg3,bg4]<;>omega
 omega
theorem dy1(n:EP):3≤bg3 (ci7 n)∧bg4 (n.ps.map ci5)≤bg3 (ci7 n):=by
 have h:bg3 (ci7 n)=n.vr.size+1+(bg4 (n.ty.map D.str)+1+(4+(bg4 (n.ps.map ci5)+1))):=by
  show bg3 (.agg [.imm (.string n.vr),.sl (n.ty.map .str),.int n.dir,.int n.mode,.int n.mn,.int n.mx,.sl (n.ps.map ci5)])=_;simp only[bg3,bg4,D.int]<;>omega
 omega
theorem dy2(p:PA):bg3 (ci8 p)=p.vr.size+1+(bg4 (p.ns.map ci6)+1+(bg4 (p.es.map ci7)+1)):=by
 show bg3 (.agg [.imm (.string p.vr),.sl (p.ns.map ci6),.sl (p.es.map ci7)])=_;simp only[bg3,bg4]<;>omega
theorem dy3:∀(ns:List NP) (es:List EP),(de7 ns es).length=ns.length+es.length
 |[],es=>by rw[de7];simp
 |n::r,[]=>by rw[de7];simp
 |n::r,e::q=>by
  have:=dy3 r q;rw[de7];simp only[ex9];omega
theorem dy4:∀l:List PA,3*(de8 l).length≤bg4 (l.map ci8)
 |[]=>by simp[de8]
 |p::r=>by
  have ih:=dy4 r;have h:=dy2 p;have h1:=dx2 3 (L:=p.ns.map ci6) fun d hd=>by obtain⟨n,-,rfl⟩:=ey6.1 hd;exact(dy0 n).1
  have h2:=dx2 3 (L:=p.es.map ci7) fun d hd=>by obtain⟨n,-,rfl⟩:=ey6.1 hd;exact(dy1 n).1
  rw[ey4]at h1 h2;have e:(de8 (p::r)).length=(de7 p.ns p.es).length+1+(de8 r).length:=by unfold de8;rw[fa8,ex8,ex8];rfl
  rw[e,dy3,fa1,bg4];omega
theorem dy5:∀l:List PA,bg4 ((dw0 l).map ci5)≤bg4 (l.map ci8)
 |[]=>ez0 _
 |p::r=>by
  have ih:=dy5 r;have h:=dy2 p
  have kn:∀L:List NP,bg4 ((L.flatMap NP.ps).map ci5)≤bg4 (L.map ci6):=by
   intro L
   induction L with
   |nil=>exact ez0 _
   |cons n q ihq=>
    have:=(dy0 n).2;rw[fa8,ff2,bg5,fa1,bg4];omega
  have ke:∀L:List EP,bg4 ((L.flatMap EP.ps).map ci5)≤bg4 (L.map ci7):=by
   intro L
   induction L with
   |nil=>exact ez0 _
   |cons n q ihq=>
    have:=(dy1 n).2;rw[fa8,ff2,bg5,fa1,bg4];omega
  have h1:=kn p.ns;have h2:=ke p.es;have e:dw0 (p::r)=(p.ns.flatMap NP.ps++p.es.flatMap EP.ps)++dw0 r:=by unfold dw0;rw[fa8]
  rw[e,ff2,ff2,bg5,bg5,fa1,bg4];omega
theorem dy6:∀(ns:List NP) (es:List EP),(ck6 (ck1 ns es)).length≤(ns.flatMap NP.ps).length+(es.flatMap EP.ps).length∧∀e∈ck6 (ck1 ns es),∃q∈ns.flatMap NP.ps++es.flatMap EP.ps,e=q.e
 |[],es=>⟨ez6 _,fun e h=>by rw[ck1]at h;cases h⟩
 |n::r,[]=>by
  obtain⟨h1,h2⟩:=dy6 r [];have e0:ck6 (ck1 (n::r) [])=n.ps.map (fun p=>p.e)++ck6 (ck1 r []):=by rw[ck1];unfold ck6;rw[fa8];rfl
  rw[e0];refine⟨by simp only[ex8,ey4,fa8,List.flatMap_nil,ey5]at*;omega,fun e he=>?_⟩;rcases fa0.1 he with he|he
  ·obtain⟨q,hq,rfl⟩:=ey6.1 he;exact⟨q,by simp[hq],rfl⟩
  ·obtain⟨q,hq,rfl⟩:=h2 e he;exact⟨q,by rw[fa8,fb1];exact fa0.2 (.inr hq),rfl⟩
 |n::r,x::q=>by
  obtain⟨h1,h2⟩:=dy6 r q;have e0:ck6 (ck1 (n::r) (x::q))=n.ps.map (fun p=>p.e)++(x.ps.map (fun p=>p.e)++ck6 (ck1 r q)):=by rw[ck1];unfold ck6;rw[fa8,fa8];rfl
  rw[e0];refine⟨by simp only[ex8,ey4,fa8]at*;omega,fun e he=>?_⟩;rcases fa0.1 he with he|he
  ·obtain⟨u,hu,rfl⟩:=ey6.1 he;exact⟨u,by simp[hu],rfl⟩
  ·rcases fa0.1 he with he|he
   ·obtain⟨u,hu,rfl⟩:=ey6.1 he;exact⟨u,by simp[hu],rfl⟩
   ·obtain⟨u,hu,rfl⟩:=h2 e he;refine⟨u,?_,rfl⟩;rw[fa8,fa8];rcases fa0.1 hu with hu|hu
    ·exact fa0.2 (.inl (fa0.2 (.inr hu)))
    ·exact fa0.2 (.inr (fa0.2 (.inr hu)))
theorem dy7{α β:Type}{f:α→List β}{x:α}:∀{l:List α},x∈l→(f x).length≤(l.flatMap f).length
 |a::r,h=>by
  rw[fa8,ex8];rcases ey2.1 h with rfl|h
  ·omega
  ·have:=dy7 (f:=f) h;omega
theorem dy8(c:CL):bg4 (c.ps.map ci8)+bg4 (bu4 c.wh)+bg3 (bu5 c.e)+bg4 (c.it.map ci9)+bg4 (c.od.map cj0)+bg4 (c.st.map cj1)+bg4 (c.ns.map D.str)≤bg3 (cj2 c):=by
 have h:bg3 (cj2 c)=bg4 ([.int c.k,.bool c.opt,.bool c.ds,.sl (c.ps.map ci8),.sl (bu4 c.wh)]++([.int c.e.op,.int c.e.v.k,.int c.e.v.n,.int c.e.v.d,.str c.e.v.s,.sl (kids c.e.v),.str c.e.nm,.bool c.e.ds,.sl (bu3 c.e)]++ [.str c.nm,.sl (c.it.map ci9),.sl (c.od.map cj0),.int c.sk,.int c.lm,.sl (c.st.map cj1),.sl (c.ns.map .str)])):=by
  show bg3 (.agg _)=_;rw[bg3];rfl
 rw[h,dx5];simp only[bg3,bg4];omega
theorem dy9{e:Ex}(h:bg3 (bu5 e)≤1048576):dj2 e:=by
 have h1:=cv3 e;have h2:=cv4 e;exact⟨by omega,by omega⟩
theorem dz0{e:Ex}(h:bg3 (bu5 e)≤1048576):smE e:=by
 have h1:=cv3 e;show nd e≤1000000;omega
theorem dz1{c:CL}(h:bg3 (cj2 c)≤1048576):SmC c:=by
 have hb:=dy8 c;have hn:=dy4 c.ps;have hp:=dy5 c.ps;have hpl:=dx2 1 (L:=(dw0 c.ps).map ci5) fun d hd=>by obtain⟨q,-,rfl⟩:=ey6.1 hd;exact(dx6 q).2
 rw[ey4]at hpl
 have hq:∀q∈dw0 c.ps,bg3 (bu5 q.e)≤1048576:=fun q hq=>by
  have h1:=dx1 (fa5 (f:=ci5) hq);have h2:=(dx6 q).1;omega
 have hw:∀e∈c.wh,bg3 (bu5 e)≤1048576:=fun e he=>by
  have h1:=dx1 (L:=bu4 c.wh) (d:=bu5 e) (by rw[bu6];exact fa5 (f:=bu5) he);omega
 have hpa:∀p∈c.ps,bg4 (p.ns.map ci6)+bg4 (p.es.map ci7)≤1048576:=fun p hp=>by
  have h1:=dx1 (fa5 (f:=ci8) hp);rw[dy2]at h1;omega
 have hne:∀p∈c.ps,p.ns.length≤1000000∧p.es.length≤1000000:=fun p hp=>by
  have h0:=hpa p hp;have h1:=dx2 3 (L:=p.ns.map ci6) fun d hd=>by obtain⟨n,-,rfl⟩:=ey6.1 hd;exact(dy0 n).1
  have h2:=dx2 3 (L:=p.es.map ci7) fun d hd=>by obtain⟨n,-,rfl⟩:=ey6.1 hd;exact(dy1 n).1
  rw[ey4]at h1 h2;omega
 have hpp:9*(dw0 c.ps).length≤1048576:=by
  have h1:=dx2 9 (L:=(dw0 c.ps).map ci5) fun d hd=>by
   obtain⟨q,-,rfl⟩:=ey6.1 hd;have h2:=(dx6 q).1;have h3:=cv3 q.e;have h4:1≤nd q.e:=by rw[cd8];omega
   omega
  rw[ey4]at h1;omega
 refine⟨⟨fun p hpm=>?_,fun e he=>dy9 (hw e he),dy9 Oa,fun x hx=>?_,fun x hx=>?_,fun x hx=>?_⟩,fun q h=>dz0 (hq q h),by omega,fun e he=>dz0 (hw e he),by omega,hne⟩
 ·have hg:=dy6 p.ns p.es;have hsub:∀q∈p.ns.flatMap NP.ps++p.es.flatMap EP.ps,q∈dw0 c.ps:=fun q hqm=>ff1.2 ⟨p,hpm,hqm⟩
  have hll:(p.ns.flatMap NP.ps).length+(p.es.flatMap EP.ps).length≤(dw0 c.ps).length:=by
   have:=dy7 (f:=fun p:PA=>p.ns.flatMap NP.ps++p.es.flatMap EP.ps) hpm;rw[ex8]at this;exact this
  refine⟨(hne p hpm).1,by omega,fun e he=>?_⟩;obtain⟨q,hqm,rfl⟩:=hg.2 e he;exact dy9 (hq q (hsub q hqm))
 ·have h1:=dx1 (fa5 (f:=ci9) hx);have h2:=(dx8 x).1;exact dy9 Oa
 ·have h1:=dx1 (fa5 (f:=cj0) hx);have h2:=(dx9 x).1;exact dy9 Oa
 ·have h1:=dx1 (fa5 (f:=cj1) hx);have h2:=(dx7 x).1;exact dy9 Oa
theorem dz2(b:PB)(K:List D):bg4 K+bg4 (b.cj.vs.map D.str)+bg4 (b.cj.as.map by8)+bg3 (cj2 b.cl)+bg3 (bu5 b.e)+bg4 (b.it.map ci9)+bg4 (b.od.map cj0)+5≤bg3 (dd5 b K):=by
 have hc:bg3 (cj2 b.cl)=bg4 [.int b.cl.k,.bool b.cl.opt,.bool b.cl.ds,.sl (b.cl.ps.map ci8),.sl (bu4 b.cl.wh),.int b.cl.e.op,.int b.cl.e.v.k,.int b.cl.e.v.n,.int b.cl.e.v.d,.str b.cl.e.v.s,.sl (kids b.cl.e.v),.str b.cl.e.nm,.bool b.cl.e.ds,.sl (bu3 b.cl.e),.str b.cl.nm,.sl (b.cl.it.map ci9),.sl (b.cl.od.map cj0),.int b.cl.sk,.int b.cl.lm,.sl (b.cl.st.map cj1),.sl (b.cl.ns.map .str)]:=by
  show bg3 (.agg _)=_;rw[bg3]
 have h:bg3 (dd5 b K)=bg4 ([.int b.op,.sl K,.sl (b.cj.vs.map .str),.sl (b.cj.as.map by8)]++([.int b.cl.k,.bool b.cl.opt,.bool b.cl.ds,.sl (b.cl.ps.map ci8),.sl (bu4 b.cl.wh),.int b.cl.e.op,.int b.cl.e.v.k,.int b.cl.e.v.n,.int b.cl.e.v.d,.str b.cl.e.v.s,.sl (kids b.cl.e.v),.str b.cl.e.nm,.bool b.cl.e.ds,.sl (bu3 b.cl.e),.str b.cl.nm,.sl (b.cl.it.map ci9),.sl (b.cl.od.map cj0),.int b.cl.sk,.int b.cl.lm,.sl (b.cl.st.map cj1),.sl (b.cl.ns.map .str)]++([.int b.e.op,.int b.e.v.k,.int b.e.v.n,.int b.e.v.d,.str b.e.v.s,.sl (kids b.e.v),.str b.e.nm,.bool b.e.ds,.sl (bu3 b.e)]++ [.str b.nm,.sl (b.it.map ci9),.sl (b.od.map cj0),.int b.sk,.int b.lm]))):=by
  show bg3 (.agg _)=_;rw[bg3];rfl
 rw[h,bg5,bg5,←hc,bg5,dx4];simp only[bg3,bg4,D.int,D.str];omega
theorem dz3{b:PB}{K:List D}(h:bg3 (dd5 b K)≤1048576)(hv:b.cj.vs.length≤1000000):SmB b:=by
 have hb:=dz2 b K;have h1:=dx3 b.cj.vs
 have h2:=dx2 3 (L:=b.cj.as.map by8) fun d hd=>by
  obtain⟨a,-,rfl⟩:=ey6.1 hd;unfold by8;simp only[bg3,bg4];omega
 rw[ey4]at h2;have hcl:bg3 (cj2 b.cl)≤1048576:=Oa
 have hc:=dy8 b.cl;have hs:=dz1 hcl;have n1:=dy4 b.cl.ps;have l1:=dx2 1 (L:=b.cl.ps.map ci8) fun d hd=>by obtain⟨p,-,rfl⟩:=ey6.1 hd;rw[dy2];omega
 have l2:=dx2 1 (L:=bu4 b.cl.wh) fun d hd=>by
  rw[bu6]at hd;obtain⟨e,-,rfl⟩:=ey6.1 hd;have h3:=cv3 e;have h4:1≤nd e:=by rw[cd8];omega
  omega
 have l3:=dx2 1 (L:=b.cl.it.map ci9) fun d hd=>by obtain⟨p,-,rfl⟩:=ey6.1 hd;exact(dx8 p).2.1
 have l4:=dx2 1 (L:=b.cl.od.map cj0) fun d hd=>by obtain⟨p,-,rfl⟩:=ey6.1 hd;exact(dx9 p).2
 have l5:=dx2 1 (L:=b.cl.st.map cj1) fun d hd=>by obtain⟨p,-,rfl⟩:=ey6.1 hd;exact(dx7 p).2
 have l6:=dx3 b.cl.ns;rw[ey4]at l1 l3 l4 l5;rw[bv1]at l2;refine⟨hv,by omega,by unfold dk5;omega,dz0 Oa,fun x hx=>?_,fun x hx=>?_,hs.nm,hs.ne,fun _ cols hcols=>dw9 b.cl cols hs hcols⟩
 ·have g1:=dx1 (fa5 (f:=ci9) hx);have g2:=(dx8 x).1;exact dz0 Oa
 ·have g1:=dx1 (fa5 (f:=cj0) hx);have g2:=(dx9 x).1;exact dz0 Oa
mutual
def vsP:Pl→Nat
 |.mk b ks=>b.cj.vs.length+dz4 ks
def dz4:List Pl→Nat
 |[]=>0
 |p::r=>vsP p+dz4 r
end
theorem dz5:∀{l:List Pl} {p:Pl},p∈l→vsP p≤dz4 l
 |a::r,p,h=>by
  rw[dz4];rcases ey2.1 h with rfl|h
  ·omega
  ·have:=dz5 h;omega
theorem dz6(p:Pl):bg3 (dd6 p)≤1048576→vsP p≤100000→alB SmB p∧5*szP p≤bg3 (dd6 p)∧2*cwP p≤2*vsP p+bg3 (dd6 p):=by
 refine dd4 (P:=fun p=>bg3 (dd6 p)≤1048576→vsP p≤100000→alB SmB p∧5*szP p≤bg3 (dd6 p)∧2*cwP p≤2*vsP p+bg3 (dd6 p)) (fun b ks ih h hv=>?_) p;rw[dd9]at h ⊢;rw[vsP]at hv ⊢;have hb:=dz2 b (ks.map dd6);have hs:=dz3 h Oa
 have hk:∀x∈ks,bg3 (dd6 x)≤1048576∧vsP x≤100000:=fun x hx=>by
  have:=dx1 (fa5 (f:=dd6) hx);have:=dz5 hx;omega
 have key:∀L:List Pl,(∀x∈L,alB SmB x∧5*szP x≤bg3 (dd6 x)∧2*cwP x≤2*vsP x+bg3 (dd6 x))→dq0 SmB L∧5*dg2 L≤bg4 (L.map dd6)∧2*dq3 L≤2*dz4 L+bg4 (L.map dd6):=by
  intro L
  induction L with
  |nil=>intro _;exact⟨trivial,ez0 _,ez6 _⟩
  |cons a r ihr=>
   intro hx;obtain⟨a1,a2,a3⟩:=hx a Oc;obtain⟨b1,b2,b3⟩:=ihr fun x hm=>hx x (by simp[hm])
   rw[dg2,dq3,dz4,fa1,bg4];exact⟨⟨a1,b1⟩,by omega,by omega⟩
 obtain⟨k1,k2,k3⟩:=key ks fun x hx=>ih x hx (hk x hx).1 (hk x hx).2
 have n1:=dy4 b.cl.ps;have hc:=dy8 b.cl
 have l3:=dx2 10 (L:=b.it.map ci9) fun d hd=>by
  obtain⟨p,-,rfl⟩:=ey6.1 hd;have h2:=(dx8 p).2.2;have h3:=cv3 p.e;have h4:1≤nd p.e:=by rw[cd8];omega
  omega
 rw[ey4]at l3;rw[alB,szP,cwP];refine⟨⟨hs,k1⟩,by omega,?_⟩;unfold cwB;omega
theorem dz7(p:Pl)(h:bg3 (dd6 p)≤1048576)(hv:vsP p≤100000):Ev E 10 [dd6 p] (.tup [.sl ((dg3 p).1.map .str),.int (dg3 p).2]):=by
 obtain⟨h1,h2,h3⟩:=dz6 p h hv;exact dx0 p h1 Oa Oa
end Go.Proofs.YtndgolmgaenlfaaGreatDoor
namespace Go.Proofs.YtndgolmgaenlfaaGreatDoor
set_option maxRecDepth 4000
open Go Go.Abs Go.Val Go.RowKit Go.Proofs.Tryz
attribute [local irreducible] go SGo an1 Ev au7 EvO EvS RGo RGw PGo
end Go.Proofs.YtndgolmgaenlfaaGreatDoor
