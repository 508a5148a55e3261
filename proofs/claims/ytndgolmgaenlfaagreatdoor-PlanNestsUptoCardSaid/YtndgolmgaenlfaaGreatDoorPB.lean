/- A clause of patterns applied to each row, checked by the program; plan.Check, by the program; What the bulk of a plan's reading grants: all that plan.check and rewrite want to be small; The variables of an expression, by the specification: increasing lists; Sizes, depths and shapes of plans, the check of an expression over columns, columns joined, by the specification. Conditions: each part's own, as it says. -/
import Derived.Test.YtndgolmgaenlfaaGreatDoorPA
import Derived.Test.YtndgolmgaenlfaaGreatDoorCB
import Derived.Test.YtndgolmgaenlfaaGreatDoorGC
import Derived.Test.YtndgolmgaenlfaaGreatDoorFB
import Derived.Test.YtndgolmgaenlfaaGreatDoorCA
import Derived.Test.YtndgolmgaenlfaaGreatDoorMA
set_option linter.unusedVariables false
set_option linter.unusedSimpArgs false
namespace Go.Proofs.YtndgolmgaenlfaaGreatDoor
set_option maxRecDepth 4000
open Go Go.Abs Go.Val Go.RowKit Go.Proofs.Tryz
attribute [local irreducible] go SGo an1 Ev au7 EvO EvS RGo PGo
def du5(l:List PA):List PP:=l.flatMap fun p=>p.ns.flatMap NP.ps++p.es.flatMap EP.ps
theorem du6(l:List PA):de7 l=(du5 l).map fun q=>q.e:=by
 unfold de7 du5;rw[List.map_flatMap];congr 1
 funext p
 rw[ez4,List.map_flatMap,List.map_flatMap]
structure SmC(c:CL):Prop where
 ok:OkC c
 pr:∀q∈du5 c.ps,smE q.e
 pl:(du5 c.ps).length≤1000000
 wh:∀e∈c.wh,smE e
 nm:(de4 c.ps).length≤900000
 ne:∀p∈c.ps,p.ns.length≤1000000∧p.es.length≤1000000
theorem du7(l:List PP):∀d∈l.map ci1,d.cells.length=10:=fun d hd=>by
 obtain⟨u,-,rfl⟩:=et5.1 hd;rfl
structure SiP(n:Nat) where
 i:Nat
 hi:i≤n
theorem du8{l:List PA}{i:Nat}{p:PA}(h:l[i]? =some p):du5 (l.take (i+1))=du5 (l.take i)++(p.ns.flatMap NP.ps++p.es.flatMap EP.ps):=by
 unfold du5;rw[ew5,h,fa8];simp
theorem du9{α β:Type}{f:α→List β}{l:List α}{i:Nat}{x:α}(h:l[i]? =some x):(l.take (i+1)).flatMap f=(l.take i).flatMap f++f x:=by
 rw[ew5,h,fa8];simp
theorem dv0{α β:Type}{f:α→List β}(l:List α)(i:Nat):((l.take i).flatMap f).length≤(l.flatMap f).length:=by
 have h:l.flatMap f=(l.take i).flatMap f++(l.drop i).flatMap f:=by rw[←fa8,ey2]
 have:=congrArg List.length h;rw[es2]at this;omega
theorem dv1(l:List PA)(i:Nat):(du5 (l.take i)).length≤(du5 l).length:=dv0 l i
theorem dv2(y:NP):ci2 y=.agg [.str y.vr,.sl (y.lb.map .str),.sl (y.ps.map ci1)]:=rfl
theorem dv3(y:EP):ci3 y=.agg [.str y.vr,.sl (y.ty.map .str),.int y.dir,.int y.mode,.int y.mn,.int y.mx,.sl (y.ps.map ci1)]:=rfl
def fP(k:Nat):List D→X
 |[]=>.nilS
 |_::_=>.own k
def gP:List D→aa5
 |[]=>.dead
 |x::r=>.row 96 10 (x::r)
set_option maxHeartbeats 8000000 in
theorem dv4(c:CL)(cols:List ByteArray)(hs:SmC c)(hcl:cols.length≤1000000):Ev E 40 [ci8 c,.sl (cols.map .str)] (.d (.int (de8 c cols).2)):=Ev.fit fun hfit=>by
 have hk:=du4 c hs.ok;have hfc:=(hfit (ci8 c) (by simp)).aggs;have hmp:=(cn5 (hfc (.sl (c.ps.map ci4)) (by simp[ci8]))).1
 have hmw:c.wh.length≤9223372036854775807:=by
  have h:=(bv0 (hfc (.sl (bu1 c.wh)) (by simp[ci8]))).1;exact h
 have hpa:=(cn5 (hfc (.sl (c.ps.map ci4)) (by simp[ci8]))).2;have hVars:=do6 c.ps hs.nm hs.ne;have hvl:(de5 c.ps).length≤900000:=by have h:=do0 (de4 c.ps) [];have h2:=hs.nm;unfold de5;unfold dn8 at h;simp only[es8]at h;omega
 have hboth:=dr8 cols (de5 c.ps) hcl (by omega);have hc1:=dq1 cols (du5 c.ps) hs.pr (by have:=hs.pl;omega);have hc2:=dq4 (de1 cols (de5 c.ps)) c.wh hs.wh hmw;rw[←bu3]at hc2;have hc3:=co3 63 b63 ci9 c.wh (fun x _=>cp5 x);rw[←bu3]at hc3
 have e1:((de7 c.ps).all fun e=>cx0 e cols)= !((du5 c.ps).any fun x=> !cx0 x.e cols):=by
  rw[du6,eu6];simp only[List.all_map,eu4,Bool.not_eq_true',ex7,ey6,Function.comp];exact⟨fun h x hx=>by simpa using h x hx,fun h x hx=>by simpa using h x hx⟩
 have e2:(c.wh.all fun e=>cx0 e (de1 cols (de5 c.ps)))= !(c.wh.any fun x=> !cx0 x (de1 cols (de5 c.ps))):=by
  rw[eu6];simp only[eu4,Bool.not_eq_true',ex7,ey6];exact⟨fun h x hx=>by simpa using h x hx,fun h x hx=>by simpa using h x hx⟩
 have hap:(de8 c cols).2=bif cl1 c !=0 then cl1 c else bif (du5 c.ps).any (fun x=> !cx0 x.e cols)then 6 else bif c.wh.any (fun x=> !cx0 x (de1 cols (de5 c.ps)))then 6 else bif c.wh.any ci9 then 9 else 0:=by
  unfold de8;rw[e1,e2,Bool.not_not,Bool.not_not]
  cases cl1 c !=0<;>cases(du5 c.ps).any (fun x=> !cx0 x.e cols)<;>cases c.wh.any (fun x=> !cx0 x (de1 cols (de5 c.ps)))<;>cases c.wh.any ci9<;>rfl
 rw[hap];clear e1 e2 hap;generalize de1 cols (de5 c.ps)=al at*;generalize(c.wh.any fun x=> !cx0 x al)=b2 at*;generalize c.wh.any ci9=b3 at*;generalize(du5 c.ps).any (fun x=> !cx0 x.e cols)=b1 at*;have hpl:=hs.pl;obtain⟨k,opt,ds,ps,wh,e,nm,it,od,sk,lm,st,ns⟩:=c;simp only at hpl hc1 hc2 hc3 hVars hboth hmp hpa hmw ⊢;generalize de5 ps=vp at*
 cases hz:cl1 ⟨k,opt,ds,ps,wh,e,nm,it,od,sk,lm,st,ns⟩ !=0 with
 |true=>
  rw[cond_true];generalize cl1 _=z at*;refine ye2 func40 ntmps40 fun _ _ _=>?_
  repeat'(first|refine yz ?_|refine yp b64 hk ?_|exact zD)
 |false=>
 have hz0:cl1 ⟨k,opt,ds,ps,wh,e,nm,it,od,sk,lm,st,ns⟩=0:=by simpa using hz
 rw[hz0]at hk;rw[cond_false];clear hz hz0;have hle:(ps.map ci4).length=ps.length:=by simp
 obtain⟨C,hC⟩:∃C,C=ci8 ⟨k,opt,ds,ps,wh,e,nm,it,od,sk,lm,st,ns⟩:=⟨_,rfl⟩;refine ye2 func40 ntmps40 fun _ _ _=>?_
 repeat'(first|refine yz ?_|refine yp b64 hk ?_)
 refine bj8 ?_;refine ac7 (α:=SiP ps.length) (fun p=>⟨[(2,.ptr 0 0),(3,.ptr 1 0),(6,fP 2 ((du5 (ps.take p.i)).map ci1)),(20,.d (.sl (ps.map ci4))),(21,.d (.int (ps.map ci4).length)),(22,.d (.int p.i))],[oCL ⟨k,opt,ds,ps,wh,e,nm,it,od,sk,lm,st,ns⟩,ca3 cols,gP ((du5 (ps.take p.i)).map ci1)]⟩) (fun p=>ps.length-p.i) ⟨0,by omega⟩ (zle 3) ?_;rintro⟨i,hi⟩;dsimp only;rcases es1 i ps.length with hlt|hge
 ·have g1:decide ((i:Int)<((ps.map ci4).length:Int))=true:=by rw[hle];simpa using hlt
  have hx0:=es0 hlt;generalize ps[i]=p at hx0;have hx:=cn4 (f:=ci4) hx0;have hpm:=es4 hx0;have htk:=du8 hx0;have hbd:=dv1 ps (i+1);rw[htk,es2,es2]at hbd;have hne:=hs.ne p hpm;generalize du5 (ps.take i)=L at*;have hnl:(p.ns.map ci2).length=p.ns.length:=by simp
  have hel:(p.es.map ci3).length=p.es.length:=by simp
  repeat'(first|refine yz ?_|refine yi (ci4 p) hx ?_)
  refine ac7 (α:=SiP p.ns.length) (fun q=>⟨[(2,.ptr 0 0),(3,.ptr 1 0),(6,fP 2 ((L++(p.ns.take q.i).flatMap NP.ps).map ci1)),(8,.ptr 3 0),(20,.d (.sl (ps.map ci4))),(21,.d (.int (ps.map ci4).length)),(22,.d (.int i)),(27,.d (.sl (p.ns.map ci2))),(28,.d (.int (p.ns.map ci2).length)),(29,.d (.int q.i))],[oCL ⟨k,opt,ds,ps,wh,e,nm,it,od,sk,lm,st,ns⟩,ca3 cols,gP ((L++(p.ns.take q.i).flatMap NP.ps).map ci1),.var 69 (.w (.d (ci4 p)))]⟩) (fun q=>p.ns.length-q.i) ⟨0,by omega⟩ (by dsimp only;rw[ex0,List.flatMap_nil,ex6];generalize L.map ci1=K0;rcases K0 with _|⟨d0,r0⟩<;>exact(zle 4)) ?_;rintro⟨j,hj⟩;dsimp only;rcases es1 j p.ns.length with hltj|hgej
  ·have g2:decide ((j:Int)<((p.ns.map ci2).length:Int))=true:=by rw[hnl];simpa using hltj
   have hy0:=es0 hltj;generalize p.ns[j]=y at hy0;have hy:=cn4 (f:=ci2) hy0;have hft:=du9 (f:=NP.ps) hy0;have hfl:=dv0 (f:=NP.ps) p.ns (j+1);rw[hft,es2]at hfl;have hmp2:(L++(p.ns.take (j+1)).flatMap NP.ps).map ci1=(L++(p.ns.take j).flatMap NP.ps).map ci1++y.ps.map ci1:=by rw[hft];simp
   have hll:((L++(p.ns.take j).flatMap NP.ps).map ci1).length+(y.ps.map ci1).length≤1000000:=by simp only[es7,es2];omega
   have hpc:=du7 y.ps;rw[dv2]at hy;generalize(L++(p.ns.take j).flatMap NP.ps).map ci1=K1 at*;generalize y.ps.map ci1=K2 at*;rcases K1 with _|⟨d1,r1⟩<;>rcases K2 with _|⟨d2,r2⟩
   ·dsimp only[fP,gP]
    repeat'(first|refine yz ?_|refine qI (.agg [.str y.vr,.sl (y.lb.map .str),.sl []]) rfl (ap1 rfl) rfl rfl rfl rfl rfl rfl (by first|omega|decide) hy ?_|refine bk2 ?_)
    refine ac1 ?_;refine⟨⟨j+1,by omega⟩,by dsimp only;omega,?_⟩;dsimp only;rw[hmp2,ex6];exact(zle 4)
   ·dsimp only[fP,gP]
    repeat'(first|refine yz ?_|refine qI (.agg [.str y.vr,.sl (y.lb.map .str),.sl (d2::r2)]) rfl (ap1 rfl) rfl rfl rfl rfl rfl rfl (by first|omega|decide) hy ?_|(refine qS rfl ⟨by simp,hpc,by(show _*136≤140737488355328;first|(simp only[es3,es8]at*;omega)|(simp;omega)),by(show _≤9223372036854775807;first|(simp only[es3,es8]at*;omega)|(simp;omega))⟩ ?_))
    refine ac1 ?_;refine⟨⟨j+1,by omega⟩,by dsimp only;omega,?_⟩;dsimp only;rw[hmp2];exact(bg7 [0,1,5,3])
   ·dsimp only[fP,gP]
    repeat'(first|refine yz ?_|refine qI (.agg [.str y.vr,.sl (y.lb.map .str),.sl []]) rfl (ap1 rfl) rfl rfl rfl rfl rfl rfl (by first|omega|decide) hy ?_|refine bj7 rfl rfl rfl rfl rfl rfl rfl rfl rfl ?_)
    refine ac1 ?_;refine⟨⟨j+1,by omega⟩,by dsimp only;omega,?_⟩;dsimp only;rw[hmp2,ex6];exact(zle 4)
   ·dsimp only[fP,gP]
    repeat'(first|refine yz ?_|refine qI (.agg [.str y.vr,.sl (y.lb.map .str),.sl (d2::r2)]) rfl (ap1 rfl) rfl rfl rfl rfl rfl rfl (by first|omega|decide) hy ?_|(refine qS rfl ⟨by simp,hpc,by(show _*136≤140737488355328;first|(simp only[es3,es8]at*;omega)|(simp;omega)),by(show _≤9223372036854775807;first|(simp only[es3,es8]at*;omega)|(simp;omega))⟩ ?_))
    refine ac1 ?_;refine⟨⟨j+1,by omega⟩,by dsimp only;omega,?_⟩;dsimp only;rw[hmp2];exact(bg7 [0,1,5,3])
  ·have g2:decide ((j:Int)<((p.ns.map ci2).length:Int))=false:=by rw[hnl];simp;omega
   rw[eu2 hgej];have hM:(L++p.ns.flatMap NP.ps).length+(p.es.flatMap EP.ps).length≤1000000:=by rw[es2];omega
   rw[←ev3]at htk;generalize L++p.ns.flatMap NP.ps=M at*
   repeat'(refine yz ?_)
   refine ac7 (α:=SiP p.es.length) (fun q=>⟨[(2,.ptr 0 0),(3,.ptr 1 0),(6,fP 2 ((M++(p.es.take q.i).flatMap EP.ps).map ci1)),(8,.ptr 3 0),(20,.d (.sl (ps.map ci4))),(21,.d (.int (ps.map ci4).length)),(22,.d (.int i)),(39,.d (.sl (p.es.map ci3))),(40,.d (.int (p.es.map ci3).length)),(41,.d (.int q.i))],[oCL ⟨k,opt,ds,ps,wh,e,nm,it,od,sk,lm,st,ns⟩,ca3 cols,gP ((M++(p.es.take q.i).flatMap EP.ps).map ci1),.var 69 (.w (.d (ci4 p)))]⟩) (fun q=>p.es.length-q.i) ⟨0,by omega⟩ (by dsimp only;rw[ex0,List.flatMap_nil,ex6];generalize M.map ci1=K0;rcases K0 with _|⟨d0,r0⟩<;>exact(zle 4)) ?_;rintro⟨m,hm⟩;dsimp only;rcases es1 m p.es.length with hltm|hgem
   ·have g2:decide ((m:Int)<((p.es.map ci3).length:Int))=true:=by rw[hel];simpa using hltm
    have hy0:=es0 hltm;generalize p.es[m]=y at hy0;have hy:=cn4 (f:=ci3) hy0;have hft:=du9 (f:=EP.ps) hy0;have hfl:=dv0 (f:=EP.ps) p.es (m+1);rw[hft,es2]at hfl;have hmp2:(M++(p.es.take (m+1)).flatMap EP.ps).map ci1=(M++(p.es.take m).flatMap EP.ps).map ci1++y.ps.map ci1:=by rw[hft];simp
    have hll:((M++(p.es.take m).flatMap EP.ps).map ci1).length+(y.ps.map ci1).length≤1000000:=by simp only[es7,es2];omega
    have hpc:=du7 y.ps;rw[dv3]at hy;generalize(M++(p.es.take m).flatMap EP.ps).map ci1=K1 at*;generalize y.ps.map ci1=K2 at*;rcases K1 with _|⟨d1,r1⟩<;>rcases K2 with _|⟨d2,r2⟩
    ·dsimp only[fP,gP]
     repeat'(first|refine yz ?_|refine qI (.agg [.str y.vr,.sl (y.ty.map .str),.int y.dir,.int y.mode,.int y.mn,.int y.mx,.sl []]) rfl (ap1 rfl) rfl rfl rfl rfl rfl rfl (by first|omega|decide) hy ?_|refine bk2 ?_)
     refine ac1 ?_;refine⟨⟨m+1,by omega⟩,by dsimp only;omega,?_⟩;dsimp only;rw[hmp2,ex6];exact(zle 4)
    ·dsimp only[fP,gP]
     repeat'(first|refine yz ?_|refine qI (.agg [.str y.vr,.sl (y.ty.map .str),.int y.dir,.int y.mode,.int y.mn,.int y.mx,.sl (d2::r2)]) rfl (ap1 rfl) rfl rfl rfl rfl rfl rfl (by first|omega|decide) hy ?_|(refine qS rfl ⟨by simp,hpc,by(show _*136≤140737488355328;first|(simp only[es3,es8]at*;omega)|(simp;omega)),by(show _≤9223372036854775807;first|(simp only[es3,es8]at*;omega)|(simp;omega))⟩ ?_))
     refine ac1 ?_;refine⟨⟨m+1,by omega⟩,by dsimp only;omega,?_⟩;dsimp only;rw[hmp2];exact(bg7 [0,1,5,3])
    ·dsimp only[fP,gP]
     repeat'(first|refine yz ?_|refine qI (.agg [.str y.vr,.sl (y.ty.map .str),.int y.dir,.int y.mode,.int y.mn,.int y.mx,.sl []]) rfl (ap1 rfl) rfl rfl rfl rfl rfl rfl (by first|omega|decide) hy ?_|refine bj7 rfl rfl rfl rfl rfl rfl rfl rfl rfl ?_)
     refine ac1 ?_;refine⟨⟨m+1,by omega⟩,by dsimp only;omega,?_⟩;dsimp only;rw[hmp2,ex6];exact(zle 4)
    ·dsimp only[fP,gP]
     repeat'(first|refine yz ?_|refine qI (.agg [.str y.vr,.sl (y.ty.map .str),.int y.dir,.int y.mode,.int y.mn,.int y.mx,.sl (d2::r2)]) rfl (ap1 rfl) rfl rfl rfl rfl rfl rfl (by first|omega|decide) hy ?_|(refine qS rfl ⟨by simp,hpc,by(show _*136≤140737488355328;first|(simp only[es3,es8]at*;omega)|(simp;omega)),by(show _≤9223372036854775807;first|(simp only[es3,es8]at*;omega)|(simp;omega))⟩ ?_))
     refine ac1 ?_;refine⟨⟨m+1,by omega⟩,by dsimp only;omega,?_⟩;dsimp only;rw[hmp2];exact(bg7 [0,1,5,3])
   ·have g2:decide ((m:Int)<((p.es.map ci3).length:Int))=false:=by rw[hel];simp;omega
    rw[eu2 hgem,←htk]
    repeat'(refine yz ?_)
    refine ac1 ?_;refine⟨⟨i+1,by omega⟩,by dsimp only;omega,?_⟩;dsimp only;generalize(du5 (ps.take (i+1))).map ci1=K0;rcases K0 with _|⟨d0,r0⟩<;>exact(zle 3)
 ·have g1:decide ((i:Int)<((ps.map ci4).length:Int))=false:=by rw[hle];simp;omega
  rw[eu2 hge];clear hpa
  match hP:(du5 ps).map ci1 with
  |[]=>
   rw[hP]at hc1;dsimp only[fP,gP];refine bh4 6 rfl ?_
   cases b1 with
   |true=>
    repeat'(first|refine yz ?_|refine ba5 rfl rfl rfl rfl rfl ?_|refine yc [1] b65 (hc1) ?_|exact zD)
   |false=>
   cases b2 with
   |true=>
    repeat'(first|refine yu 21 [5,6] [] ?_|refine yk 21 0 5 ?_|refine yw ?_|refine rgN ?_|refine yv ?_|refine yz ?_|refine ba5 rfl rfl rfl rfl rfl ?_|refine yc [1] b65 (hc1) ?_|refine yp b41 hVars ?_|refine yp b38 hboth ?_|refine yc [3] b67 (hc2) ?_|exact zD)
   |false=>
   cases b3 with
   |true=>
    repeat'(first|refine yu 21 [5,6] [] ?_|refine yk 21 0 5 ?_|refine yw ?_|refine rgN ?_|refine yv ?_|refine yz ?_|refine ba5 rfl rfl rfl rfl rfl ?_|refine yc [1] b65 (hc1) ?_|refine yp b41 hVars ?_|refine yp b38 hboth ?_|refine yc [3] b67 (hc2) ?_|refine yp b67 hc3 ?_|exact zD)
   |false=>
    repeat'(first|refine yu 21 [5,6] [] ?_|refine yk 21 0 5 ?_|refine yw ?_|refine rgN ?_|refine yv ?_|refine yz ?_|refine ba5 rfl rfl rfl rfl rfl ?_|refine yc [1] b65 (hc1) ?_|refine yp b41 hVars ?_|refine yp b38 hboth ?_|refine yc [3] b67 (hc2) ?_|refine yp b67 hc3 ?_|exact zD)
  |y::q=>
   rw[hP]at hc1;dsimp only[fP,gP];refine au1 2 rfl ?_;dsimp only[ar5,ar4,ar7,ar6,List.map,List.set]
   cases b1 with
   |true=>
    repeat'(first|refine yz ?_|refine ba5 rfl rfl rfl rfl rfl ?_|refine yc [1] b65 (hc1) ?_|exact zD)
   |false=>
   cases b2 with
   |true=>
    repeat'(first|refine yu 21 [5,6] [] ?_|refine yk 21 0 5 ?_|refine yw ?_|refine rgN ?_|refine yv ?_|refine yz ?_|refine ba5 rfl rfl rfl rfl rfl ?_|refine yc [1] b65 (hc1) ?_|refine yp b41 hVars ?_|refine yp b38 hboth ?_|refine yc [3] b67 (hc2) ?_|exact zD)
   |false=>
   cases b3 with
   |true=>
    repeat'(first|refine yu 21 [5,6] [] ?_|refine yk 21 0 5 ?_|refine yw ?_|refine rgN ?_|refine yv ?_|refine yz ?_|refine ba5 rfl rfl rfl rfl rfl ?_|refine yc [1] b65 (hc1) ?_|refine yp b41 hVars ?_|refine yp b38 hboth ?_|refine yc [3] b67 (hc2) ?_|refine yp b67 hc3 ?_|exact zD)
   |false=>
    repeat'(first|refine yu 21 [5,6] [] ?_|refine yk 21 0 5 ?_|refine yw ?_|refine rgN ?_|refine yv ?_|refine yz ?_|refine ba5 rfl rfl rfl rfl rfl ?_|refine yc [1] b65 (hc1) ?_|refine yp b41 hVars ?_|refine yp b38 hboth ?_|refine yc [3] b67 (hc2) ?_|refine yp b67 hc3 ?_|exact zD)
attribute [local irreducible] RGw
theorem dv5(p:Pl)(hs:alB SmB p)(hz:szP p≤1000000)(hw:cwP p≤1000000):Ev E 10 [dd1 p] (.tup [.sl ((df9 p).1.map .str),.int (df9 p).2]):=by
 have h1:=dr3 p hz 200 (by decide) (by decide);have hd:dpB 200 p=decide (dpP p>200):=by unfold dpB;rw[decide_eq_decide];omega
 rw[hd]at h1;clear hd;have h2:=dq9 p hz;have h3:=ds6 p hs hz hw;obtain⟨b,ks⟩:=p;rw[dd4]at*;unfold df9;generalize szP (.mk b ks)=sz at*;generalize df5 (.mk b ks)=c at*
 cases c1:decide (dpP (.mk b ks)>200)with
 |true=>
  rw[cond_true];rw[c1]at h1;refine ye1 func10 ntmps10 fun _ _ _=>?_
  repeat'(first|refine yz ?_|refine yp b22 h1 ?_|exact zL)
 |false=>
  rw[c1]at h1;rw[cond_false]
  cases c2:decide (sz>2000)with
  |true=>
   rw[cond_true];have g1:=yT ((sz:Int)>2000) (by have:=of_decide_eq_true c2;omega);refine ye1 func10 ntmps10 fun _ _ _=>?_
   repeat'(first|refine yz ?_|refine yp b22 h1 ?_|refine yp b13 h2 ?_|exact zL)
  |false=>
   rw[cond_false];have g1:=yF ((sz:Int)>2000) (by have:=of_decide_eq_false c2;omega);refine ye1 func10 ntmps10 fun _ _ _=>?_
   repeat'(first|refine yz ?_|refine yp b22 h1 ?_|refine yp b13 h2 ?_|refine yp b23 h3 ?_|exact zL)
theorem dv6:∀{L:List D} {d:D},d∈L→bg4 d≤bg5 L
 |a::r,d,h=>by
  rw[bg5];rcases es9.1 h with rfl|h
  ·omega
  ·have:=dv6 h;omega
theorem dv7(k:Nat):∀{L:List D},(∀d∈L,k≤bg4 d)→k*L.length≤bg5 L
 |[],_=>by simp
 |a::r,h=>by
  have h1:=h a (by simp);have h2:=dv7 k (L:=r) fun d hd=>h d (by simp[hd])
  rw[bg5,es3,Nat.mul_add];omega
theorem dv8(l:List ByteArray):l.length≤bg5 (l.map D.str):=by
 have h:=dv7 1 (L:=l.map D.str) fun d hd=>by
  obtain⟨s,-,rfl⟩:=et5.1 hd;show 1≤bg4 (.imm (.string s));rw[bg4];omega
 rw[es7]at h;omega
theorem dv9(e:Ex):bg5 [.int e.op,.int e.v.k,.int e.v.n,.int e.v.d,.str e.v.s,.sl (kids e.v),.str e.nm,.bool e.ds,.sl (bu0 e)]=bg4 (bu2 e):=by
 rw[show bu2 e=.agg [.int e.op,.int e.v.k,.int e.v.n,.int e.v.d,.str e.v.s,.sl (kids e.v),.str e.nm,.bool e.ds,.sl (bu0 e)]from rfl,bg4]
theorem dw0(a:List D)(e:Ex)(b:List D):bg5 (a++([.int e.op,.int e.v.k,.int e.v.n,.int e.v.d,.str e.v.s,.sl (kids e.v),.str e.nm,.bool e.ds,.sl (bu0 e)]++b))=bg5 a+(bg4 (bu2 e)+bg5 b):=by
 rw[bg6,bg6,dv9]
theorem dw1(q:PP):bg4 (bu2 q.e)≤bg4 (ci1 q)∧1≤bg4 (ci1 q):=by
 have h:bg4 (ci1 q)=bg5 ([.str q.key]++([.int q.e.op,.int q.e.v.k,.int q.e.v.n,.int q.e.v.d,.str q.e.v.s,.sl (kids q.e.v),.str q.e.nm,.bool q.e.ds,.sl (bu0 q.e)]++ [])):=by
  show bg4 (.agg _)=_;rw[bg4];rfl
 rw[h,dw0]
 have h2:1≤bg5 [D.str q.key]:=by
  show 1≤bg5 [.imm (.string q.key)];rw[bg5,bg4];omega
 omega
theorem dw2(x:SIt):bg4 (bu2 x.e)≤bg4 (ci7 x)∧1≤bg4 (ci7 x):=by
 have h:bg4 (ci7 x)=bg5 ([.str x.vr,.str x.key,.str x.lb,.bool x.off]++([.int x.e.op,.int x.e.v.k,.int x.e.v.n,.int x.e.v.d,.str x.e.v.s,.sl (kids x.e.v),.str x.e.nm,.bool x.e.ds,.sl (bu0 x.e)]++ [])):=by
  show bg4 (.agg _)=_;rw[bg4];rfl
 rw[h,dw0]
 have h2:1≤bg5 [D.str x.vr,.str x.key,.str x.lb,.bool x.off]:=by
  show 1≤bg5 (.imm (.string x.vr)::_);rw[bg5,bg4];omega
 omega
theorem dw3(x:IT):bg4 (bu2 x.e)≤bg4 (ci5 x)∧1≤bg4 (ci5 x)∧bg4 (bu2 x.e)+1≤bg4 (ci5 x):=by
 have h:bg4 (ci5 x)=bg5 ([]++([.int x.e.op,.int x.e.v.k,.int x.e.v.n,.int x.e.v.d,.str x.e.v.s,.sl (kids x.e.v),.str x.e.nm,.bool x.e.ds,.sl (bu0 x.e)]++ [.str x.asn])):=by
  show bg4 (.agg _)=_;rw[bg4];rfl
 rw[h,dw0]
 have h2:1≤bg5 [D.str x.asn]:=by
  show 1≤bg5 [.imm (.string x.asn)];rw[bg5,bg4];omega
 omega
theorem dw4(x:SK):bg4 (bu2 x.e)≤bg4 (ci6 x)∧1≤bg4 (ci6 x):=by
 have h:bg4 (ci6 x)=bg5 ([]++([.int x.e.op,.int x.e.v.k,.int x.e.v.n,.int x.e.v.d,.str x.e.v.s,.sl (kids x.e.v),.str x.e.nm,.bool x.e.ds,.sl (bu0 x.e)]++ [.bool x.dc])):=by
  show bg4 (.agg _)=_;rw[bg4];rfl
 rw[h,dw0]
 have h2:1≤bg5 [D.bool x.dc]:=by
  have h3:bg4 (D.bool x.dc)=1:=by show bg4 (.imm (.bool x.dc))=1;simp[bg4]
  rw[bg5,h3];omega
 omega
theorem dw5(n:NP):3≤bg4 (ci2 n)∧bg5 (n.ps.map ci1)≤bg4 (ci2 n):=by
 have h:bg4 (ci2 n)=n.vr.size+1+(bg5 (n.lb.map D.str)+1+(bg5 (n.ps.map ci1)+1)):=by
  show bg4 (.agg [.imm (.string n.vr),.sl (n.lb.map .str),.sl (n.ps.map ci1)])=_;simp only[bg4,bg5]<;>omega
 omega
theorem dw6(n:EP):3≤bg4 (ci3 n)∧bg5 (n.ps.map ci1)≤bg4 (ci3 n):=by
 have h:bg4 (ci3 n)=n.vr.size+1+(bg5 (n.ty.map D.str)+1+(4+(bg5 (n.ps.map ci1)+1))):=by
  show bg4 (.agg [.imm (.string n.vr),.sl (n.ty.map .str),.int n.dir,.int n.mode,.int n.mn,.int n.mx,.sl (n.ps.map ci1)])=_;simp only[bg4,bg5,D.int]<;>omega
 omega
theorem dw7(p:PA):bg4 (ci4 p)=p.vr.size+1+(bg5 (p.ns.map ci2)+1+(bg5 (p.es.map ci3)+1)):=by
 show bg4 (.agg [.imm (.string p.vr),.sl (p.ns.map ci2),.sl (p.es.map ci3)])=_;simp only[bg4,bg5]<;>omega
theorem dw8:∀(ns:List NP) (es:List EP),(de3 ns es).length=ns.length+es.length
 |[],es=>by rw[de3];simp
 |n::r,[]=>by rw[de3];simp
 |n::r,e::q=>by
  have:=dw8 r q;rw[de3];simp only[es3];omega
theorem dw9:∀l:List PA,3*(de4 l).length≤bg5 (l.map ci4)
 |[]=>by simp[de4]
 |p::r=>by
  have ih:=dw9 r;have h:=dw7 p;have h1:=dv7 3 (L:=p.ns.map ci2) fun d hd=>by obtain⟨n,-,rfl⟩:=et5.1 hd;exact(dw5 n).1
  have h2:=dv7 3 (L:=p.es.map ci3) fun d hd=>by obtain⟨n,-,rfl⟩:=et5.1 hd;exact(dw6 n).1
  rw[es7]at h1 h2;have e:(de4 (p::r)).length=(de3 p.ns p.es).length+1+(de4 r).length:=by unfold de4;rw[ev4,es2,es2];rfl
  rw[e,dw8,eu5,bg5];omega
theorem dx0:∀l:List PA,bg5 ((du5 l).map ci1)≤bg5 (l.map ci4)
 |[]=>et2 _
 |p::r=>by
  have ih:=dx0 r;have h:=dw7 p
  have kn:∀L:List NP,bg5 ((L.flatMap NP.ps).map ci1)≤bg5 (L.map ci2):=by
   intro L
   induction L with
   |nil=>exact et2 _
   |cons n q ihq=>
    have:=(dw5 n).2;rw[ev4,ez4,bg6,eu5,bg5];omega
  have ke:∀L:List EP,bg5 ((L.flatMap EP.ps).map ci1)≤bg5 (L.map ci3):=by
   intro L
   induction L with
   |nil=>exact et2 _
   |cons n q ihq=>
    have:=(dw6 n).2;rw[ev4,ez4,bg6,eu5,bg5];omega
  have h1:=kn p.ns;have h2:=ke p.es;have e:du5 (p::r)=(p.ns.flatMap NP.ps++p.es.flatMap EP.ps)++du5 r:=by unfold du5;rw[ev4]
  rw[e,ez4,ez4,bg6,bg6,eu5,bg5];omega
theorem dx1:∀(ns:List NP) (es:List EP),(ck2 (cj7 ns es)).length≤(ns.flatMap NP.ps).length+(es.flatMap EP.ps).length∧∀e∈ck2 (cj7 ns es),∃q∈ns.flatMap NP.ps++es.flatMap EP.ps,e=q.e
 |[],es=>⟨et8 _,fun e h=>by rw[cj7]at h;cases h⟩
 |n::r,[]=>by
  obtain⟨h1,h2⟩:=dx1 r [];have e0:ck2 (cj7 (n::r) [])=n.ps.map (fun p=>p.e)++ck2 (cj7 r []):=by rw[cj7];unfold ck2;rw[ev4];rfl
  rw[e0];refine⟨by simp only[es2,es7,ev4,List.flatMap_nil,es8]at*;omega,fun e he=>?_⟩;rcases eu3.1 he with he|he
  ·obtain⟨q,hq,rfl⟩:=et5.1 he;exact⟨q,by simp[hq],rfl⟩
  ·obtain⟨q,hq,rfl⟩:=h2 e he;exact⟨q,by rw[ev4,ev3];exact eu3.2 (.inr hq),rfl⟩
 |n::r,x::q=>by
  obtain⟨h1,h2⟩:=dx1 r q;have e0:ck2 (cj7 (n::r) (x::q))=n.ps.map (fun p=>p.e)++(x.ps.map (fun p=>p.e)++ck2 (cj7 r q)):=by rw[cj7];unfold ck2;rw[ev4,ev4];rfl
  rw[e0];refine⟨by simp only[es2,es7,ev4]at*;omega,fun e he=>?_⟩;rcases eu3.1 he with he|he
  ·obtain⟨u,hu,rfl⟩:=et5.1 he;exact⟨u,by simp[hu],rfl⟩
  ·rcases eu3.1 he with he|he
   ·obtain⟨u,hu,rfl⟩:=et5.1 he;exact⟨u,by simp[hu],rfl⟩
   ·obtain⟨u,hu,rfl⟩:=h2 e he;refine⟨u,?_,rfl⟩;rw[ev4,ev4];rcases eu3.1 hu with hu|hu
    ·exact eu3.2 (.inl (eu3.2 (.inr hu)))
    ·exact eu3.2 (.inr (eu3.2 (.inr hu)))
theorem dx2{α β:Type}{f:α→List β}{x:α}:∀{l:List α},x∈l→(f x).length≤(l.flatMap f).length
 |a::r,h=>by
  rw[ev4,es2];rcases es9.1 h with rfl|h
  ·omega
  ·have:=dx2 (f:=f) h;omega
theorem dx3(c:CL):bg5 (c.ps.map ci4)+bg5 (bu1 c.wh)+bg4 (bu2 c.e)+bg5 (c.it.map ci5)+bg5 (c.od.map ci6)+bg5 (c.st.map ci7)+bg5 (c.ns.map D.str)≤bg4 (ci8 c):=by
 have h:bg4 (ci8 c)=bg5 ([.int c.k,.bool c.opt,.bool c.ds,.sl (c.ps.map ci4),.sl (bu1 c.wh)]++([.int c.e.op,.int c.e.v.k,.int c.e.v.n,.int c.e.v.d,.str c.e.v.s,.sl (kids c.e.v),.str c.e.nm,.bool c.e.ds,.sl (bu0 c.e)]++ [.str c.nm,.sl (c.it.map ci5),.sl (c.od.map ci6),.int c.sk,.int c.lm,.sl (c.st.map ci7),.sl (c.ns.map .str)])):=by
  show bg4 (.agg _)=_;rw[bg4];rfl
 rw[h,dw0];simp only[bg4,bg5];omega
theorem dx4{e:Ex}(h:bg4 (bu2 e)≤1048576):dh9 e:=by
 have h1:=cu8 e;have h2:=cu9 e;exact⟨by omega,by omega⟩
theorem dx5{e:Ex}(h:bg4 (bu2 e)≤1048576):smE e:=by
 have h1:=cu8 e;show nd e≤1000000;omega
theorem dx6{c:CL}(h:bg4 (ci8 c)≤1048576):SmC c:=by
 have hb:=dx3 c;have hn:=dw9 c.ps;have hp:=dx0 c.ps;have hpl:=dv7 1 (L:=(du5 c.ps).map ci1) fun d hd=>by obtain⟨q,-,rfl⟩:=et5.1 hd;exact(dw1 q).2
 rw[es7]at hpl
 have hq:∀q∈du5 c.ps,bg4 (bu2 q.e)≤1048576:=fun q hq=>by
  have h1:=dv6 (ev0 (f:=ci1) hq);have h2:=(dw1 q).1;omega
 have hw:∀e∈c.wh,bg4 (bu2 e)≤1048576:=fun e he=>by
  have h1:=dv6 (L:=bu1 c.wh) (d:=bu2 e) (by rw[bu3];exact ev0 (f:=bu2) he);omega
 have hpa:∀p∈c.ps,bg5 (p.ns.map ci2)+bg5 (p.es.map ci3)≤1048576:=fun p hp=>by
  have h1:=dv6 (ev0 (f:=ci4) hp);rw[dw7]at h1;omega
 have hne:∀p∈c.ps,p.ns.length≤1000000∧p.es.length≤1000000:=fun p hp=>by
  have h0:=hpa p hp;have h1:=dv7 3 (L:=p.ns.map ci2) fun d hd=>by obtain⟨n,-,rfl⟩:=et5.1 hd;exact(dw5 n).1
  have h2:=dv7 3 (L:=p.es.map ci3) fun d hd=>by obtain⟨n,-,rfl⟩:=et5.1 hd;exact(dw6 n).1
  rw[es7]at h1 h2;omega
 have hpp:9*(du5 c.ps).length≤1048576:=by
  have h1:=dv7 9 (L:=(du5 c.ps).map ci1) fun d hd=>by
   obtain⟨q,-,rfl⟩:=et5.1 hd;have h2:=(dw1 q).1;have h3:=cu8 q.e;have h4:1≤nd q.e:=by rw[cd4];omega
   omega
  rw[es7]at h1;omega
 refine⟨⟨fun p hpm=>?_,fun e he=>dx4 (hw e he),dx4 (by omega),fun x hx=>?_,fun x hx=>?_,fun x hx=>?_⟩,fun q h=>dx5 (hq q h),by omega,fun e he=>dx5 (hw e he),by omega,hne⟩
 ·have hg:=dx1 p.ns p.es;have hsub:∀q∈p.ns.flatMap NP.ps++p.es.flatMap EP.ps,q∈du5 c.ps:=fun q hqm=>fa1.2 ⟨p,hpm,hqm⟩
  have hll:(p.ns.flatMap NP.ps).length+(p.es.flatMap EP.ps).length≤(du5 c.ps).length:=by
   have:=dx2 (f:=fun p:PA=>p.ns.flatMap NP.ps++p.es.flatMap EP.ps) hpm;rw[es2]at this;exact this
  refine⟨(hne p hpm).1,by omega,fun e he=>?_⟩;obtain⟨q,hqm,rfl⟩:=hg.2 e he;exact dx4 (hq q (hsub q hqm))
 ·have h1:=dv6 (ev0 (f:=ci5) hx);have h2:=(dw3 x).1;exact dx4 (by omega)
 ·have h1:=dv6 (ev0 (f:=ci6) hx);have h2:=(dw4 x).1;exact dx4 (by omega)
 ·have h1:=dv6 (ev0 (f:=ci7) hx);have h2:=(dw2 x).1;exact dx4 (by omega)
theorem dx7(b:PB)(K:List D):bg5 K+bg5 (b.cj.vs.map D.str)+bg5 (b.cj.as.map by5)+bg4 (ci8 b.cl)+bg4 (bu2 b.e)+bg5 (b.it.map ci5)+bg5 (b.od.map ci6)+5≤bg4 (dd0 b K):=by
 have hc:bg4 (ci8 b.cl)=bg5 [.int b.cl.k,.bool b.cl.opt,.bool b.cl.ds,.sl (b.cl.ps.map ci4),.sl (bu1 b.cl.wh),.int b.cl.e.op,.int b.cl.e.v.k,.int b.cl.e.v.n,.int b.cl.e.v.d,.str b.cl.e.v.s,.sl (kids b.cl.e.v),.str b.cl.e.nm,.bool b.cl.e.ds,.sl (bu0 b.cl.e),.str b.cl.nm,.sl (b.cl.it.map ci5),.sl (b.cl.od.map ci6),.int b.cl.sk,.int b.cl.lm,.sl (b.cl.st.map ci7),.sl (b.cl.ns.map .str)]:=by
  show bg4 (.agg _)=_;rw[bg4]
 have h:bg4 (dd0 b K)=bg5 ([.int b.op,.sl K,.sl (b.cj.vs.map .str),.sl (b.cj.as.map by5)]++([.int b.cl.k,.bool b.cl.opt,.bool b.cl.ds,.sl (b.cl.ps.map ci4),.sl (bu1 b.cl.wh),.int b.cl.e.op,.int b.cl.e.v.k,.int b.cl.e.v.n,.int b.cl.e.v.d,.str b.cl.e.v.s,.sl (kids b.cl.e.v),.str b.cl.e.nm,.bool b.cl.e.ds,.sl (bu0 b.cl.e),.str b.cl.nm,.sl (b.cl.it.map ci5),.sl (b.cl.od.map ci6),.int b.cl.sk,.int b.cl.lm,.sl (b.cl.st.map ci7),.sl (b.cl.ns.map .str)]++([.int b.e.op,.int b.e.v.k,.int b.e.v.n,.int b.e.v.d,.str b.e.v.s,.sl (kids b.e.v),.str b.e.nm,.bool b.e.ds,.sl (bu0 b.e)]++ [.str b.nm,.sl (b.it.map ci5),.sl (b.od.map ci6),.int b.sk,.int b.lm]))):=by
  show bg4 (.agg _)=_;rw[bg4];rfl
 rw[h,bg6,bg6,←hc,bg6,dv9];simp only[bg4,bg5,D.int,D.str];omega
theorem dx8{b:PB}{K:List D}(h:bg4 (dd0 b K)≤1048576)(hv:b.cj.vs.length≤1000000):SmB b:=by
 have hb:=dx7 b K;have h1:=dv8 b.cj.vs
 have h2:=dv7 3 (L:=b.cj.as.map by5) fun d hd=>by
  obtain⟨a,-,rfl⟩:=et5.1 hd;unfold by5;simp only[bg4,bg5];omega
 rw[es7]at h2;have hcl:bg4 (ci8 b.cl)≤1048576:=by omega
 have hc:=dx3 b.cl;have hs:=dx6 hcl;have n1:=dw9 b.cl.ps;have l1:=dv7 1 (L:=b.cl.ps.map ci4) fun d hd=>by obtain⟨p,-,rfl⟩:=et5.1 hd;rw[dw7];omega
 have l2:=dv7 1 (L:=bu1 b.cl.wh) fun d hd=>by
  rw[bu3]at hd;obtain⟨e,-,rfl⟩:=et5.1 hd;have h3:=cu8 e;have h4:1≤nd e:=by rw[cd4];omega
  omega
 have l3:=dv7 1 (L:=b.cl.it.map ci5) fun d hd=>by obtain⟨p,-,rfl⟩:=et5.1 hd;exact(dw3 p).2.1
 have l4:=dv7 1 (L:=b.cl.od.map ci6) fun d hd=>by obtain⟨p,-,rfl⟩:=et5.1 hd;exact(dw4 p).2
 have l5:=dv7 1 (L:=b.cl.st.map ci7) fun d hd=>by obtain⟨p,-,rfl⟩:=et5.1 hd;exact(dw2 p).2
 have l6:=dv8 b.cl.ns;rw[es7]at l1 l3 l4 l5;rw[bu8]at l2;refine⟨hv,by omega,by unfold dj2;omega,dx5 (by omega),fun x hx=>?_,fun x hx=>?_,hs.nm,hs.ne,fun _ cols hcols=>dv4 b.cl cols hs hcols⟩
 ·have g1:=dv6 (ev0 (f:=ci5) hx);have g2:=(dw3 x).1;exact dx5 (by omega)
 ·have g1:=dv6 (ev0 (f:=ci6) hx);have g2:=(dw4 x).1;exact dx5 (by omega)
mutual
def vsP:Pl→Nat
 |.mk b ks=>b.cj.vs.length+dx9 ks
def dx9:List Pl→Nat
 |[]=>0
 |p::r=>vsP p+dx9 r
end
theorem dy0:∀{l:List Pl} {p:Pl},p∈l→vsP p≤dx9 l
 |a::r,p,h=>by
  rw[dx9];rcases es9.1 h with rfl|h
  ·omega
  ·have:=dy0 h;omega
theorem dy1(p:Pl):bg4 (dd1 p)≤1048576→vsP p≤100000→alB SmB p∧5*szP p≤bg4 (dd1 p)∧2*cwP p≤2*vsP p+bg4 (dd1 p):=by
 refine dc9 (P:=fun p=>bg4 (dd1 p)≤1048576→vsP p≤100000→alB SmB p∧5*szP p≤bg4 (dd1 p)∧2*cwP p≤2*vsP p+bg4 (dd1 p)) (fun b ks ih h hv=>?_) p;rw[dd4]at h ⊢;rw[vsP]at hv ⊢;have hb:=dx7 b (ks.map dd1);have hs:=dx8 h (by omega)
 have hk:∀x∈ks,bg4 (dd1 x)≤1048576∧vsP x≤100000:=fun x hx=>by
  have:=dv6 (ev0 (f:=dd1) hx);have:=dy0 hx;omega
 have key:∀L:List Pl,(∀x∈L,alB SmB x∧5*szP x≤bg4 (dd1 x)∧2*cwP x≤2*vsP x+bg4 (dd1 x))→do7 SmB L∧5*df8 L≤bg5 (L.map dd1)∧2*dp0 L≤2*dx9 L+bg5 (L.map dd1):=by
  intro L
  induction L with
  |nil=>intro _;exact⟨trivial,et2 _,et8 _⟩
  |cons a r ihr=>
   intro hx;obtain⟨a1,a2,a3⟩:=hx a (by simp);obtain⟨b1,b2,b3⟩:=ihr fun x hm=>hx x (by simp[hm])
   rw[df8,dp0,dx9,eu5,bg5];exact⟨⟨a1,b1⟩,by omega,by omega⟩
 obtain⟨k1,k2,k3⟩:=key ks fun x hx=>ih x hx (hk x hx).1 (hk x hx).2
 have n1:=dw9 b.cl.ps;have hc:=dx3 b.cl
 have l3:=dv7 10 (L:=b.it.map ci5) fun d hd=>by
  obtain⟨p,-,rfl⟩:=et5.1 hd;have h2:=(dw3 p).2.2;have h3:=cu8 p.e;have h4:1≤nd p.e:=by rw[cd4];omega
  omega
 rw[es7]at l3;rw[alB,szP,cwP];refine⟨⟨hs,k1⟩,by omega,?_⟩;unfold cwB;omega
theorem dy2(p:Pl)(h:bg4 (dd1 p)≤1048576)(hv:vsP p≤100000):Ev E 10 [dd1 p] (.tup [.sl ((df9 p).1.map .str),.int (df9 p).2]):=by
 obtain⟨h1,h2,h3⟩:=dy1 p h hv;exact dv5 p h1 (by omega) (by omega)
end Go.Proofs.YtndgolmgaenlfaaGreatDoor
namespace Go.Proofs.YtndgolmgaenlfaaGreatDoor
set_option maxRecDepth 4000
open Go Go.Abs Go.Val Go.RowKit Go.Proofs.Tryz
attribute [local irreducible] go SGo an1 Ev au7 EvO EvS RGo RGw PGo
end Go.Proofs.YtndgolmgaenlfaaGreatDoor
