/- As each says. -/
import Derived.Test.YtndgolmgaenlfaaGreatDoorPA
import Derived.Test.YtndgolmgaenlfaaGreatDoorCB
import Derived.Test.YtndgolmgaenlfaaGreatDoorGC
import Derived.Test.YtndgolmgaenlfaaGreatDoorFB
import Derived.Test.YtndgolmgaenlfaaGreatDoorCA
import Derived.Test.YtndgolmgaenlfaaGreatDoorMA
set_option linter.unusedVariables false
set_option linter.unusedSimpArgs false
namespace Go.Proofs.YtndgolmgaenlfaaGreatDoor
set_option maxRecDepth 4000
open Go Go.Abs Go.Val Go.RowKit Go.Proofs.Tryz
attribute [local irreducible] go SGo an1 Ev au8 EvO EvS RGo PGo
def eh5(l:List PA):List PP:=l.flatMap fun p=>p.ns.flatMap NP.ps++p.es.flatMap EP.ps
theorem eh6(l:List PA):dp0 l=(eh5 l).map fun q=>q.e:=by
 unfold dp0 eh5;rw[List.map_flatMap];congr 1
 funext p
 rw[fu3,List.map_flatMap,List.map_flatMap]
structure SmC(c:CL):Prop where
 ok:OkC c
 pr:∀q∈eh5 c.ps,smE q.e
 pl:(eh5 c.ps).length≤1000000
 wh:∀e∈c.wh,smE e
 nm:(do7 c.ps).length≤900000
 ne:∀p∈c.ps,p.ns.length≤1000000∧p.es.length≤1000000
theorem eh7(l:List PP):∀d∈l.map cp1,d.cells.length=10:=fun d hd=>by
 obtain⟨u,-,rfl⟩:=fq8.1 hd;rfl
structure SiP(n:Nat) where
 i:Nat
 hi:i≤n
theorem eh8{l:List PA}{i:Nat}{p:PA}(h:l[i]? =some p):eh5 (l.take (i+1))=eh5 (l.take i)++(p.ns.flatMap NP.ps++p.es.flatMap EP.ps):=by
 unfold eh5;rw[fs5,h,fw7];simp
theorem eh9{α β:Type}{f:α→List β}{l:List α}{i:Nat}{x:α}(h:l[i]? =some x):(l.take (i+1)).flatMap f=(l.take i).flatMap f++f x:=by
 rw[fs5,h,fw7];simp
theorem ei0{α β:Type}{f:α→List β}(l:List α)(i:Nat):((l.take i).flatMap f).length≤(l.flatMap f).length:=by
 have h:l.flatMap f=(l.take i).flatMap f++(l.drop i).flatMap f:=by rw[←fw7,fv5]
 have:=congrArg List.length h;rw[fp4]at this;omega
theorem ei1(l:List PA)(i:Nat):(eh5 (l.take i)).length≤(eh5 l).length:=ei0 l i
theorem ei2(y:NP):cp2 y=.agg [.str y.vr,.sl (y.lb.map .str),.sl (y.ps.map cp1)]:=rfl
theorem ei3(y:EP):cp3 y=.agg [.str y.vr,.sl (y.ty.map .str),.int y.dir,.int y.mode,.int y.mn,.int y.mx,.sl (y.ps.map cp1)]:=rfl
def fP(k:Nat):List D→X
 |[]=>.nilS
 |_::_=>.own k
def gP:List D→aa5
 |[]=>.dead
 |x::r=>.row 96 10 (x::r)
set_option maxHeartbeats 8000000 in
theorem ei4(c:CL)(cols:List ByteArray)(hs:SmC c)(hcl:cols.length≤1000000):Ev E 40 [cp8 c,.sl (cols.map .str)] (.d (.int (dp1 c cols).2)):=Ev.fit fun hfit=>by
 have hk:=eh4 c hs.ok;have hfc:=(hfit (cp8 c) Oc).aggs;have hmp:=(cv4 (hfc (.sl (c.ps.map cp4)) (by simp[cp8]))).1
 have hmw:c.wh.length≤9223372036854775807:=by
  have h:=(bz4 (hfc (.sl (by5 c.wh)) (by simp[cp8]))).1;exact h
 have hpa:=(cv4 (hfc (.sl (c.ps.map cp4)) (by simp[cp8]))).2;have hVars:=ea5 c.ps hs.nm hs.ne;have hvl:(do8 c.ps).length≤900000:=by have h:=dz7 (do7 c.ps) [];have h2:=hs.nm;unfold do8;unfold dz5 at h;simp only[fq0]at h;omega
 have hboth:=ed8 cols (do8 c.ps) hcl Oa;have hc1:=ec0 cols (eh5 c.ps) hs.pr (by have:=hs.pl;omega);have hc2:=ec3 (do4 cols (do8 c.ps)) c.wh hs.wh hmw;rw[←by7]at hc2;have hc3:=cw2 63 b63 cp9 c.wh (fun x _=>cx4 x);rw[←by7]at hc3
 have e1:((dp0 c.ps).all fun e=>df2 e cols)= !((eh5 c.ps).any fun x=> !df2 x.e cols):=by
  rw[eh6,fq3];simp only[List.all_map,fr7,Bool.not_eq_true',fv8,fv6,Function.comp];exact⟨fun h x hx=>by simpa using h x hx,fun h x hx=>by simpa using h x hx⟩
 have e2:(c.wh.all fun e=>df2 e (do4 cols (do8 c.ps)))= !(c.wh.any fun x=> !df2 x (do4 cols (do8 c.ps))):=by
  rw[fq3];simp only[fr7,Bool.not_eq_true',fv8,fv6];exact⟨fun h x hx=>by simpa using h x hx,fun h x hx=>by simpa using h x hx⟩
 have hap:(dp1 c cols).2=bif cs2 c !=0 then cs2 c else bif (eh5 c.ps).any (fun x=> !df2 x.e cols)then 6 else bif c.wh.any (fun x=> !df2 x (do4 cols (do8 c.ps)))then 6 else bif c.wh.any cp9 then 9 else 0:=by
  unfold dp1;rw[e1,e2,Bool.not_not,Bool.not_not]
  cases cs2 c !=0<;>cases(eh5 c.ps).any (fun x=> !df2 x.e cols)<;>cases c.wh.any (fun x=> !df2 x (do4 cols (do8 c.ps)))<;>cases c.wh.any cp9<;>rfl
 rw[hap];clear e1 e2 hap;generalize do4 cols (do8 c.ps)=al at*;generalize(c.wh.any fun x=> !df2 x al)=b2 at*;generalize c.wh.any cp9=b3 at*;generalize(eh5 c.ps).any (fun x=> !df2 x.e cols)=b1 at*;have hpl:=hs.pl;obtain⟨k,opt,ds,ps,wh,e,nm,it,od,sk,lm,st,ns⟩:=c;simp only at hpl hc1 hc2 hc3 hVars hboth hmp hpa hmw ⊢;generalize do8 ps=vp at*
 cases hz:cs2 ⟨k,opt,ds,ps,wh,e,nm,it,od,sk,lm,st,ns⟩ !=0 with
 |true=>
  rw[cond_true];generalize cs2 _=z at*;refine ye2 func40 ntmps40 fun _ _ _=>?_
  repeat'(first|refine yz ?_|refine yp b64 hk ?_|exact zD)
 |false=>
 have hz0:cs2 ⟨k,opt,ds,ps,wh,e,nm,it,od,sk,lm,st,ns⟩=0:=by simpa using hz
 rw[hz0]at hk;rw[cond_false];clear hz hz0;have hle:(ps.map cp4).length=ps.length:=Oc
 obtain⟨C,hC⟩:∃C,C=cp8 ⟨k,opt,ds,ps,wh,e,nm,it,od,sk,lm,st,ns⟩:=⟨_,rfl⟩;refine ye2 func40 ntmps40 fun _ _ _=>?_
 repeat'(first|refine yz ?_|refine yp b64 hk ?_)
 refine bk1 ?_;refine ac7 (α:=SiP ps.length) (fun p=>⟨[(2,.ptr 0 0),(3,.ptr 1 0),(6,fP 2 ((eh5 (ps.take p.i)).map cp1)),(20,.d (.sl (ps.map cp4))),(21,.d (.int (ps.map cp4).length)),(22,.d (.int p.i))],[oCL ⟨k,opt,ds,ps,wh,e,nm,it,od,sk,lm,st,ns⟩,cf6 cols,gP ((eh5 (ps.take p.i)).map cp1)]⟩) (fun p=>ps.length-p.i) ⟨0,by omega⟩ (zle 3) ?_;rintro⟨i,hi⟩;dsimp only;rcases fp2 i ps.length with hlt|hge
 ·have g1:decide ((i:Int)<((ps.map cp4).length:Int))=true:=by rw[hle];simpa using hlt
  have hx0:=fp1 hlt;generalize ps[i]=p at hx0;have hx:=cv3 (f:=cp4) hx0;have hpm:=fp3 hx0;have htk:=eh8 hx0;have hbd:=ei1 ps (i+1);rw[htk,fp4,fp4]at hbd;have hne:=hs.ne p hpm;generalize eh5 (ps.take i)=L at*;have hnl:(p.ns.map cp2).length=p.ns.length:=Oc
  have hel:(p.es.map cp3).length=p.es.length:=Oc
  repeat'(first|refine yz ?_|refine yi (cp4 p) hx ?_)
  refine ac7 (α:=SiP p.ns.length) (fun q=>⟨[(2,.ptr 0 0),(3,.ptr 1 0),(6,fP 2 ((L++(p.ns.take q.i).flatMap NP.ps).map cp1)),(8,.ptr 3 0),(20,.d (.sl (ps.map cp4))),(21,.d (.int (ps.map cp4).length)),(22,.d (.int i)),(27,.d (.sl (p.ns.map cp2))),(28,.d (.int (p.ns.map cp2).length)),(29,.d (.int q.i))],[oCL ⟨k,opt,ds,ps,wh,e,nm,it,od,sk,lm,st,ns⟩,cf6 cols,gP ((L++(p.ns.take q.i).flatMap NP.ps).map cp1),.var 69 (.w (.d (cp4 p)))]⟩) (fun q=>p.ns.length-q.i) ⟨0,by omega⟩ (by dsimp only;rw[fu6,fx1,fv3];generalize L.map cp1=K0;rcases K0 with _|⟨d0,r0⟩<;>exact(zle 4)) ?_;rintro⟨j,hj⟩;dsimp only;rcases fp2 j p.ns.length with hltj|hgej
  ·have g2:decide ((j:Int)<((p.ns.map cp2).length:Int))=true:=by rw[hnl];simpa using hltj
   have hy0:=fp1 hltj;generalize p.ns[j]=y at hy0;have hy:=cv3 (f:=cp2) hy0;have hft:=eh9 (f:=NP.ps) hy0;have hfl:=ei0 (f:=NP.ps) p.ns (j+1);rw[hft,fp4]at hfl;have hmp2:(L++(p.ns.take (j+1)).flatMap NP.ps).map cp1=(L++(p.ns.take j).flatMap NP.ps).map cp1++y.ps.map cp1:=by rw[hft];simp
   have hll:((L++(p.ns.take j).flatMap NP.ps).map cp1).length+(y.ps.map cp1).length≤1000000:=by simp only[fp6,fp4];omega
   have hpc:=eh7 y.ps;rw[ei2]at hy;generalize(L++(p.ns.take j).flatMap NP.ps).map cp1=K1 at*;generalize y.ps.map cp1=K2 at*;rcases K1 with _|⟨d1,r1⟩<;>rcases K2 with _|⟨d2,r2⟩
   ·dsimp only[fP,gP]
    repeat'(first|refine yz ?_|refine qI (.agg [.str y.vr,.sl (y.lb.map .str),.sl []]) rfl (ap1 rfl) rfl rfl rfl rfl rfl rfl Oh hy ?_|refine bk5 ?_)
    refine ac1 ?_;refine⟨⟨j+1,by omega⟩,by dsimp only;omega,?_⟩;dsimp only;rw[hmp2,fv3];exact(zle 4)
   ·dsimp only[fP,gP]
    repeat'(first|refine yz ?_|refine qI (.agg [.str y.vr,.sl (y.lb.map .str),.sl (d2::r2)]) rfl (ap1 rfl) rfl rfl rfl rfl rfl rfl Oh hy ?_|(refine qS rfl ⟨by simp,hpc,by(show _*136≤140737488355328;first|(simp only[fp5,fq0]at*;omega)|(simp;omega)),by(show _≤9223372036854775807;first|(simp only[fp5,fq0]at*;omega)|(simp;omega))⟩ ?_))
    refine ac1 ?_;refine⟨⟨j+1,by omega⟩,by dsimp only;omega,?_⟩;dsimp only;rw[hmp2];exact(bh0 [0,1,5,3])
   ·dsimp only[fP,gP]
    repeat'(first|refine yz ?_|refine qI (.agg [.str y.vr,.sl (y.lb.map .str),.sl []]) rfl (ap1 rfl) rfl rfl rfl rfl rfl rfl Oh hy ?_|refine bk0 rfl rfl rfl rfl rfl rfl rfl rfl rfl ?_)
    refine ac1 ?_;refine⟨⟨j+1,by omega⟩,by dsimp only;omega,?_⟩;dsimp only;rw[hmp2,fv3];exact(zle 4)
   ·dsimp only[fP,gP]
    repeat'(first|refine yz ?_|refine qI (.agg [.str y.vr,.sl (y.lb.map .str),.sl (d2::r2)]) rfl (ap1 rfl) rfl rfl rfl rfl rfl rfl Oh hy ?_|(refine qS rfl ⟨by simp,hpc,by(show _*136≤140737488355328;first|(simp only[fp5,fq0]at*;omega)|(simp;omega)),by(show _≤9223372036854775807;first|(simp only[fp5,fq0]at*;omega)|(simp;omega))⟩ ?_))
    refine ac1 ?_;refine⟨⟨j+1,by omega⟩,by dsimp only;omega,?_⟩;dsimp only;rw[hmp2];exact(bh0 [0,1,5,3])
  ·have g2:decide ((j:Int)<((p.ns.map cp2).length:Int))=false:=by rw[hnl];simp;omega
   rw[fq6 hgej];have hM:(L++p.ns.flatMap NP.ps).length+(p.es.flatMap EP.ps).length≤1000000:=by rw[fp4];omega
   rw[←fs0]at htk;generalize L++p.ns.flatMap NP.ps=M at*
   repeat'(refine yz ?_)
   refine ac7 (α:=SiP p.es.length) (fun q=>⟨[(2,.ptr 0 0),(3,.ptr 1 0),(6,fP 2 ((M++(p.es.take q.i).flatMap EP.ps).map cp1)),(8,.ptr 3 0),(20,.d (.sl (ps.map cp4))),(21,.d (.int (ps.map cp4).length)),(22,.d (.int i)),(39,.d (.sl (p.es.map cp3))),(40,.d (.int (p.es.map cp3).length)),(41,.d (.int q.i))],[oCL ⟨k,opt,ds,ps,wh,e,nm,it,od,sk,lm,st,ns⟩,cf6 cols,gP ((M++(p.es.take q.i).flatMap EP.ps).map cp1),.var 69 (.w (.d (cp4 p)))]⟩) (fun q=>p.es.length-q.i) ⟨0,by omega⟩ (by dsimp only;rw[fu6,fx1,fv3];generalize M.map cp1=K0;rcases K0 with _|⟨d0,r0⟩<;>exact(zle 4)) ?_;rintro⟨m,hm⟩;dsimp only;rcases fp2 m p.es.length with hltm|hgem
   ·have g2:decide ((m:Int)<((p.es.map cp3).length:Int))=true:=by rw[hel];simpa using hltm
    have hy0:=fp1 hltm;generalize p.es[m]=y at hy0;have hy:=cv3 (f:=cp3) hy0;have hft:=eh9 (f:=EP.ps) hy0;have hfl:=ei0 (f:=EP.ps) p.es (m+1);rw[hft,fp4]at hfl;have hmp2:(M++(p.es.take (m+1)).flatMap EP.ps).map cp1=(M++(p.es.take m).flatMap EP.ps).map cp1++y.ps.map cp1:=by rw[hft];simp
    have hll:((M++(p.es.take m).flatMap EP.ps).map cp1).length+(y.ps.map cp1).length≤1000000:=by simp only[fp6,fp4];omega
    have hpc:=eh7 y.ps;rw[ei3]at hy;generalize(M++(p.es.take m).flatMap EP.ps).map cp1=K1 at*;generalize y.ps.map cp1=K2 at*;rcases K1 with _|⟨d1,r1⟩<;>rcases K2 with _|⟨d2,r2⟩
    ·dsimp only[fP,gP]
     repeat'(first|refine yz ?_|refine qI (.agg [.str y.vr,.sl (y.ty.map .str),.int y.dir,.int y.mode,.int y.mn,.int y.mx,.sl []]) rfl (ap1 rfl) rfl rfl rfl rfl rfl rfl Oh hy ?_|refine bk5 ?_)
     refine ac1 ?_;refine⟨⟨m+1,by omega⟩,by dsimp only;omega,?_⟩;dsimp only;rw[hmp2,fv3];exact(zle 4)
    ·dsimp only[fP,gP]
     repeat'(first|refine yz ?_|refine qI (.agg [.str y.vr,.sl (y.ty.map .str),.int y.dir,.int y.mode,.int y.mn,.int y.mx,.sl (d2::r2)]) rfl (ap1 rfl) rfl rfl rfl rfl rfl rfl Oh hy ?_|(refine qS rfl ⟨by simp,hpc,by(show _*136≤140737488355328;first|(simp only[fp5,fq0]at*;omega)|(simp;omega)),by(show _≤9223372036854775807;first|(simp only[fp5,fq0]at*;omega)|(simp;omega))⟩ ?_))
     refine ac1 ?_;refine⟨⟨m+1,by omega⟩,by dsimp only;omega,?_⟩;dsimp only;rw[hmp2];exact(bh0 [0,1,5,3])
    ·dsimp only[fP,gP]
     repeat'(first|refine yz ?_|refine qI (.agg [.str y.vr,.sl (y.ty.map .str),.int y.dir,.int y.mode,.int y.mn,.int y.mx,.sl []]) rfl (ap1 rfl) rfl rfl rfl rfl rfl rfl Oh hy ?_|refine bk0 rfl rfl rfl rfl rfl rfl rfl rfl rfl ?_)
     refine ac1 ?_;refine⟨⟨m+1,by omega⟩,by dsimp only;omega,?_⟩;dsimp only;rw[hmp2,fv3];exact(zle 4)
    ·dsimp only[fP,gP]
     repeat'(first|refine yz ?_|refine qI (.agg [.str y.vr,.sl (y.ty.map .str),.int y.dir,.int y.mode,.int y.mn,.int y.mx,.sl (d2::r2)]) rfl (ap1 rfl) rfl rfl rfl rfl rfl rfl Oh hy ?_|(refine qS rfl ⟨by simp,hpc,by(show _*136≤140737488355328;first|(simp only[fp5,fq0]at*;omega)|(simp;omega)),by(show _≤9223372036854775807;first|(simp only[fp5,fq0]at*;omega)|(simp;omega))⟩ ?_))
     refine ac1 ?_;refine⟨⟨m+1,by omega⟩,by dsimp only;omega,?_⟩;dsimp only;rw[hmp2];exact(bh0 [0,1,5,3])
   ·have g2:decide ((m:Int)<((p.es.map cp3).length:Int))=false:=by rw[hel];simp;omega
    rw[fq6 hgem,←htk]
    repeat'(refine yz ?_)
    refine ac1 ?_;refine⟨⟨i+1,by omega⟩,by dsimp only;omega,?_⟩;dsimp only;generalize(eh5 (ps.take (i+1))).map cp1=K0;rcases K0 with _|⟨d0,r0⟩<;>exact(zle 3)
 ·have g1:decide ((i:Int)<((ps.map cp4).length:Int))=false:=by rw[hle];simp;omega
  rw[fq6 hge];clear hpa
  match hP:(eh5 ps).map cp1 with
  |[]=>
   rw[hP]at hc1;dsimp only[fP,gP];refine bh7 6 rfl ?_
   cases b1 with
   |true=>
    repeat'(first|refine yz ?_|refine ba6 rfl rfl rfl rfl rfl ?_|refine yc [1] b65 (hc1) ?_|exact zD)
   |false=>
   cases b2 with
   |true=>
    repeat'(first|refine yu 21 [5,6] [] ?_|refine yk 21 0 5 ?_|refine yw ?_|refine rgN ?_|refine yv ?_|refine yz ?_|refine ba6 rfl rfl rfl rfl rfl ?_|refine yc [1] b65 (hc1) ?_|refine yp b41 hVars ?_|refine yp b38 hboth ?_|refine yc [3] b67 (hc2) ?_|exact zD)
   |false=>
   cases b3 with
   |true=>
    repeat'(first|refine yu 21 [5,6] [] ?_|refine yk 21 0 5 ?_|refine yw ?_|refine rgN ?_|refine yv ?_|refine yz ?_|refine ba6 rfl rfl rfl rfl rfl ?_|refine yc [1] b65 (hc1) ?_|refine yp b41 hVars ?_|refine yp b38 hboth ?_|refine yc [3] b67 (hc2) ?_|refine yp b67 hc3 ?_|exact zD)
   |false=>
    repeat'(first|refine yu 21 [5,6] [] ?_|refine yk 21 0 5 ?_|refine yw ?_|refine rgN ?_|refine yv ?_|refine yz ?_|refine ba6 rfl rfl rfl rfl rfl ?_|refine yc [1] b65 (hc1) ?_|refine yp b41 hVars ?_|refine yp b38 hboth ?_|refine yc [3] b67 (hc2) ?_|refine yp b67 hc3 ?_|exact zD)
  |y::q=>
   rw[hP]at hc1;dsimp only[fP,gP];refine au2 2 rfl ?_;dsimp only[ar6,ar5,ar8,ar7,List.map,List.set]
   cases b1 with
   |true=>
    repeat'(first|refine yz ?_|refine ba6 rfl rfl rfl rfl rfl ?_|refine yc [1] b65 (hc1) ?_|exact zD)
   |false=>
   cases b2 with
   |true=>
    repeat'(first|refine yu 21 [5,6] [] ?_|refine yk 21 0 5 ?_|refine yw ?_|refine rgN ?_|refine yv ?_|refine yz ?_|refine ba6 rfl rfl rfl rfl rfl ?_|refine yc [1] b65 (hc1) ?_|refine yp b41 hVars ?_|refine yp b38 hboth ?_|refine yc [3] b67 (hc2) ?_|exact zD)
   |false=>
   cases b3 with
   |true=>
    repeat'(first|refine yu 21 [5,6] [] ?_|refine yk 21 0 5 ?_|refine yw ?_|refine rgN ?_|refine yv ?_|refine yz ?_|refine ba6 rfl rfl rfl rfl rfl ?_|refine yc [1] b65 (hc1) ?_|refine yp b41 hVars ?_|refine yp b38 hboth ?_|refine yc [3] b67 (hc2) ?_|refine yp b67 hc3 ?_|exact zD)
   |false=>
    repeat'(first|refine yu 21 [5,6] [] ?_|refine yk 21 0 5 ?_|refine yw ?_|refine rgN ?_|refine yv ?_|refine yz ?_|refine ba6 rfl rfl rfl rfl rfl ?_|refine yc [1] b65 (hc1) ?_|refine yp b41 hVars ?_|refine yp b38 hboth ?_|refine yc [3] b67 (hc2) ?_|refine yp b67 hc3 ?_|exact zD)
attribute [local irreducible] RGw
theorem ei5(p:Pl)(hs:alB SmB p)(hz:szP p≤1000000)(hw:cwP p≤1000000):Ev E 10 [dn6 p] (.tup [.sl ((dq2 p).1.map .str),.int (dq2 p).2]):=by
 have h1:=ed3 p hz 200 Od Od;have hd:dpB 200 p=decide (dpP p>200):=by unfold dpB;rw[decide_eq_decide];omega
 rw[hd]at h1;clear hd;have h2:=ec9 p hz;have h3:=ee7 p hs hz hw;obtain⟨b,ks⟩:=p;rw[dn9]at*;unfold dq2;generalize szP (.mk b ks)=sz at*;generalize dp8 (.mk b ks)=c at*
 cases c1:decide (dpP (.mk b ks)>200)with
 |true=>
  rw[cond_true];rw[c1]at h1;refine ye1 func10 ntmps10 fun _ _ _=>?_
  repeat'(first|refine yz ?_|refine yp b22 h1 ?_|exact zL)
 |false=>
  rw[c1]at h1;rw[cond_false]
  cases c2:decide (sz>2000)with
  |true=>
   rw[cond_true];have g1:=yT ((sz:Int)>2000) (by have:=of_decide_eq_true c2;omega);refine ye1 func10 ntmps10 fun _ _ _=>?_
   repeat'(first|refine yz ?_|refine yp b22 h1 ?_|refine yp b13 h2 ?_|exact zL)
  |false=>
   rw[cond_false];have g1:=yF ((sz:Int)>2000) (by have:=of_decide_eq_false c2;omega);refine ye1 func10 ntmps10 fun _ _ _=>?_
   repeat'(first|refine yz ?_|refine yp b22 h1 ?_|refine yp b13 h2 ?_|refine yp b23 h3 ?_|exact zL)
theorem ei6:∀{L:List D} {d:D},d∈L→bg5 d≤bg6 L
 |a::r,d,h=>by
  rw[bg6];rcases fq1.1 h with rfl|h
  ·omega
  ·have:=ei6 h;omega
theorem ei7(k:Nat):∀{L:List D},(∀d∈L,k≤bg5 d)→k*L.length≤bg6 L
 |[],_=>by simp
 |a::r,h=>by
  have h1:=h a Oc;have h2:=ei7 k (L:=r) fun d hd=>h d (by simp[hd])
  rw[bg6,fp5,Nat.mul_add];omega
theorem ei8(l:List ByteArray):l.length≤bg6 (l.map D.str):=by
 have h:=ei7 1 (L:=l.map D.str) fun d hd=>by
  obtain⟨s,-,rfl⟩:=fq8.1 hd;show 1≤bg5 (.imm (.string s));rw[bg5];omega
 rw[fp6]at h;omega
theorem ei9(e:Ex):bg6 [.int e.op,.int e.v.k,.int e.v.n,.int e.v.d,.str e.v.s,.sl (kids e.v),.str e.nm,.bool e.ds,.sl (by4 e)]=bg5 (by6 e):=by
 rw[show by6 e=.agg [.int e.op,.int e.v.k,.int e.v.n,.int e.v.d,.str e.v.s,.sl (kids e.v),.str e.nm,.bool e.ds,.sl (by4 e)]from rfl,bg5]
theorem ej0(a:List D)(e:Ex)(b:List D):bg6 (a++([.int e.op,.int e.v.k,.int e.v.n,.int e.v.d,.str e.v.s,.sl (kids e.v),.str e.nm,.bool e.ds,.sl (by4 e)]++b))=bg6 a+(bg5 (by6 e)+bg6 b):=by
 rw[bg7,bg7,ei9]
theorem ej1(q:PP):bg5 (by6 q.e)≤bg5 (cp1 q)∧1≤bg5 (cp1 q):=by
 have h:bg5 (cp1 q)=bg6 ([.str q.key]++([.int q.e.op,.int q.e.v.k,.int q.e.v.n,.int q.e.v.d,.str q.e.v.s,.sl (kids q.e.v),.str q.e.nm,.bool q.e.ds,.sl (by4 q.e)]++ [])):=by
  show bg5 (.agg _)=_;rw[bg5];rfl
 rw[h,ej0]
 have h2:1≤bg6 [D.str q.key]:=by
  show 1≤bg6 [.imm (.string q.key)];rw[bg6,bg5];omega
 omega
theorem ej2(x:SIt):bg5 (by6 x.e)≤bg5 (cp7 x)∧1≤bg5 (cp7 x):=by
 have h:bg5 (cp7 x)=bg6 ([.str x.vr,.str x.key,.str x.lb,.bool x.off]++([.int x.e.op,.int x.e.v.k,.int x.e.v.n,.int x.e.v.d,.str x.e.v.s,.sl (kids x.e.v),.str x.e.nm,.bool x.e.ds,.sl (by4 x.e)]++ [])):=by
  show bg5 (.agg _)=_;rw[bg5];rfl
 rw[h,ej0]
 have h2:1≤bg6 [D.str x.vr,.str x.key,.str x.lb,.bool x.off]:=by
  show 1≤bg6 (.imm (.string x.vr)::_);rw[bg6,bg5];omega
 omega
theorem ej3(x:IT):bg5 (by6 x.e)≤bg5 (cp5 x)∧1≤bg5 (cp5 x)∧bg5 (by6 x.e)+1≤bg5 (cp5 x):=by
 have h:bg5 (cp5 x)=bg6 ([]++([.int x.e.op,.int x.e.v.k,.int x.e.v.n,.int x.e.v.d,.str x.e.v.s,.sl (kids x.e.v),.str x.e.nm,.bool x.e.ds,.sl (by4 x.e)]++ [.str x.asn])):=by
  show bg5 (.agg _)=_;rw[bg5];rfl
 rw[h,ej0]
 have h2:1≤bg6 [D.str x.asn]:=by
  show 1≤bg6 [.imm (.string x.asn)];rw[bg6,bg5];omega
 omega
theorem ej4(x:SK):bg5 (by6 x.e)≤bg5 (cp6 x)∧1≤bg5 (cp6 x):=by
 have h:bg5 (cp6 x)=bg6 ([]++([.int x.e.op,.int x.e.v.k,.int x.e.v.n,.int x.e.v.d,.str x.e.v.s,.sl (kids x.e.v),.str x.e.nm,.bool x.e.ds,.sl (by4 x.e)]++ [.bool x.dc])):=by
  show bg5 (.agg _)=_;rw[bg5];rfl
 rw[h,ej0]
 have h2:1≤bg6 [D.bool x.dc]:=by
  have h3:bg5 (D.bool x.dc)=1:=by show bg5 (.imm (.bool x.dc))=1;simp[bg5]
  rw[bg6,h3];omega
 omega
theorem ej5(n:NP):3≤bg5 (cp2 n)∧bg6 (n.ps.map cp1)≤bg5 (cp2 n):=by
 have h:bg5 (cp2 n)=n.vr.size+1+(bg6 (n.lb.map D.str)+1+(bg6 (n.ps.map cp1)+1)):=by
  show bg5 (.agg [.imm (.string n.vr),.sl (n.lb.map .str),.sl (n.ps.map cp1)])=_;simp only[bg5,bg6]<;>omega
 omega
theorem ej6(n:EP):3≤bg5 (cp3 n)∧bg6 (n.ps.map cp1)≤bg5 (cp3 n):=by
 have h:bg5 (cp3 n)=n.vr.size+1+(bg6 (n.ty.map D.str)+1+(4+(bg6 (n.ps.map cp1)+1))):=by
  show bg5 (.agg [.imm (.string n.vr),.sl (n.ty.map .str),.int n.dir,.int n.mode,.int n.mn,.int n.mx,.sl (n.ps.map cp1)])=_;simp only[bg5,bg6,D.int]<;>omega
 omega
theorem ej7(p:PA):bg5 (cp4 p)=p.vr.size+1+(bg6 (p.ns.map cp2)+1+(bg6 (p.es.map cp3)+1)):=by
 show bg5 (.agg [.imm (.string p.vr),.sl (p.ns.map cp2),.sl (p.es.map cp3)])=_;simp only[bg5,bg6]<;>omega
theorem ej8:∀(ns:List NP) (es:List EP),(do6 ns es).length=ns.length+es.length
 |[],es=>by rw[do6];simp
 |n::r,[]=>by rw[do6];simp
 |n::r,e::q=>by
  have:=ej8 r q;rw[do6];simp only[fp5];omega
theorem ej9:∀l:List PA,3*(do7 l).length≤bg6 (l.map cp4)
 |[]=>by simp[do7]
 |p::r=>by
  have ih:=ej9 r;have h:=ej7 p;have h1:=ei7 3 (L:=p.ns.map cp2) fun d hd=>by obtain⟨n,-,rfl⟩:=fq8.1 hd;exact(ej5 n).1
  have h2:=ei7 3 (L:=p.es.map cp3) fun d hd=>by obtain⟨n,-,rfl⟩:=fq8.1 hd;exact(ej6 n).1
  rw[fp6]at h1 h2;have e:(do7 (p::r)).length=(do6 p.ns p.es).length+1+(do7 r).length:=by unfold do7;rw[fs2,fp4,fp4];rfl
  rw[e,ej8,fs1,bg6];omega
theorem ek0:∀l:List PA,bg6 ((eh5 l).map cp1)≤bg6 (l.map cp4)
 |[]=>fq7 _
 |p::r=>by
  have ih:=ek0 r;have h:=ej7 p
  have kn:∀L:List NP,bg6 ((L.flatMap NP.ps).map cp1)≤bg6 (L.map cp2):=by
   intro L
   induction L with
   |nil=>exact fq7 _
   |cons n q ihq=>
    have:=(ej5 n).2;rw[fs2,fu3,bg7,fs1,bg6];omega
  have ke:∀L:List EP,bg6 ((L.flatMap EP.ps).map cp1)≤bg6 (L.map cp3):=by
   intro L
   induction L with
   |nil=>exact fq7 _
   |cons n q ihq=>
    have:=(ej6 n).2;rw[fs2,fu3,bg7,fs1,bg6];omega
  have h1:=kn p.ns;have h2:=ke p.es;have e:eh5 (p::r)=(p.ns.flatMap NP.ps++p.es.flatMap EP.ps)++eh5 r:=by unfold eh5;rw[fs2]
  rw[e,fu3,fu3,bg7,bg7,fs1,bg6];omega
theorem ek1:∀(ns:List NP) (es:List EP),(cr3 (cq8 ns es)).length≤(ns.flatMap NP.ps).length+(es.flatMap EP.ps).length∧∀e∈cr3 (cq8 ns es),∃q∈ns.flatMap NP.ps++es.flatMap EP.ps,e=q.e
 |[],es=>⟨fr4 _,fun e h=>by rw[cq8]at h;cases h⟩
 |n::r,[]=>by
  obtain⟨h1,h2⟩:=ek1 r [];have e0:cr3 (cq8 (n::r) [])=n.ps.map (fun p=>p.e)++cr3 (cq8 r []):=by rw[cq8];unfold cr3;rw[fs2];rfl
  rw[e0];refine⟨by simp only[fp4,fp6,fs2,fx1,fq0]at*;omega,fun e he=>?_⟩;rcases fr6.1 he with he|he
  ·obtain⟨q,hq,rfl⟩:=fq8.1 he;exact⟨q,by simp[hq],rfl⟩
  ·obtain⟨q,hq,rfl⟩:=h2 e he;exact⟨q,by rw[fs2,fs0];exact fr6.2 (.inr hq),rfl⟩
 |n::r,x::q=>by
  obtain⟨h1,h2⟩:=ek1 r q;have e0:cr3 (cq8 (n::r) (x::q))=n.ps.map (fun p=>p.e)++(x.ps.map (fun p=>p.e)++cr3 (cq8 r q)):=by rw[cq8];unfold cr3;rw[fs2,fs2];rfl
  rw[e0];refine⟨by simp only[fp4,fp6,fs2]at*;omega,fun e he=>?_⟩;rcases fr6.1 he with he|he
  ·obtain⟨u,hu,rfl⟩:=fq8.1 he;exact⟨u,by simp[hu],rfl⟩
  ·rcases fr6.1 he with he|he
   ·obtain⟨u,hu,rfl⟩:=fq8.1 he;exact⟨u,by simp[hu],rfl⟩
   ·obtain⟨u,hu,rfl⟩:=h2 e he;refine⟨u,?_,rfl⟩;rw[fs2,fs2];rcases fr6.1 hu with hu|hu
    ·exact fr6.2 (.inl (fr6.2 (.inr hu)))
    ·exact fr6.2 (.inr (fr6.2 (.inr hu)))
theorem ek2{α β:Type}{f:α→List β}{x:α}:∀{l:List α},x∈l→(f x).length≤(l.flatMap f).length
 |a::r,h=>by
  rw[fs2,fp4];rcases fq1.1 h with rfl|h
  ·omega
  ·have:=ek2 (f:=f) h;omega
theorem ek3(c:CL):bg6 (c.ps.map cp4)+bg6 (by5 c.wh)+bg5 (by6 c.e)+bg6 (c.it.map cp5)+bg6 (c.od.map cp6)+bg6 (c.st.map cp7)+bg6 (c.ns.map D.str)≤bg5 (cp8 c):=by
 have h:bg5 (cp8 c)=bg6 ([.int c.k,.bool c.opt,.bool c.ds,.sl (c.ps.map cp4),.sl (by5 c.wh)]++([.int c.e.op,.int c.e.v.k,.int c.e.v.n,.int c.e.v.d,.str c.e.v.s,.sl (kids c.e.v),.str c.e.nm,.bool c.e.ds,.sl (by4 c.e)]++ [.str c.nm,.sl (c.it.map cp5),.sl (c.od.map cp6),.int c.sk,.int c.lm,.sl (c.st.map cp7),.sl (c.ns.map .str)])):=by
  show bg5 (.agg _)=_;rw[bg5];rfl
 rw[h,ej0];simp only[bg5,bg6];omega
theorem ek4{e:Ex}(h:bg5 (by6 e)≤1048576):dr5 e:=by
 have h1:=dd0 e;have h2:=dd1 e;exact⟨by omega,by omega⟩
theorem ek5{e:Ex}(h:bg5 (by6 e)≤1048576):smE e:=by
 have h1:=dd0 e;show nd e≤1000000;omega
theorem ek6{c:CL}(h:bg5 (cp8 c)≤1048576):SmC c:=by
 have hb:=ek3 c;have hn:=ej9 c.ps;have hp:=ek0 c.ps;have hpl:=ei7 1 (L:=(eh5 c.ps).map cp1) fun d hd=>by obtain⟨q,-,rfl⟩:=fq8.1 hd;exact(ej1 q).2
 rw[fp6]at hpl
 have hq:∀q∈eh5 c.ps,bg5 (by6 q.e)≤1048576:=fun q hq=>by
  have h1:=ei6 (fs7 (f:=cp1) hq);have h2:=(ej1 q).1;omega
 have hw:∀e∈c.wh,bg5 (by6 e)≤1048576:=fun e he=>by
  have h1:=ei6 (L:=by5 c.wh) (d:=by6 e) (by rw[by7];exact fs7 (f:=by6) he);omega
 have hpa:∀p∈c.ps,bg6 (p.ns.map cp2)+bg6 (p.es.map cp3)≤1048576:=fun p hp=>by
  have h1:=ei6 (fs7 (f:=cp4) hp);rw[ej7]at h1;omega
 have hne:∀p∈c.ps,p.ns.length≤1000000∧p.es.length≤1000000:=fun p hp=>by
  have h0:=hpa p hp;have h1:=ei7 3 (L:=p.ns.map cp2) fun d hd=>by obtain⟨n,-,rfl⟩:=fq8.1 hd;exact(ej5 n).1
  have h2:=ei7 3 (L:=p.es.map cp3) fun d hd=>by obtain⟨n,-,rfl⟩:=fq8.1 hd;exact(ej6 n).1
  rw[fp6]at h1 h2;omega
 have hpp:9*(eh5 c.ps).length≤1048576:=by
  have h1:=ei7 9 (L:=(eh5 c.ps).map cp1) fun d hd=>by
   obtain⟨q,-,rfl⟩:=fq8.1 hd;have h2:=(ej1 q).1;have h3:=dd0 q.e;have h4:1≤nd q.e:=by rw[cj4];omega
   omega
  rw[fp6]at h1;omega
 refine⟨⟨fun p hpm=>?_,fun e he=>ek4 (hw e he),ek4 Oa,fun x hx=>?_,fun x hx=>?_,fun x hx=>?_⟩,fun q h=>ek5 (hq q h),by omega,fun e he=>ek5 (hw e he),by omega,hne⟩
 ·have hg:=ek1 p.ns p.es;have hsub:∀q∈p.ns.flatMap NP.ps++p.es.flatMap EP.ps,q∈eh5 c.ps:=fun q hqm=>fw3.2 ⟨p,hpm,hqm⟩
  have hll:(p.ns.flatMap NP.ps).length+(p.es.flatMap EP.ps).length≤(eh5 c.ps).length:=by
   have:=ek2 (f:=fun p:PA=>p.ns.flatMap NP.ps++p.es.flatMap EP.ps) hpm;rw[fp4]at this;exact this
  refine⟨(hne p hpm).1,by omega,fun e he=>?_⟩;obtain⟨q,hqm,rfl⟩:=hg.2 e he;exact ek4 (hq q (hsub q hqm))
 ·have h1:=ei6 (fs7 (f:=cp5) hx);have h2:=(ej3 x).1;exact ek4 Oa
 ·have h1:=ei6 (fs7 (f:=cp6) hx);have h2:=(ej4 x).1;exact ek4 Oa
 ·have h1:=ei6 (fs7 (f:=cp7) hx);have h2:=(ej2 x).1;exact ek4 Oa
theorem ek7(b:PB)(K:List D):bg6 K+bg6 (b.cj.vs.map D.str)+bg6 (b.cj.as.map cd8)+bg5 (cp8 b.cl)+bg5 (by6 b.e)+bg6 (b.it.map cp5)+bg6 (b.od.map cp6)+5≤bg5 (dn5 b K):=by
 have hc:bg5 (cp8 b.cl)=bg6 [.int b.cl.k,.bool b.cl.opt,.bool b.cl.ds,.sl (b.cl.ps.map cp4),.sl (by5 b.cl.wh),.int b.cl.e.op,.int b.cl.e.v.k,.int b.cl.e.v.n,.int b.cl.e.v.d,.str b.cl.e.v.s,.sl (kids b.cl.e.v),.str b.cl.e.nm,.bool b.cl.e.ds,.sl (by4 b.cl.e),.str b.cl.nm,.sl (b.cl.it.map cp5),.sl (b.cl.od.map cp6),.int b.cl.sk,.int b.cl.lm,.sl (b.cl.st.map cp7),.sl (b.cl.ns.map .str)]:=by
  show bg5 (.agg _)=_;rw[bg5]
 have h:bg5 (dn5 b K)=bg6 ([.int b.op,.sl K,.sl (b.cj.vs.map .str),.sl (b.cj.as.map cd8)]++([.int b.cl.k,.bool b.cl.opt,.bool b.cl.ds,.sl (b.cl.ps.map cp4),.sl (by5 b.cl.wh),.int b.cl.e.op,.int b.cl.e.v.k,.int b.cl.e.v.n,.int b.cl.e.v.d,.str b.cl.e.v.s,.sl (kids b.cl.e.v),.str b.cl.e.nm,.bool b.cl.e.ds,.sl (by4 b.cl.e),.str b.cl.nm,.sl (b.cl.it.map cp5),.sl (b.cl.od.map cp6),.int b.cl.sk,.int b.cl.lm,.sl (b.cl.st.map cp7),.sl (b.cl.ns.map .str)]++([.int b.e.op,.int b.e.v.k,.int b.e.v.n,.int b.e.v.d,.str b.e.v.s,.sl (kids b.e.v),.str b.e.nm,.bool b.e.ds,.sl (by4 b.e)]++ [.str b.nm,.sl (b.it.map cp5),.sl (b.od.map cp6),.int b.sk,.int b.lm]))):=by
  show bg5 (.agg _)=_;rw[bg5];rfl
 rw[h,bg7,bg7,←hc,bg7,ei9];simp only[bg5,bg6,D.int,D.str];omega
theorem ek8{b:PB}{K:List D}(h:bg5 (dn5 b K)≤1048576)(hv:b.cj.vs.length≤1000000):SmB b:=by
 have hb:=ek7 b K;have h1:=ei8 b.cj.vs
 have h2:=ei7 3 (L:=b.cj.as.map cd8) fun d hd=>by
  obtain⟨a,-,rfl⟩:=fq8.1 hd;unfold cd8;simp only[bg5,bg6];omega
 rw[fp6]at h2;have hcl:bg5 (cp8 b.cl)≤1048576:=Oa
 have hc:=ek3 b.cl;have hs:=ek6 hcl;have n1:=ej9 b.cl.ps;have l1:=ei7 1 (L:=b.cl.ps.map cp4) fun d hd=>by obtain⟨p,-,rfl⟩:=fq8.1 hd;rw[ej7];omega
 have l2:=ei7 1 (L:=by5 b.cl.wh) fun d hd=>by
  rw[by7]at hd;obtain⟨e,-,rfl⟩:=fq8.1 hd;have h3:=dd0 e;have h4:1≤nd e:=by rw[cj4];omega
  omega
 have l3:=ei7 1 (L:=b.cl.it.map cp5) fun d hd=>by obtain⟨p,-,rfl⟩:=fq8.1 hd;exact(ej3 p).2.1
 have l4:=ei7 1 (L:=b.cl.od.map cp6) fun d hd=>by obtain⟨p,-,rfl⟩:=fq8.1 hd;exact(ej4 p).2
 have l5:=ei7 1 (L:=b.cl.st.map cp7) fun d hd=>by obtain⟨p,-,rfl⟩:=fq8.1 hd;exact(ej2 p).2
 have l6:=ei8 b.cl.ns;rw[fp6]at l1 l3 l4 l5;rw[bz2]at l2;refine⟨hv,by omega,by unfold du8;omega,ek5 Oa,fun x hx=>?_,fun x hx=>?_,hs.nm,hs.ne,fun _ cols hcols=>ei4 b.cl cols hs hcols⟩
 ·have g1:=ei6 (fs7 (f:=cp5) hx);have g2:=(ej3 x).1;exact ek5 Oa
 ·have g1:=ei6 (fs7 (f:=cp6) hx);have g2:=(ej4 x).1;exact ek5 Oa
mutual
def vsP:Pl→Nat
 |.mk b ks=>b.cj.vs.length+ek9 ks
def ek9:List Pl→Nat
 |[]=>0
 |p::r=>vsP p+ek9 r
end
theorem el0:∀{l:List Pl} {p:Pl},p∈l→vsP p≤ek9 l
 |a::r,p,h=>by
  rw[ek9];rcases fq1.1 h with rfl|h
  ·omega
  ·have:=el0 h;omega
theorem el1(p:Pl):bg5 (dn6 p)≤1048576→vsP p≤100000→alB SmB p∧5*szP p≤bg5 (dn6 p)∧2*cwP p≤2*vsP p+bg5 (dn6 p):=by
 refine dn4 (P:=fun p=>bg5 (dn6 p)≤1048576→vsP p≤100000→alB SmB p∧5*szP p≤bg5 (dn6 p)∧2*cwP p≤2*vsP p+bg5 (dn6 p)) (fun b ks ih h hv=>?_) p;rw[dn9]at h ⊢;rw[vsP]at hv ⊢;have hb:=ek7 b (ks.map dn6);have hs:=ek8 h Oa
 have hk:∀x∈ks,bg5 (dn6 x)≤1048576∧vsP x≤100000:=fun x hx=>by
  have:=ei6 (fs7 (f:=dn6) hx);have:=el0 hx;omega
 have key:∀L:List Pl,(∀x∈L,alB SmB x∧5*szP x≤bg5 (dn6 x)∧2*cwP x≤2*vsP x+bg5 (dn6 x))→ea6 SmB L∧5*dq1 L≤bg6 (L.map dn6)∧2*ea9 L≤2*ek9 L+bg6 (L.map dn6):=by
  intro L
  induction L with
  |nil=>intro _;exact⟨trivial,fq7 _,fr4 _⟩
  |cons a r ihr=>
   intro hx;obtain⟨a1,a2,a3⟩:=hx a Oc;obtain⟨b1,b2,b3⟩:=ihr fun x hm=>hx x (by simp[hm])
   rw[dq1,ea9,ek9,fs1,bg6];exact⟨⟨a1,b1⟩,by omega,by omega⟩
 obtain⟨k1,k2,k3⟩:=key ks fun x hx=>ih x hx (hk x hx).1 (hk x hx).2
 have n1:=ej9 b.cl.ps;have hc:=ek3 b.cl
 have l3:=ei7 10 (L:=b.it.map cp5) fun d hd=>by
  obtain⟨p,-,rfl⟩:=fq8.1 hd;have h2:=(ej3 p).2.2;have h3:=dd0 p.e;have h4:1≤nd p.e:=by rw[cj4];omega
  omega
 rw[fp6]at l3;rw[alB,szP,cwP];refine⟨⟨hs,k1⟩,by omega,?_⟩;unfold cwB;omega
theorem el2(p:Pl)(h:bg5 (dn6 p)≤1048576)(hv:vsP p≤100000):Ev E 10 [dn6 p] (.tup [.sl ((dq2 p).1.map .str),.int (dq2 p).2]):=by
 obtain⟨h1,h2,h3⟩:=el1 p h hv;exact ei5 p h1 Oa Oa
end Go.Proofs.YtndgolmgaenlfaaGreatDoor
namespace Go.Proofs.YtndgolmgaenlfaaGreatDoor
set_option maxRecDepth 4000
open Go Go.Abs Go.Val Go.RowKit Go.Proofs.Tryz
attribute [local irreducible] go SGo an1 Ev au8 EvO EvS RGo RGw PGo
theorem el3{p:ByteArray→Bool}:∀{l:List ByteArray} {i:Nat},i≤l.length→(∀x∈l.take i,p x=true)→(∀x,l[i]? =some x→p x=false)→l.takeWhile p=l.take i∧l.dropWhile p=l.drop i
 |[],i,h,_,_=>by
  obtain rfl:i=0:=by simpa using h
  exact⟨rfl,rfl⟩
 |a::r,0,_,_,h=>by
  have ha:=h a rfl;exact⟨List.takeWhile_cons_of_neg (by rw[ha];decide),List.dropWhile_cons_of_neg (by rw[ha];decide)⟩
 |a::r,i+1,h,h1,h2=>by
  have ha:=h1 a Oc;have ih:=el3 (p:=p) (l:=r) (i:=i) (by simpa using h) (fun x hx=>h1 x (by simp[hx])) (fun x hx=>h2 x (by simpa using hx));rw[List.takeWhile_cons_of_pos ha,List.dropWhile_cons_of_pos ha,ih.1,ih.2];exact⟨rfl,rfl⟩
def el4(l:List ByteArray)(s:ByteArray)(i j:Nat):List ByteArray:=l.take i++s::((l.take j).drop i).filter fun x=> !(x.toList==s.toList)
theorem el5{l:List ByteArray}{s:ByteArray}{i:Nat}(hinc:cz1 l)(hi:i≤l.length)(h1:∀x∈l.take i,ltP x s=true)(h2:∀x,l[i]? =some x→ltP x s=false):el4 l s i l.length=cz2 s l:=by
 obtain⟨a,b⟩:=el3 (p:=fun x=>ltP x s) hi h1 h2;rw[da1 s hinc,a,b];unfold el4;rw[List.take_length]
theorem el6{l:List ByteArray}{s x:ByteArray}{i j:Nat}(h:l[j]? =some x)(hij:i≤j):el4 l s i (j+1)=bif x.toList==s.toList then el4 l s i j else el4 l s i j++ [x]:=by
 have hlt:=(fp7.1 h).1;unfold el4;rw[fs5,h]
 have hd:(l.take j++(some x).toList).drop i=(l.take j).drop i++ [x]:=by
  rw[List.drop_append_of_le_length (by rw[fr9];omega)];rfl
 rw[hd,List.filter_append]
 cases hc:x.toList==s.toList with
 |true=>simp[hc]
 |false=>simp[hc]
theorem el7{l:List ByteArray}{s:ByteArray}{i:Nat}:el4 l s i i=l.take i++ [s]:=by
 unfold el4;rw[fp8 (by rw[fr9];omega)];rfl
theorem el8(l:List ByteArray)(s:ByteArray)(i j:Nat):(el4 l s i j).length≤2*l.length+1:=by
 unfold el4;have h1:=fx2 (fun x:ByteArray=> !(x.toList==s.toList)) ((l.take j).drop i);have h2:((l.take j).drop i).length≤l.length:=by rw[fw9,fr9];omega
 have h3:(l.take i).length≤l.length:=by rw[fr9];omega
 rw[fp4,fp5];omega
structure SPu1(l:List ByteArray)(s:ByteArray) where
 i:Nat
 hi:i≤l.length
 ok:∀x∈l.take i,ltP x s=true
structure SPu2(l:List ByteArray)(i:Nat) where
 j:Nat
 h1:i≤j
 hj:j≤l.length
theorem el9(l:List ByteArray)(s:ByteArray)(hinc:cz1 l)(hmax:l.length≤3000000):Ev E 276 [.sl (l.map .str),.str s] (.d (.sl ((cz2 s l).map .str))):=by
 have hle:(l.map D.str).length=l.length:=Oc
 refine ye2 func276 ntmps276 fun _ _ _=>?_
 repeat'(refine yz ?_)
 refine ac7 (α:=SPu1 l s) (fun p=>⟨[(0,.d (.sl (l.map .str))),(1,.d (.str s)),(5,bf9 0 ((l.take p.i).map .str)),(6,.d (.int p.i))],aw7 9 1 ((l.take p.i).map .str)⟩) (fun p=>l.length-p.i) ⟨0,by omega,fun _ h=>by cases h⟩ (zle 0) ?_;rintro⟨i,hi,ok⟩;dsimp only;have hln:((l.take i).map D.str).length≤3000000:=by rw[fp6,fr9];omega
 rcases fp2 i l.length with hlt|hge
 ·have g1:decide ((i:Int)<((l.map D.str).length:Int))=true:=by rw[hle];simpa using hlt
  have hx0:=fp1 hlt;generalize l[i]=x at hx0;have hx:=cv3 (f:=D.str) hx0
  cases hc:ltP x s with
  |true=>
   have hc2:Op.bytesLess x.toList s.toList=true:=hc;have htk:(l.take (i+1)).map D.str=(l.take i).map D.str++ [.str x]:=by rw[fs5,hx0,fu3];rfl
   have hok:∀y∈l.take (i+1),ltP y s=true:=by
    rw[fs5,hx0];intro y hy;rcases fr6.1 hy with h|h
    ·exact ok y h
    ·obtain rfl:y=x:=by simpa using h
     exact hc
   generalize(l.take i).map D.str=K at*
   match K,hln with
   |[],hln=>
    dsimp only[bf9,aw7,List.append,HAppend.hAppend,Append.append]
    repeat'(first|refine yz ?_|refine yi (.str x) hx ?_|(refine qS rfl ⟨by simp,fun d hd=>by(obtain rfl:=fq2.1 hd;rfl),by(show _*16≤140737488355328;simp<;>omega),by(show _≤9223372036854775807;simp<;>omega)⟩ ?_)|refine yx ?_)
    refine ac1 ?_;refine⟨⟨i+1,by omega,hok⟩,by dsimp only;omega,?_⟩;dsimp only;rw[htk];exact(bh0 [0])
   |d::r,hln=>
    simp only[fp5]at hln;dsimp only[bf9,aw7,List.append,HAppend.hAppend,Append.append]
    repeat'(first|refine yz ?_|refine yi (.str x) hx ?_|(refine qS rfl ⟨by simp,fun d hd=>by(obtain rfl:=fq2.1 hd;rfl),by(show _*16≤140737488355328;simp<;>omega),by(show _≤9223372036854775807;simp<;>omega)⟩ ?_)|refine yx ?_)
    refine ac1 ?_;refine⟨⟨i+1,by omega,hok⟩,by dsimp only;omega,?_⟩;dsimp only;rw[htk];exact(bh0 [1])
  |false=>
   have hc2:Op.bytesLess x.toList s.toList=false:=hc;have hex:∀y,l[i]? =some y→ltP y s=false:=fun y h=>by rw[hx0]at h;cases h;exact hc
   generalize hK:(l.take i).map D.str=K at*
   match K,hK,hln with
   |[],hK,hln=>
    dsimp only[bf9,aw7,List.append,HAppend.hAppend,Append.append]
    repeat'(first|refine yz ?_|refine yi (.str x) hx ?_|(refine qS rfl ⟨by simp,fun d hd=>by(obtain rfl:=fq2.1 hd;rfl),by(show _*16≤140737488355328;simp<;>omega),by(show _≤9223372036854775807;simp<;>omega)⟩ ?_)|refine yx ?_)
    refine ac7 (α:=SPu2 l i) (fun p=>⟨[(0,.d (.sl (l.map .str))),(1,.d (.str s)),(5,.own 0),(6,.d (.int p.j))],[.row 9 1 ((el4 l s i p.j).map .str)]⟩) (fun p=>l.length-p.j) ⟨i,by omega,hi⟩ (by dsimp only;rw[el7,fu3];rw[hK];exact(bh0 [0])) ?_;rintro⟨j,hij,hj⟩;dsimp only;have hrl:=el8 l s i j;rcases fp2 j l.length with hlt2|hge2
    ·have g2:decide ((j:Int)<((l.map D.str).length:Int))=true:=by rw[hle];simpa using hlt2
     have hy0:=fp1 hlt2;generalize l[j]=y at hy0;have hy:=cv3 (f:=D.str) hy0;have hat:=el6 (s:=s) hy0 hij
     cases hq:y.toList==s.toList with
     |true=>
      rw[hq,cond_true]at hat;have hq2:(!(y.toList==s.toList))=false:=by rw[hq];rfl
      repeat'(first|refine yz ?_|refine yi (.str y) hy ?_)
      refine ac1 ?_;refine⟨⟨j+1,by omega,by omega⟩,by dsimp only;omega,?_⟩;dsimp only;rw[hat];exact(zle 1)
     |false=>
      rw[hq,cond_false]at hat;have hq2:(!(y.toList==s.toList))=true:=by rw[hq];rfl
      have hrm:((el4 l s i j).map D.str).length≤2*l.length+1:=by rw[fp6];exact hrl
      repeat'(first|refine yz ?_|refine yi (.str y) hy ?_|(refine qS rfl ⟨by simp,fun d hd=>by(obtain rfl:=fq2.1 hd;rfl),by(show _*16≤140737488355328;simp<;>omega),by(show _≤9223372036854775807;simp<;>omega)⟩ ?_))
      refine ac1 ?_;refine⟨⟨j+1,by omega,by omega⟩,by dsimp only;omega,?_⟩;dsimp only;rw[hat,fu3];exact(bh0 [1])
    ·have g2:decide ((j:Int)<((l.map D.str).length:Int))=false:=by rw[hle];simp;omega
     obtain rfl:j=l.length:=Oa
     rw[el5 hinc hi ok hex];refine au2 0 rfl ?_;dsimp only[ar6,ar5,ar8,ar7,List.map,List.set]
     exact Ok
   |d::r,hK,hln=>
    simp only[fp5]at hln;dsimp only[bf9,aw7,List.append,HAppend.hAppend,Append.append]
    repeat'(first|refine yz ?_|refine yi (.str x) hx ?_|(refine qS rfl ⟨by simp,fun d hd=>by(obtain rfl:=fq2.1 hd;rfl),by(show _*16≤140737488355328;simp<;>omega),by(show _≤9223372036854775807;simp<;>omega)⟩ ?_)|refine yx ?_)
    refine ac7 (α:=SPu2 l i) (fun p=>⟨[(0,.d (.sl (l.map .str))),(1,.d (.str s)),(5,.own 0),(6,.d (.int p.j))],[.row 9 1 ((el4 l s i p.j).map .str)]⟩) (fun p=>l.length-p.j) ⟨i,by omega,hi⟩ (by dsimp only;rw[el7,fu3];rw[hK];exact(bh0 [1])) ?_;rintro⟨j,hij,hj⟩;dsimp only;have hrl:=el8 l s i j;rcases fp2 j l.length with hlt2|hge2
    ·have g2:decide ((j:Int)<((l.map D.str).length:Int))=true:=by rw[hle];simpa using hlt2
     have hy0:=fp1 hlt2;generalize l[j]=y at hy0;have hy:=cv3 (f:=D.str) hy0;have hat:=el6 (s:=s) hy0 hij
     cases hq:y.toList==s.toList with
     |true=>
      rw[hq,cond_true]at hat;have hq2:(!(y.toList==s.toList))=false:=by rw[hq];rfl
      repeat'(first|refine yz ?_|refine yi (.str y) hy ?_)
      refine ac1 ?_;refine⟨⟨j+1,by omega,by omega⟩,by dsimp only;omega,?_⟩;dsimp only;rw[hat];exact(zle 1)
     |false=>
      rw[hq,cond_false]at hat;have hq2:(!(y.toList==s.toList))=true:=by rw[hq];rfl
      have hrm:((el4 l s i j).map D.str).length≤2*l.length+1:=by rw[fp6];exact hrl
      repeat'(first|refine yz ?_|refine yi (.str y) hy ?_|(refine qS rfl ⟨by simp,fun d hd=>by(obtain rfl:=fq2.1 hd;rfl),by(show _*16≤140737488355328;simp<;>omega),by(show _≤9223372036854775807;simp<;>omega)⟩ ?_))
      refine ac1 ?_;refine⟨⟨j+1,by omega,by omega⟩,by dsimp only;omega,?_⟩;dsimp only;rw[hat,fu3];exact(bh0 [1])
    ·have g2:decide ((j:Int)<((l.map D.str).length:Int))=false:=by rw[hle];simp;omega
     obtain rfl:j=l.length:=Oa
     rw[el5 hinc hi ok hex];refine au2 0 rfl ?_;dsimp only[ar6,ar5,ar8,ar7,List.map,List.set]
     exact Ok
 ·have g1:decide ((i:Int)<((l.map D.str).length:Int))=false:=by rw[hle];simp;omega
  have hex:∀y,l[i]? =some y→ltP y s=false:=fun y h=>by rw[ft2 hge]at h;cases h
  generalize hK:(l.take i).map D.str=K at*
  match K,hK,hln with
  |[],hK,hln=>
   dsimp only[bf9,aw7,List.append,HAppend.hAppend,Append.append]
   repeat'(first|refine yz ?_|(refine qS rfl ⟨by simp,fun d hd=>by(obtain rfl:=fq2.1 hd;rfl),by(show _*16≤140737488355328;simp<;>omega),by(show _≤9223372036854775807;simp<;>omega)⟩ ?_)|refine yx ?_)
   refine ac7 (α:=SPu2 l i) (fun p=>⟨[(0,.d (.sl (l.map .str))),(1,.d (.str s)),(5,.own 0),(6,.d (.int p.j))],[.row 9 1 ((el4 l s i p.j).map .str)]⟩) (fun p=>l.length-p.j) ⟨i,by omega,hi⟩ (by dsimp only;rw[el7,fu3];rw[hK];exact(bh0 [0])) ?_;rintro⟨j,hij,hj⟩;dsimp only;have hrl:=el8 l s i j;rcases fp2 j l.length with hlt2|hge2
   ·have g2:decide ((j:Int)<((l.map D.str).length:Int))=true:=by rw[hle];simpa using hlt2
    have hy0:=fp1 hlt2;generalize l[j]=y at hy0;have hy:=cv3 (f:=D.str) hy0;have hat:=el6 (s:=s) hy0 hij
    cases hq:y.toList==s.toList with
    |true=>
     rw[hq,cond_true]at hat;have hq2:(!(y.toList==s.toList))=false:=by rw[hq];rfl
     repeat'(first|refine yz ?_|refine yi (.str y) hy ?_)
     refine ac1 ?_;refine⟨⟨j+1,by omega,by omega⟩,by dsimp only;omega,?_⟩;dsimp only;rw[hat];exact(zle 1)
    |false=>
     rw[hq,cond_false]at hat;have hq2:(!(y.toList==s.toList))=true:=by rw[hq];rfl
     have hrm:((el4 l s i j).map D.str).length≤2*l.length+1:=by rw[fp6];exact hrl
     repeat'(first|refine yz ?_|refine yi (.str y) hy ?_)
     refine ac1 ?_;refine⟨⟨j+1,by omega,by omega⟩,by dsimp only;omega,?_⟩;dsimp only;rw[hat,fu3];exact(bh0 [1])
   ·have g2:decide ((j:Int)<((l.map D.str).length:Int))=false:=by rw[hle];simp;omega
    obtain rfl:j=l.length:=Oa
    rw[el5 hinc hi ok hex];refine au2 0 rfl ?_;dsimp only[ar6,ar5,ar8,ar7,List.map,List.set]
    exact Ok
  |d::r,hK,hln=>
   simp only[fp5]at hln;dsimp only[bf9,aw7,List.append,HAppend.hAppend,Append.append]
   repeat'(first|refine yz ?_|(refine qS rfl ⟨by simp,fun d hd=>by(obtain rfl:=fq2.1 hd;rfl),by(show _*16≤140737488355328;simp<;>omega),by(show _≤9223372036854775807;simp<;>omega)⟩ ?_)|refine yx ?_)
   refine ac7 (α:=SPu2 l i) (fun p=>⟨[(0,.d (.sl (l.map .str))),(1,.d (.str s)),(5,.own 0),(6,.d (.int p.j))],[.row 9 1 ((el4 l s i p.j).map .str)]⟩) (fun p=>l.length-p.j) ⟨i,by omega,hi⟩ (by dsimp only;rw[el7,fu3];rw[hK];exact(bh0 [1])) ?_;rintro⟨j,hij,hj⟩;dsimp only;have hrl:=el8 l s i j;rcases fp2 j l.length with hlt2|hge2
   ·have g2:decide ((j:Int)<((l.map D.str).length:Int))=true:=by rw[hle];simpa using hlt2
    have hy0:=fp1 hlt2;generalize l[j]=y at hy0;have hy:=cv3 (f:=D.str) hy0;have hat:=el6 (s:=s) hy0 hij
    cases hq:y.toList==s.toList with
    |true=>
     rw[hq,cond_true]at hat;have hq2:(!(y.toList==s.toList))=false:=by rw[hq];rfl
     repeat'(first|refine yz ?_|refine yi (.str y) hy ?_)
     refine ac1 ?_;refine⟨⟨j+1,by omega,by omega⟩,by dsimp only;omega,?_⟩;dsimp only;rw[hat];exact(zle 1)
    |false=>
     rw[hq,cond_false]at hat;have hq2:(!(y.toList==s.toList))=true:=by rw[hq];rfl
     have hrm:((el4 l s i j).map D.str).length≤2*l.length+1:=by rw[fp6];exact hrl
     repeat'(first|refine yz ?_|refine yi (.str y) hy ?_)
     refine ac1 ?_;refine⟨⟨j+1,by omega,by omega⟩,by dsimp only;omega,?_⟩;dsimp only;rw[hat,fu3];exact(bh0 [1])
   ·have g2:decide ((j:Int)<((l.map D.str).length:Int))=false:=by rw[hle];simp;omega
    obtain rfl:j=l.length:=Oa
    rw[el5 hinc hi ok hex];refine au2 0 rfl ?_;dsimp only[ar6,ar5,ar8,ar7,List.map,List.set]
    exact Ok
theorem em0:∀l:List Ex,l.length≤ndL l
 |[]=>fq7 _
 |a::r=>by
  have h1:nd a=ndL a.ks+1:=cj4 a;have h2:=em0 r;simp only[fp5,ndL];omega
abbrev oXJ(d:D):aa5:=.var 33 (.w (.d d))
structure SUs1(n:Nat) where
 i:Nat
 hi:i≤n
theorem em1{acc l:List ByteArray}{i:Nat}{x:ByteArray}(h:l[i]? =some x):cz6 acc (l.take (i+1))=cz2 x (cz6 acc (l.take i)):=by
 rw[fs5,h,da0];rfl
def ruN(op:Int)(nm:ByteArray)(ks:List Ex)(i:Nat):List ByteArray:=cz6 [] ((bif op==2 then [nm]else [])++da2 (ks.take i))
theorem em2(op:Int)(nm:ByteArray)(ks:List Ex)(i:Nat):cz1 (ruN op nm ks i):=cz8 List.Pairwise.nil
theorem em3{op:Int}{nm:ByteArray}{ks:List Ex}{i:Nat}{x:Ex}(h:ks[i]? =some x):ruN op nm ks (i+1)=cz6 (ruN op nm ks i) (da3 x):=by
 have e:da2 (ks.take (i+1))=da2 (ks.take i)++usX x:=by
  rw[da6,da6,fs5,h,fw7];simp
 unfold ruN;rw[e,←fs0,da0];exact(cz9 (cz8 List.Pairwise.nil)).symm
theorem em4:∀l:List Ex,(da2 l).length≤ndL l
 |[]=>fq7 _
 |x::r=>by
  have h1:=da7 x;have h2:=em4 r;simp only[da2,fp4,ndL];omega
theorem em5:∀(l:List Ex) (i:Nat),ndL (l.take i)≤ndL l
 |[],i=>by simp
 |a::r,0=>by simp[ndL]
 |a::r,i+1=>by
  have:=em5 r i;simp only[List.take_succ_cons,ndL];omega
theorem em6(op:Int)(nm:ByteArray)(ks:List Ex)(i:Nat):(ruN op nm ks i).length≤ndL ks+1:=by
 have h1:=da9 ((bif op==2 then [nm]else [])++da2 (ks.take i)) [];have h2:=em4 (ks.take i);have h3:=em5 ks i;unfold ruN;rw[fp4]at h1;simp only[fq0]at h1
 cases hc:op==2 with
 |true=>rw[hc]at h1;simp only[cond_true,fp5,fq0]at h1;simp only[cond_true];omega
 |false=>rw[hc]at h1;simp only[cond_false,fq0]at h1;simp only[cond_false];omega
theorem em7(e:Ex):nd e≤1000000→Ev E 216 [by6 e] (.d (.sl ((da3 e).map .str))):=by
 refine bz5 (P:=fun e=>nd e≤1000000→Ev E 216 [by6 e] (.d (.sl ((da3 e).map .str)))) (fun op v nm ds ks ih hn=>?_) e;rw[cj4]at hn;have hn':ndL ks+1≤1000000:=hn;have hle:(by5 ks).length=ks.length:=bz2 ks;have hkl:=em0 ks;have hr:da3 (.mk op v nm ds ks)=ruN op nm ks ks.length:=by unfold da3 ruN;rw[usX,List.take_length]
 rw[hr];obtain⟨vk,vn,vd,vS,vl⟩:=v;show Ev E 216 [.agg [.int op,.int vk,.int vn,.int vd,.str vS,.sl (bn1 vl),.str nm,.bool ds,.sl (by5 ks)]] _;generalize bn1 vl=VL;have h0:=el9 [] nm List.Pairwise.nil Od;have e0:ruN op nm ks 0=bif op==2 then cz2 nm []else []:=by unfold ruN;cases op==2<;>rfl
 cases c1:op==2 with
 |true=>
  rw[c1,cond_true]at e0;refine ye1 func216 ntmps216 fun _ _ _=>?_
  repeat'(first|refine yz ?_|refine yp b276 h0 ?_)
  refine ac7 (α:=SUs1 ks.length) (fun p=>⟨[(1,.ptr 0 0),(3,.d (.sl ((ruN op nm ks p.i).map .str))),(4,.d (.int p.i))],[oXJ (.agg [.int op,.int vk,.int vn,.int vd,.str vS,.sl VL,.str nm,.bool ds,.sl (by5 ks)])]⟩) (fun p=>ks.length-p.i) ⟨0,by omega⟩ (by dsimp only;rw[e0];exact(zle 1)) ?_;rintro⟨i,hi⟩;dsimp only;rcases fp2 i ks.length with hlt|hge
  ·have g1:decide ((i:Int)<((by5 ks).length:Int))=true:=by rw[hle];simpa using hlt
   have hx0:=fp1 hlt;generalize ks[i]=x at hx0;have hx:(by5 ks)[(i:Int).toNat]? =some (by6 x):=bz0 (by rw[fr2];exact hx0);have hm:=fp3 hx0;have hcx:=ih x hm (by have:=cj5 hm;omega);have hul:=db0 x;have hnx:=cj5 hm;have hat:=em3 (op:=op) (nm:=nm) hx0;have hrl:=em6 op nm ks i;have hri:=em2 op nm ks i;generalize ruN op nm ks i=W at*;generalize da3 x=U at*;have hlu:(U.map D.str).length=U.length:=Oc
   repeat'(first|refine yz ?_|refine yi (by6 x) hx ?_|refine yp b216 hcx ?_)
   refine ac7 (α:=SUs1 U.length) (fun p=>⟨[(1,.ptr 0 0),(3,.d (.sl ((cz6 W (U.take p.i)).map .str))),(4,.d (.int i)),(5,.d (.sl (U.map .str))),(6,.d (.int p.i))],[oXJ (.agg [.int op,.int vk,.int vn,.int vd,.str vS,.sl VL,.str nm,.bool ds,.sl (by5 ks)])]⟩) (fun p=>U.length-p.i) ⟨0,by omega⟩ (zle 1) ?_;rintro⟨k,hk⟩;dsimp only;rcases fp2 k U.length with hlt2|hge2
   ·have g2:decide ((k:Int)<((U.map D.str).length:Int))=true:=by rw[hlu];simpa using hlt2
    have hy0:=fp1 hlt2;generalize U[k]=y at hy0;have hy:=cv3 (f:=D.str) hy0;have hil:=da9 (U.take k) W;have htl:(U.take k).length≤U.length:=by rw[fr9];omega
    have hcp:=el9 (cz6 W (U.take k)) y (cz8 hri) Oa;rw[←em1 hy0]at hcp
    repeat'(first|refine yz ?_|refine yi (.str y) hy ?_|refine yp b276 hcp ?_)
    refine ac1 ?_;exact⟨⟨k+1,by omega⟩,by dsimp only;omega,(zle 1)⟩
   ·have g2:decide ((k:Int)<((U.map D.str).length:Int))=false:=by rw[hlu];simp;omega
    rw[fq6 hge2]
    repeat'(refine yz ?_)
    refine ac1 ?_;refine⟨⟨i+1,by omega⟩,by dsimp only;omega,?_⟩;dsimp only;rw[hat];exact(zle 1)
  ·have g1:decide ((i:Int)<((by5 ks).length:Int))=false:=by rw[hle];simp;omega
   obtain rfl:i=ks.length:=Oa
   exact Ok
 |false=>
  rw[c1,cond_false]at e0;refine ye1 func216 ntmps216 fun _ _ _=>?_
  repeat'(refine yz ?_)
  refine bh7 3 rfl ?_;refine ac7 (α:=SUs1 ks.length) (fun p=>⟨[(1,.ptr 0 0),(3,.d (.sl ((ruN op nm ks p.i).map .str))),(4,.d (.int p.i))],[oXJ (.agg [.int op,.int vk,.int vn,.int vd,.str vS,.sl VL,.str nm,.bool ds,.sl (by5 ks)])]⟩) (fun p=>ks.length-p.i) ⟨0,by omega⟩ (by dsimp only;rw[e0];exact(zle 1)) ?_;rintro⟨i,hi⟩;dsimp only;rcases fp2 i ks.length with hlt|hge
  ·have g1:decide ((i:Int)<((by5 ks).length:Int))=true:=by rw[hle];simpa using hlt
   have hx0:=fp1 hlt;generalize ks[i]=x at hx0;have hx:(by5 ks)[(i:Int).toNat]? =some (by6 x):=bz0 (by rw[fr2];exact hx0);have hm:=fp3 hx0;have hcx:=ih x hm (by have:=cj5 hm;omega);have hul:=db0 x;have hnx:=cj5 hm;have hat:=em3 (op:=op) (nm:=nm) hx0;have hrl:=em6 op nm ks i;have hri:=em2 op nm ks i;generalize ruN op nm ks i=W at*;generalize da3 x=U at*;have hlu:(U.map D.str).length=U.length:=Oc
   repeat'(first|refine yz ?_|refine yi (by6 x) hx ?_|refine yp b216 hcx ?_)
   refine ac7 (α:=SUs1 U.length) (fun p=>⟨[(1,.ptr 0 0),(3,.d (.sl ((cz6 W (U.take p.i)).map .str))),(4,.d (.int i)),(5,.d (.sl (U.map .str))),(6,.d (.int p.i))],[oXJ (.agg [.int op,.int vk,.int vn,.int vd,.str vS,.sl VL,.str nm,.bool ds,.sl (by5 ks)])]⟩) (fun p=>U.length-p.i) ⟨0,by omega⟩ (zle 1) ?_;rintro⟨k,hk⟩;dsimp only;rcases fp2 k U.length with hlt2|hge2
   ·have g2:decide ((k:Int)<((U.map D.str).length:Int))=true:=by rw[hlu];simpa using hlt2
    have hy0:=fp1 hlt2;generalize U[k]=y at hy0;have hy:=cv3 (f:=D.str) hy0;have hil:=da9 (U.take k) W;have htl:(U.take k).length≤U.length:=by rw[fr9];omega
    have hcp:=el9 (cz6 W (U.take k)) y (cz8 hri) Oa;rw[←em1 hy0]at hcp
    repeat'(first|refine yz ?_|refine yi (.str y) hy ?_|refine yp b276 hcp ?_)
    refine ac1 ?_;exact⟨⟨k+1,by omega⟩,by dsimp only;omega,(zle 1)⟩
   ·have g2:decide ((k:Int)<((U.map D.str).length:Int))=false:=by rw[hlu];simp;omega
    rw[fq6 hge2]
    repeat'(refine yz ?_)
    refine ac1 ?_;refine⟨⟨i+1,by omega⟩,by dsimp only;omega,?_⟩;dsimp only;rw[hat];exact(zle 1)
  ·have g1:decide ((i:Int)<((by5 ks).length:Int))=false:=by rw[hle];simp;omega
   obtain rfl:i=ks.length:=Oa
   exact Ok
abbrev oPK(b:PB)(K:List D):aa5:=.var 40 (.w (.d (dn5 b K)))
theorem em8(p:Pl):szP p≤1000000→Ev E 14 [dn6 p] (.d (.int (szP p))):=by
 refine dn4 (P:=fun p=>szP p≤1000000→Ev E 14 [dn6 p] (.d (.int (szP p)))) (fun b ks ih hn=>?_) p;rw[szP]at hn;have hle:(ks.map dn6).length=ks.length:=Oc
 have hkl:=dq5 ks;rw[dn9,szP];have hrt:((dq1 ks+1:Nat):Int)=1+(dq1 ks:Int):=Oa
 rw[hrt];refine ye1 func14 ntmps14 fun _ _ _=>?_
 repeat'(refine yz ?_)
 refine ac7 (α:=ec7 ks.length) (fun p=>⟨[(1,.ptr 0 0),(3,.d (.int (1+(dq1 (ks.take p.i):Int)))),(4,.d (.int p.i))],[oPK b (ks.map dn6)]⟩) (fun p=>ks.length-p.i) ⟨0,by omega⟩ (zle 1) ?_;rintro⟨i,hi⟩;dsimp only;have hpt:=ec6 ks i;rcases fp2 i ks.length with hlt|hge
 ·have g1:decide ((i:Int)<((ks.map dn6).length:Int))=true:=by rw[hle];simpa using hlt
  have hx0:=fp1 hlt;generalize ks[i]=x at hx0;have hx:=cv3 (f:=dn6) hx0;have hm:=fp3 hx0;have hsx:=dq3 hm;have hc:=ih x hm Oa;have ht:=ec5 hx0;have e1:1+(dq1 (ks.take i):Int)+(szP x:Int)=1+((dq1 (ks.take (i+1)):Nat):Int):=by rw[ht];omega
  rw[ec8]at hx hc
  repeat'(first|refine yz ?_|refine qI (dn5 x.b (x.ks.map dn6)) rfl (ap1 rfl) rfl rfl rfl rfl rfl rfl Oh hx ?_|refine yp b14 hc ?_)
  refine ac1 ?_;refine⟨⟨i+1,by omega⟩,by dsimp only;omega,?_⟩;dsimp only;rw[←e1];exact(zle 1)
 ·have g1:decide ((i:Int)<((ks.map dn6).length:Int))=false:=by rw[hle];simp;omega
  rw[fq6 hge]
  exact Ok
theorem em9:∀a b:List Pl,dq0 (a++b)=max (dq0 a) (dq0 b)
 |[],b=>by rw[fr8,dq0];omega
 |x::r,b=>by rw[fs9,dq0,dq0,em9 r b];omega
theorem en0{l:List Pl}{i:Nat}{x:Pl}(h:l[i]? =some x):dq0 (l.take (i+1))=max (dq0 (l.take i)) (dpP x):=by
 rw[fs5,h,em9];show max _ (dq0 [x])=_;rw[dq0,dq0];omega
theorem en1(p:Pl):szP p≤1000000→Ev E 24 [dn6 p] (.d (.int (dpP p))):=by
 refine dn4 (P:=fun p=>szP p≤1000000→Ev E 24 [dn6 p] (.d (.int (dpP p)))) (fun b ks ih hn=>?_) p;have hdz:=dq6 (.mk b ks);rw[szP]at hn hdz;rw[dpP]at hdz;have hle:(ks.map dn6).length=ks.length:=Oc
 have hkl:=dq5 ks;rw[dn9,dpP];refine ye1 func24 ntmps24 fun _ _ _=>?_
 repeat'(refine yz ?_)
 refine ac7 (α:=ec7 ks.length) (fun p=>⟨[(1,.ptr 0 0),(3,.d (.int (dq0 (ks.take p.i):Nat))),(4,.d (.int p.i))],[oPK b (ks.map dn6)]⟩) (fun p=>ks.length-p.i) ⟨0,by omega⟩ (zle 1) ?_;rintro⟨i,hi⟩;dsimp only;rcases fp2 i ks.length with hlt|hge
 ·have g1:decide ((i:Int)<((ks.map dn6).length:Int))=true:=by rw[hle];simpa using hlt
  have hx0:=fp1 hlt;generalize ks[i]=x at hx0;have hx:=cv3 (f:=dn6) hx0;have hm:=fp3 hx0;have hsx:=dq3 hm;have hdx:=dq6 x;have hc:=ih x hm Oa;have ht:=en0 hx0;have e1:max ((dq0 (ks.take i):Nat):Int) ((dpP x:Nat):Int)=((dq0 (ks.take (i+1)):Nat):Int):=by rw[ht];omega
  rw[ec8]at hx hc
  repeat'(first|refine yz ?_|refine qI (dn5 x.b (x.ks.map dn6)) rfl (ap1 rfl) rfl rfl rfl rfl rfl rfl Oh hx ?_|refine yp b24 hc ?_)
  refine ac1 ?_;refine⟨⟨i+1,by omega⟩,by dsimp only;omega,?_⟩;dsimp only;rw[←e1];exact(zle 1)
 ·have g1:decide ((i:Int)<((ks.map dn6).length:Int))=false:=by rw[hle];simp;omega
  rw[fq6 hge];have e2:((dq0 ks+1:Nat):Int)=(dq0 ks:Int)+1:=Oa
  rw[e2]
  exact Ok
set_option maxHeartbeats 2000000 in
theorem en2(c:CL):Ev E 132 [cp8 c] (.d (.bool (do1 c))):=by
 have hb:=du4 c.e;unfold do1;obtain⟨k,opt,ds,ps,wh,e,nm,it,od,sk,lm,st,ns⟩:=c;simp only at hb ⊢;have l1:(((ps.map cp4).length:Int)==0)=(ps.length==0):=by rw[fp6,fq3,beq_iff_eq,beq_iff_eq];omega
 have l2:(((by5 wh).length:Int)==0)=(wh.length==0):=by rw[bz2,fq3,beq_iff_eq,beq_iff_eq];omega
 have l3:(((it.map cp5).length:Int)==0)=(it.length==0):=by rw[fp6,fq3,beq_iff_eq,beq_iff_eq];omega
 have l4:(((od.map cp6).length:Int)==0)=(od.length==0):=by rw[fp6,fq3,beq_iff_eq,beq_iff_eq];omega
 have l5:(((st.map cp7).length:Int)==0)=(st.length==0):=by rw[fp6,fq3,beq_iff_eq,beq_iff_eq];omega
 have l6:(((ns.map D.str).length:Int)==0)=(ns.length==0):=by rw[fp6,fq3,beq_iff_eq,beq_iff_eq];omega
 rw[←l1,←l2,←l3,←l4,←l5,←l6];clear l1 l2 l3 l4 l5 l6;obtain⟨ze,hze⟩:∃b,cr5 e=b:=⟨_,rfl⟩;rw[hze]at hb ⊢;show Ev E 132 [.agg [.int k,.bool opt,.bool ds,.sl (ps.map cp4),.sl (by5 wh),.int e.op,.int e.v.k,.int e.v.n,.int e.v.d,.str e.v.s,.sl (kids e.v),.str e.nm,.bool e.ds,.sl (by4 e),.str nm,.sl (it.map cp5),.sl (od.map cp6),.int sk,.int lm,.sl (st.map cp7),.sl (ns.map D.str)]] (.d (.bool (k==0&&(!opt&&(!ds&&(((ps.map cp4).length:Int)==0&&(((by5 wh).length:Int)==0&&(ze&&((nm.toList==(⟨#[]⟩:ByteArray).toList) &&(((it.map cp5).length:Int)==0&&(((od.map cp6).length:Int)==0&&(sk==0&&(lm==0&&(((st.map cp7).length:Int)==0&&((ns.map D.str).length:Int)==0))))))))))))));generalize ps.map cp4=L1 at*;generalize by5 wh=L2 at*;generalize it.map cp5=L3 at*;generalize od.map cp6=L4 at*;generalize st.map cp7=L5 at*;generalize ns.map D.str=L6 at*;refine ye1 func132 ntmps132 fun _ _ _=>?_
 repeat'(first|refine yz ?_|refine yp bp7 hb ?_|(refine yy ?_ ?_<;>intro _))
 all_goals(refine congrArg D.bool ?_;clear hb hze;simp_all)
theorem en3:Ev E 131 [.int 1] (.d (.int 0)):=by
 refine ye1 func131 ntmps131 fun _ _ _=>?_
 exact Ok
theorem en4:Ev E 131 [.int 3] (.d (.int 2)):=by
 refine ye1 func131 ntmps131 fun _ _ _=>?_
 exact Ok
theorem en5:Ev E 131 [.int 6] (.d (.int 1)):=by
 refine ye1 func131 ntmps131 fun _ _ _=>?_
 exact Ok
theorem en6:Ev E 131 [.int 11] (.d (.int 1)):=by
 refine ye1 func131 ntmps131 fun _ _ _=>?_
 exact Ok
structure SKnJ(cols U:List ByteArray) where
 i:Nat
 hi:i≤U.length
 ok:(U.take i).all (fun s=>by1 cols s)=true
theorem en7(e:Ex)(cols:List ByteArray)(hn:nd e≤1000000):Ev E 139 [by6 e,.sl (cols.map .str)] (.d (.bool (df2 e cols))):=by
 have hu:=em7 e hn;have hul:=db0 e;unfold df2;generalize da3 e=U at*;have hlu:(U.map D.str).length=U.length:=Oc
 refine ye2 func139 ntmps139 fun _ _ _=>?_
 repeat'(first|refine yz ?_|refine yp b216 hu ?_)
 refine ac7 (α:=SKnJ cols U) (fun p=>⟨[(1,.d (.sl (cols.map .str))),(2,.ptr 0 0),(5,.d (.sl (U.map .str))),(6,.d (.int p.i))],[oXJ (by6 e)]⟩) (fun p=>U.length-p.i) ⟨0,by omega,rfl⟩ (zle 1) ?_;rintro⟨i,hi,ok⟩;dsimp only;rcases fp2 i U.length with hlt|hge
 ·have g1:decide ((i:Int)<((U.map D.str).length:Int))=true:=by rw[hlu];simpa using hlt
  have hx0:=fp1 hlt;generalize U[i]=x at hx0;have hx:=cv3 (f:=D.str) hx0;have hh:=by3 cols x
  cases hc:by1 cols x with
  |true=>
   rw[hc]at hh
   repeat'(first|refine yz ?_|refine yi (.str x) hx ?_|refine yp b17 hh ?_)
   refine ac1 ?_;exact⟨⟨i+1,by omega,by rw[fs5,hx0,List.all_append,ok];simp[hc]⟩,by dsimp only;omega,(zle 1)⟩
  |false=>
   rw[hc]at hh
   have hf:(U.all fun s=>by1 cols s)=false:=by
    rw[←fv6];intro h;have:=fr7.1 h x (fp3 hx0);rw[hc]at this
    cases this
   rw[hf]
   repeat'(first|refine yz ?_|refine yi (.str x) hx ?_|refine yp b17 hh ?_|exact zD)
 ·have g1:decide ((i:Int)<((U.map D.str).length:Int))=false:=by rw[hlu];simp;omega
  rw[fq6 hge]at ok;rw[ok]
  exact Ok
theorem en8(e:Ex)(cols:List ByteArray)(hn:nd e≤1000000):Ev E 74 [by6 e,.sl (cols.map .str),.bool false] (.d (.int (df3 e cols))):=by
 have hd:=dd1 e;have hk:=cp0 e Oa Oa;have h1:=en7 e cols hn;have h2:=ds6 e;unfold df3;generalize df2 e cols=kn at*;generalize cp9 e=ha at*
 cases hc:co8 e !=0 with
 |true=>
  rw[cond_true];generalize co8 e=z at*;refine ye3 func74 ntmps74 fun _ _ _=>?_
  repeat'(first|refine yz ?_|refine yp b76 hk ?_|exact zD)
 |false=>
  rw[cond_false];have h0:co8 e=0:=by simpa using hc
  rw[h0]at hk
  cases kn with
  |false=>
   refine ye3 func74 ntmps74 fun _ _ _=>?_
   repeat'(first|refine yz ?_|refine yp b76 hk ?_|refine yp bp8 h1 ?_|exact zD)
  |true=>
   cases ha with
   |true=>
    refine ye3 func74 ntmps74 fun _ _ _=>?_
    repeat'(first|refine yz ?_|refine yp b76 hk ?_|refine yp bp8 h1 ?_|refine yp bp9 h2 ?_|exact zD)
   |false=>
    refine ye3 func74 ntmps74 fun _ _ _=>?_
    repeat'(first|refine yz ?_|refine yp b76 hk ?_|refine yp bp8 h1 ?_|refine yp bp9 h2 ?_|exact zD)
theorem en9(a b:List ByteArray)(ha:a.length≤1000000)(hb:b.length≤1000000):Ev E 72 [.sl (a.map .str),.sl (b.map .str)] (.d (.sl ((do4 a b).map .str))):=by
 have hle:(b.map D.str).length=b.length:=Oc
 have hj:do4 a b=joi a b b.length:=by unfold do4 joi;rw[List.take_length]
 rw[hj]
 by_cases h0:a=[]
 ·subst h0;refine ye2 func72 ntmps72 fun _ _ _=>?_
  repeat'(first|(refine bm2 ?_)|(refine bm3 ?_)|refine yz ?_)
  refine ac7 (α:=SBoP b) (fun p=>⟨[(0,.d (.sl ([].map .str))),(1,.d (.sl (b.map .str))),(5,bm7 0 ((joi [] b p.i).map .str)),(6,.d (.int p.i))],aw7 9 1 ((joi [] b p.i).map .str)⟩) (fun p=>b.length-p.i) ⟨0,by omega⟩ (zle 0) ?_;rintro⟨i,hi⟩;dsimp only;have hol:=ed7 [] b i;rcases fp2 i b.length with hlt|hge
  ·have g1:decide ((i:Int)<((b.map D.str).length:Int))=true:=by rw[hle];simpa using hlt
   have hx0:=fp1 hlt;generalize b[i]=x at hx0;have hx:=cv3 (f:=D.str) hx0;have hc:=by3 [] x;have hat:=ed6 (a:=[]) hx0
   cases hh:by1 [] x with
   |true=>
    simp[by1]at hh
   |false=>
    rw[hh,cond_false]at hat;rw[hh]at hc;generalize joi [] b i=o at*
    match o,hol with
    |[],hol=>
     dsimp only[bm7,aw7,List.map]
     repeat'(first|refine yz ?_|refine yi (.str x) hx ?_|refine yp b17 hc ?_|(refine bm4 ?_ ?_;exact⟨by simp,fun d hd=>by(obtain rfl:=fq2.1 hd;rfl),by(show 1*16≤140737488355328;omega),by(show 1≤9223372036854775807;omega)⟩))
     refine ac1 ?_;refine⟨⟨i+1,by omega⟩,by dsimp only;omega,?_⟩;dsimp only;rw[hat];exact(bh0 [0])
    |y::q,hol=>
     dsimp only[bm7,aw7,List.map]
     repeat'(first|refine yz ?_|refine yi (.str x) hx ?_|refine yp b17 hc ?_|(refine qS rfl ⟨by simp,fun d hd=>by(obtain rfl:=fq2.1 hd;rfl),by(show _*16≤140737488355328;simp;simp only[fp5]at hol;omega),by(show _≤9223372036854775807;simp;simp only[fp5]at hol;omega)⟩ ?_))
     refine ac1 ?_;refine⟨⟨i+1,by omega⟩,by dsimp only;omega,?_⟩;dsimp only;rw[hat,ea4];exact(bh0 [1])
  ·have g1:decide ((i:Int)<((b.map D.str).length:Int))=false:=by rw[hle];simp;omega
   obtain rfl:i=b.length:=Oa
   generalize joi [] b b.length=o at*
   match o with
   |[]=>
    dsimp only[bm7,aw7,List.map];refine bm6 5 rfl ?_
    exact Ok
   |y::q=>
    dsimp only[bm7,aw7,List.map];refine au2 0 rfl ?_;dsimp only[ar6,ar5,ar8,ar7,List.map,List.set]
    exact Ok
 ·have hne:a.map D.str≠ []:=by simpa using h0
  have hal:(a.map D.str).length=a.length:=Oc
  have hac:∀d∈a.map D.str,d.cells.length=1:=fun d hd=>by obtain⟨s,-,rfl⟩:=fq8.1 hd;rfl
  refine ye2 func72 ntmps72 fun _ _ _=>?_
  repeat'(first|(refine bm2 ?_)|refine yz ?_|(refine bm4 ?_ ?_;exact⟨hne,hac,by(show(a.map D.str).length*16≤140737488355328;omega),by(show(a.map D.str).length≤9223372036854775807;omega)⟩))
  refine ac7 (α:=SBoP b) (fun p=>⟨[(0,.d (.sl (a.map .str))),(1,.d (.sl (b.map .str))),(5,bm7 0 ((joi a b p.i).map .str)),(6,.d (.int p.i))],aw7 9 1 ((joi a b p.i).map .str)⟩) (fun p=>b.length-p.i) ⟨0,by omega⟩ (by
   have e0:joi a b 0=a:=by unfold joi;simp
   dsimp only;rw[e0]
   match a,h0 with
   |x::r,_=>exact(zle 1)) ?_
  rintro⟨i,hi⟩;dsimp only;have hol:=ed7 a b i;rcases fp2 i b.length with hlt|hge
  ·have g1:decide ((i:Int)<((b.map D.str).length:Int))=true:=by rw[hle];simpa using hlt
   have hx0:=fp1 hlt;generalize b[i]=x at hx0;have hx:=cv3 (f:=D.str) hx0;have hc:=by3 a x;have hat:=ed6 (a:=a) hx0
   cases hh:by1 a x with
   |true=>
    rw[hh,cond_true]at hat;rw[hh]at hc;generalize joi a b i=o at*
    match o with
    |[]=>
     dsimp only[bm7,aw7,List.map]
     repeat'(first|refine yz ?_|refine yi (.str x) hx ?_|refine yp b17 hc ?_)
     refine ac1 ?_;refine⟨⟨i+1,by omega⟩,by dsimp only;omega,?_⟩;dsimp only;rw[hat];exact(zle 0)
    |y::q=>
     dsimp only[bm7,aw7,List.map]
     repeat'(first|refine yz ?_|refine yi (.str x) hx ?_|refine yp b17 hc ?_)
     refine ac1 ?_;refine⟨⟨i+1,by omega⟩,by dsimp only;omega,?_⟩;dsimp only;rw[hat];exact(zle 1)
   |false=>
    rw[hh,cond_false]at hat;rw[hh]at hc;generalize joi a b i=o at*
    match o,hol with
    |[],hol=>
     dsimp only[bm7,aw7,List.map]
     repeat'(first|refine yz ?_|refine yi (.str x) hx ?_|refine yp b17 hc ?_|(refine bm4 ?_ ?_;exact⟨by simp,fun d hd=>by(obtain rfl:=fq2.1 hd;rfl),by(show 1*16≤140737488355328;omega),by(show 1≤9223372036854775807;omega)⟩))
     refine ac1 ?_;refine⟨⟨i+1,by omega⟩,by dsimp only;omega,?_⟩;dsimp only;rw[hat];exact(bh0 [0])
    |y::q,hol=>
     dsimp only[bm7,aw7,List.map]
     repeat'(first|refine yz ?_|refine yi (.str x) hx ?_|refine yp b17 hc ?_|(refine qS rfl ⟨by simp,fun d hd=>by(obtain rfl:=fq2.1 hd;rfl),by(show _*16≤140737488355328;simp;simp only[fp5]at hol;omega),by(show _≤9223372036854775807;simp;simp only[fp5]at hol;omega)⟩ ?_))
     refine ac1 ?_;refine⟨⟨i+1,by omega⟩,by dsimp only;omega,?_⟩;dsimp only;rw[hat,ea4];exact(bh0 [1])
  ·have g1:decide ((i:Int)<((b.map D.str).length:Int))=false:=by rw[hle];simp;omega
   obtain rfl:i=b.length:=Oa
   generalize joi a b b.length=o at*
   match o with
   |[]=>
    dsimp only[bm7,aw7,List.map];refine bm6 5 rfl ?_
    exact Ok
   |y::q=>
    dsimp only[bm7,aw7,List.map];refine au2 0 rfl ?_;dsimp only[ar6,ar5,ar8,ar7,List.map,List.set]
    exact Ok
end Go.Proofs.YtndgolmgaenlfaaGreatDoor
