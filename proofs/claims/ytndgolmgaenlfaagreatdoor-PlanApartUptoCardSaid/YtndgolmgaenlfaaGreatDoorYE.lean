/- Clauses and plans compared, by the specification. Conditions: constants that are null or plain. -/
import Derived.Test.YtndgolmgaenlfaaGreatDoorGC
import Derived.Test.YtndgolmgaenlfaaGreatDoorYD
import Derived.Test.YtndgolmgaenlfaaGreatDoorHC
set_option linter.unusedVariables false
set_option linter.unusedSimpArgs false
namespace Go.Proofs.YtndgolmgaenlfaaGreatDoor
set_option maxRecDepth 4000
open Go Go.Abs Go.Val Go.RowKit Go.Proofs.Tryz
attribute [local irreducible] go SGo an9 Ev aw1 EvO EvS RGo RGw PGo ci6
structure FVC(c:CL):Prop where
 p:∀x∈c.ps,FVA x
 w:∀x∈c.wh,alE FVe x
def cl3(c:CL):Bool × List PA × List Ex:=(c.opt,c.ps,c.wh)
set_option maxHeartbeats 4000000 in
theorem fx0(a b:CL)(ha:FVC a)(hb:FVC b):Ev E 31 [cu4 a,cu4 b] (.d (.bool (eqD (cl3 a) (cl3 b)))):=Ev.fit fun hfit=>by
 have m1:=(by7 (f:=cu0) ((hfit (cu4 a) Oc).aggs (.sl (a.ps.map cu0)) (by simp[cu4]))).1;have m2:=(by7 (f:=cu0) ((hfit (cu4 b) Oc).aggs (.sl (b.ps.map cu0)) (by simp[cu4]))).1;obtain⟨m3,-⟩:=bz9 ((hfit (cu4 a) Oc).aggs (.sl (bz0 a.wh)) (by simp[cu4]));obtain⟨m4,-⟩:=bz9 ((hfit (cu4 b) Oc).aggs (.sl (bz0 b.wh)) (by simp[cu4]));clear hfit;have yes:cl3 a=cl3 b→eqD (cl3 a) (cl3 b)=true:=fu7;have no:∀{P:Prop},¬P→(cl3 a=cl3 b→P)→eqD (cl3 a) (cl3 b)=false:=fun hp h=>fu8 fun e=>hp (h e)
 generalize eqD (cl3 a) (cl3 b)=z at*;unfold cl3 at yes no;obtain⟨hap,haw⟩:=ha;obtain⟨hbp,hbw⟩:=hb;obtain⟨k,opt,ds,ps,wh,e,nm,it,od,sk,lm,st,ns⟩:=a;obtain⟨k',opt',ds',ps',wh',e',nm',it',od',sk',lm',st',ns'⟩:=b;dsimp only at*;have l1:(ps.map cu0).length=ps.length:=Oc
 have l2:(ps'.map cu0).length=ps'.length:=Oc
 have l3:(bz0 wh).length=wh.length:=bz7 wh;have l4:(bz0 wh').length=wh'.length:=bz7 wh'
 by_cases c1:opt=opt'
 case neg=>
  have d1:(opt !=opt')=true:=by simpa using c1
  rw[no c1 fun e=>by cases e;rfl];refine ye2 func31 ntmps31 fun _ _ _=>?_
  exact Om
 subst c1;have g3:(opt !=opt)=false:=Oc
 by_cases hl:ps.length=ps'.length
 case neg=>
  have d1:=lnN (l:=ps.map cu0) (m:=ps'.map cu0) (by rw[l1,l2];exact hl);rw[no (P:=ps=ps') (fun e=>hl (by rw[e])) fun e=>by cases e;rfl];refine ye2 func31 ntmps31 fun _ _ _=>?_
  exact Om
 have g1:=lnD (l:=ps.map cu0) (m:=ps'.map cu0) (by rw[l1,l2,hl])
 by_cases hl2:wh.length=wh'.length
 case neg=>
  have d1:=lnN (l:=bz0 wh) (m:=bz0 wh') (by rw[l3,l4];exact hl2);rw[no (P:=wh=wh') (fun e=>hl2 (by rw[e])) fun e=>by cases e;rfl];refine ye2 func31 ntmps31 fun _ _ _=>?_
  exact Om
 have g2:=lnD (l:=bz0 wh) (m:=bz0 wh') (by rw[l3,l4,hl2]);have noN:ps≠ps'→z=false:=fun h=>no h fun e=>by cases e;rfl
 have noE:wh≠wh'→z=false:=fun h=>no h fun e=>by cases e;rfl
 have yesL:ps=ps'→wh=wh'→z=true:=fun e f=>yes (by rw[e,f])
 clear no yes;refine ye2 func31 ntmps31 fun _ _ _=>?_
 repeat'(first|refine yz ?_|refine yx ?_|(refine yy ?_ ?_<;>intro _)|exact zD|exact zL)
 refine ac8 (α:=SEq ps ps') (fun p=>⟨[(2,.ptr 0 0),(3,.ptr 1 0),(5,.d (.int p.i))],[oCL ⟨k,opt,ds,ps,wh,e,nm,it,od,sk,lm,st,ns⟩,oCL ⟨k',opt,ds',ps',wh',e',nm',it',od',sk',lm',st',ns'⟩]⟩) (fun p=>ps.length-p.i) ⟨0,by omega,rfl⟩ (zle 2) ?_;rintro⟨i,hi,oki⟩;dsimp only;rcases fy5 i ps.length with hlti|hgei
 ·have qi:decide ((i:Int)<((ps.map cu0).length:Int))=true:=by rw[l1];simpa using hlti
  have hlui:i<ps'.length:=Oa
  have hx0:=fy4 hlti;have hy0:=fy4 hlui;generalize ps[i]=x at hx0;generalize ps'[i]=y at hy0;have hx:=cz1 (f:=cu0) hx0;have hy:=cz1 (f:=cu0) hy0;have hs:=fw9 x y (hap x (fy6 hx0)) (hbp y (fy6 hy0))
  by_cases hxy:x=y
  ·rw[fu7 hxy]at hs
   repeat'(first|refine yz ?_|refine yi (cu0 x) hx ?_|refine yi (cu0 y) hy ?_|refine yp b51 hs ?_|refine yx ?_|(refine yy ?_ ?_<;>intro _)|exact zD|exact zL)
   refine ac2 ?_;exact⟨⟨i+1,by omega,fv1 hx0 (hxy ▸ hy0) oki⟩,by dsimp only;omega,(zle 2)⟩
  ·rw[fu8 hxy]at hs;rw[noN (fv3 hx0 hy0 hxy)]
   repeat'(first|refine yz ?_|refine yi (cu0 x) hx ?_|refine yi (cu0 y) hy ?_|refine yp b51 hs ?_|refine yx ?_|(refine yy ?_ ?_<;>intro _)|exact zD|exact zL)
 ·have qi:decide ((i:Int)<((ps.map cu0).length:Int))=false:=by rw[l1];simp;omega
  have en:=fv2 hl hgei oki
  repeat'(first|refine yz ?_|refine yx ?_|(refine yy ?_ ?_<;>intro _)|exact zD|exact zL)
  refine ac8 (α:=SEq wh wh') (fun p=>⟨[(2,.ptr 0 0),(3,.ptr 1 0),(6,.d (.int p.i))],[oCL ⟨k,opt,ds,ps,wh,e,nm,it,od,sk,lm,st,ns⟩,oCL ⟨k',opt,ds',ps',wh',e',nm',it',od',sk',lm',st',ns'⟩]⟩) (fun p=>wh.length-p.i) ⟨0,by omega,rfl⟩ (zle 2) ?_;rintro⟨j,hj,okj⟩;dsimp only;rcases fy5 j wh.length with hltj|hgej
  ·have qj:decide ((j:Int)<((bz0 wh).length:Int))=true:=by rw[l3];simpa using hltj
   have hluj:j<wh'.length:=Oa
   have hx0:=fy4 hltj;have hy0:=fy4 hluj;generalize wh[j]=x at hx0;generalize wh'[j]=y at hy0;have hx:(bz0 wh)[(j:Int).toNat]? =some (bz1 x):=bz5 (by rw[gb1];exact hx0);have hy:(bz0 wh')[(j:Int).toNat]? =some (bz1 y):=bz5 (by rw[gb1];exact hy0);have hs:=fv6 x y (haw x (fy6 hx0)) (hbw y (fy6 hy0))
   by_cases hxy:x=y
   ·rw[fu7 hxy]at hs
    repeat'(first|refine yz ?_|refine yi (bz1 x) hx ?_|refine yi (bz1 y) hy ?_|refine yp b32 hs ?_|refine yx ?_|(refine yy ?_ ?_<;>intro _)|exact zD|exact zL)
    refine ac2 ?_;exact⟨⟨j+1,by omega,fv1 hx0 (hxy ▸ hy0) okj⟩,by dsimp only;omega,(zle 2)⟩
   ·rw[fu8 hxy]at hs;rw[noE (fv3 hx0 hy0 hxy)]
    repeat'(first|refine yz ?_|refine yi (bz1 x) hx ?_|refine yi (bz1 y) hy ?_|refine yp b32 hs ?_|refine yx ?_|(refine yy ?_ ?_<;>intro _)|exact zD|exact zL)
  ·have qj:decide ((j:Int)<((bz0 wh).length:Int))=false:=by rw[l3];simp;omega
   rw[yesL en (fv2 hl2 hgej okj)]
   exact Om
theorem fx1:∀{l m:List Pl},fs6 l m→l.length=m.length
 |[],[],_=>rfl
 |[],_::_,h=>h.elim
 |_::_,[],h=>h.elim
 |_::_,_::_,h=>by rw[fy7,fy7,fx1 h.2]
theorem fx2:∀{l m:List Pl} {i:Nat} {x y:Pl},fs6 l m→l[i]? =some x→m[i]? =some y→EqP x y
 |[],[],_,_,_,_,h,_=>by simp at h
 |[],_::_,_,_,_,h,_,_=>h.elim
 |_::_,[],_,_,_,h,_,_=>h.elim
 |a::l,b::m,0,x,y,h,h1,h2=>by
  have e1:a=x:=by simpa using h1
  have e2:b=y:=by simpa using h2
  rw[←e1,←e2];exact h.1
 |a::l,b::m,i+1,x,y,h,h1,h2=>fx2 h.2 (by simpa using h1) (by simpa using h2)
theorem fx3:∀{l m:List Pl} {i:Nat} {x y:Pl},fs6 (l.take i) (m.take i)→l[i]? =some x→m[i]? =some y→EqP x y→fs6 (l.take (i+1)) (m.take (i+1))
 |[],_,_,_,_,_,h,_,_=>by simp at h
 |_::_,[],_,_,_,_,_,h,_=>by simp at h
 |a::l,b::m,0,x,y,_,h1,h2,he=>by
  have e1:a=x:=by simpa using h1
  have e2:b=y:=by simpa using h2
  rw[←e1,←e2]at he;exact⟨he,by rw[gc8,gc8];trivial⟩
 |a::l,b::m,i+1,x,y,h,h1,h2,he=>⟨h.1,fx3 h.2 (by simpa using h1) (by simpa using h2) he⟩
structure SEqP(l m:List Pl) where
 i:Nat
 hi:i≤l.length
 ok:fs6 (l.take i) (m.take i)
noncomputable def eqP (p q:Pl):Bool:= @decide (EqP p q) (Classical.propDecidable _)
theorem fx4{p q:Pl}(h:EqP p q):eqP p q=true:= @decide_eq_true _ (Classical.propDecidable _) h
theorem fx5{p q:Pl}(h: ¬EqP p q):eqP p q=false:= @decide_eq_false _ (Classical.propDecidable _) h
theorem fx6{p q:Pl}:eqP p q=true↔EqP p q:= @decide_eq_true_iff _ (Classical.propDecidable _)
structure FVB(b:PB):Prop where
 j:∀a∈b.cj.as,FV a.v
 c:FVC b.cl
 e:alE FVe b.e
 i:∀x∈b.it,alE FVe x.e
 o:∀x∈b.od,alE FVe x.e
set_option maxHeartbeats 8000000 in
theorem fx7(p:Pl):∀q,alB FVB p→alB FVB q→Ev E 19 [do8 p,do8 q] (.d (.bool (eqP p q))):=by
 refine do6 (P:=fun p=>∀q,alB FVB p→alB FVB q→Ev E 19 [do8 p,do8 q] (.d (.bool (eqP p q)))) (fun a ks ih q ha hb=>Ev.fit fun hfit=>?_) p;obtain⟨b,ls⟩:=q;rw[alB]at ha hb;have hf:=hfit (do8 (.mk a ks)) Oc;have hg:=hfit (do8 (.mk b ls)) Oc;rw[dp1]at hf hg;rw[dp1,dp1];have m1:=(by7 (f:=cu1) (hf.aggs (.sl (a.it.map cu1)) (by simp[do7]))).1;have m2:=(by7 (f:=cu2) (hf.aggs (.sl (a.od.map cu2)) (by simp[do7]))).1;have m3:=(by7 (f:=do8) (hf.aggs (.sl (ks.map do8)) (by simp[do7]))).1;have m4:=(by7 (f:=cu1) (hg.aggs (.sl (b.it.map cu1)) (by simp[do7]))).1;have m5:=(by7 (f:=cu2) (hg.aggs (.sl (b.od.map cu2)) (by simp[do7]))).1;have m6:=(by7 (f:=do8) (hg.aggs (.sl (ls.map do8)) (by simp[do7]))).1;clear hf hg hfit;obtain⟨⟨aj,ac,ae,ai,ao⟩,ak⟩:=ha;obtain⟨⟨bj,bc,be,bi,bo⟩,bk⟩:=hb;have h1:=fw8 a.cj b.cj aj bj;have h2:=fx0 a.cl b.cl ac bc;have h3:=fv6 a.e b.e ae be;have hk:∀x∈ks,∀y∈ls,Ev E 19 [do8 x,do8 y] (.d (.bool (eqP x y))):=fun x hx y hy=>ih x hx y (dz6 ak x hx) (dz6 bk y hy)
 clear ih aj ac ae ak bj bc be bk;have yes:EqB a b→fs6 ks ls→eqP (.mk a ks) (.mk b ls)=true:=fun h h'=>fx4 ⟨h,h'⟩
 have no:∀{P:Prop},¬P→(EqB a b→P)→eqP (.mk a ks) (.mk b ls)=false:=fun hp h=>fx5 fun e=>hp (h e.1)
 have noK: ¬fs6 ks ls→eqP (.mk a ks) (.mk b ls)=false:=fun hp=>fx5 fun e=>hp e.2
 generalize eqP (.mk a ks) (.mk b ls)=z at*;have l1:(a.it.map cu1).length=a.it.length:=Oc
 have l2:(a.od.map cu2).length=a.od.length:=Oc
 have l3:(ks.map do8).length=ks.length:=Oc
 have l4:(b.it.map cu1).length=b.it.length:=Oc
 have l5:(b.od.map cu2).length=b.od.length:=Oc
 have l6:(ls.map do8).length=ls.length:=Oc
 have hcj:∀{P:Prop},(eqD a.cj b.cj=false→P)→(a.cj=b.cj→P)→P:=fun{P} h h'=>(Classical.em (a.cj=b.cj)).elim h' fun n=>h (fu8 n)
 by_cases c1:a.op=b.op
 case neg=>
  have d1:(a.op !=b.op)=true:=by simpa using c1
  rw[no c1 EqB.o];refine ye2 func19 ntmps19 fun _ _ _=>?_
  exact Om
 have d1:(a.op !=b.op)=false:=by simpa using c1
 by_cases c2:a.cj=b.cj
 case neg=>
  rw[fu8 c2]at h1;rw[no c2 EqB.j];refine ye2 func19 ntmps19 fun _ _ _=>?_
  repeat'(first|refine yz ?_|refine yp b30 h1 ?_|refine yx ?_|(refine yy ?_ ?_<;>intro _)|exact zD|exact zL)
 rw[fu7 c2]at h1
 by_cases c3:cl3 a.cl=cl3 b.cl
 case neg=>
  rw[fu8 c3]at h2;rw[no c3 fun h=>by unfold cl3;rw[h.c.1,h.c.2.1,h.c.2.2]];refine ye2 func19 ntmps19 fun _ _ _=>?_
  repeat'(first|refine yz ?_|refine yp b30 h1 ?_|refine yp b31 h2 ?_|refine yx ?_|(refine yy ?_ ?_<;>intro _)|exact zD|exact zL)
 rw[fu7 c3]at h2
 by_cases c4:a.e=b.e
 case neg=>
  rw[fu8 c4]at h3;rw[no c4 EqB.e];refine ye2 func19 ntmps19 fun _ _ _=>?_
  repeat'(first|refine yz ?_|refine yp b30 h1 ?_|refine yp b31 h2 ?_|refine yp b32 h3 ?_|refine yx ?_|(refine yy ?_ ?_<;>intro _)|exact zD|exact zL)
 rw[fu7 c4]at h3
 by_cases c5:a.nm=b.nm
 case neg=>
  have d5:(a.nm.toList !=b.nm.toList)=true:=fv4 c5;have d5':=fv4 c5;rw[no c5 EqB.n];refine ye2 func19 ntmps19 fun _ _ _=>?_
  repeat'(first|refine yz ?_|refine yp b30 h1 ?_|refine yp b31 h2 ?_|refine yp b32 h3 ?_|refine yx ?_|(refine yy ?_ ?_<;>intro _)|exact zD|exact zL)
 have d5:(a.nm.toList !=b.nm.toList)=false:=by rw[c5];exact nsY _
 have d5':(!(a.nm.toList==b.nm.toList))=false:=by rw[c5];exact nsY _
 by_cases c6:a.sk=b.sk
 case neg=>
  have d6:(a.sk !=b.sk)=true:=by simpa using c6
  rw[no c6 EqB.s];refine ye2 func19 ntmps19 fun _ _ _=>?_
  repeat'(first|refine yz ?_|refine yp b30 h1 ?_|refine yp b31 h2 ?_|refine yp b32 h3 ?_|refine yx ?_|(refine yy ?_ ?_<;>intro _)|exact zD|exact zL)
 have d6:(a.sk !=b.sk)=false:=by simpa using c6
 by_cases c7:a.lm=b.lm
 case neg=>
  have d7:(a.lm !=b.lm)=true:=by simpa using c7
  rw[no c7 EqB.l];refine ye2 func19 ntmps19 fun _ _ _=>?_
  repeat'(first|refine yz ?_|refine yp b30 h1 ?_|refine yp b31 h2 ?_|refine yp b32 h3 ?_|refine yx ?_|(refine yy ?_ ?_<;>intro _)|exact zD|exact zL)
 have d7:(a.lm !=b.lm)=false:=by simpa using c7
 by_cases c8:a.it.length=b.it.length
 case neg=>
  have d8:=lnN (l:=a.it.map cu1) (m:=b.it.map cu1) (by rw[l1,l4];exact c8);rw[no c8 fun h=>by rw[h.i]];refine ye2 func19 ntmps19 fun _ _ _=>?_
  repeat'(first|refine yz ?_|refine yp b30 h1 ?_|refine yp b31 h2 ?_|refine yp b32 h3 ?_|refine yx ?_|(refine yy ?_ ?_<;>intro _)|exact zD|exact zL)
 have d8:=lnD (l:=a.it.map cu1) (m:=b.it.map cu1) (by rw[l1,l4,c8])
 by_cases c9:a.od.length=b.od.length
 case neg=>
  have d9:=lnN (l:=a.od.map cu2) (m:=b.od.map cu2) (by rw[l2,l5];exact c9);rw[no c9 fun h=>by rw[h.d]];refine ye2 func19 ntmps19 fun _ _ _=>?_
  repeat'(first|refine yz ?_|refine yp b30 h1 ?_|refine yp b31 h2 ?_|refine yp b32 h3 ?_|refine yx ?_|(refine yy ?_ ?_<;>intro _)|exact zD|exact zL)
 have d9:=lnD (l:=a.od.map cu2) (m:=b.od.map cu2) (by rw[l2,l5,c9])
 by_cases c10:ks.length=ls.length
 case neg=>
  have d10:=lnN (l:=ks.map do8) (m:=ls.map do8) (by rw[l3,l6];exact c10);rw[noK fun h=>c10 (fx1 h)];refine ye2 func19 ntmps19 fun _ _ _=>?_
  repeat'(first|refine yz ?_|refine yp b30 h1 ?_|refine yp b31 h2 ?_|refine yp b32 h3 ?_|refine yx ?_|(refine yy ?_ ?_<;>intro _)|exact zD|exact zL)
 have d10:=lnD (l:=ks.map do8) (m:=ls.map do8) (by rw[l3,l6,c10]);have noI:a.it≠b.it→z=false:=fun h=>no h EqB.i
 have noO:a.od≠b.od→z=false:=fun h=>no h EqB.d
 have fin:a.it=b.it→a.od=b.od→fs6 ks ls→z=true:=fun e f g=>yes ⟨c1,c2,by unfold cl3 at c3;simpa using c3,c4,c5,e,f,c6,c7⟩ g
 clear no yes hcj;refine ye2 func19 ntmps19 fun _ _ _=>?_
 repeat'(first|refine yz ?_|refine yp b30 h1 ?_|refine yp b31 h2 ?_|refine yp b32 h3 ?_|refine yx ?_|(refine yy ?_ ?_<;>intro _)|exact zD|exact zL)
 refine ac8 (α:=SEq a.it b.it) (fun p=>⟨[(2,.ptr 0 0),(3,.ptr 1 0),(5,.d (.int p.i))],[oPY a (ks.map do8),oPY b (ls.map do8)]⟩) (fun p=>a.it.length-p.i) ⟨0,by omega,rfl⟩ (zle 2) ?_;rintro⟨i,hi,oki⟩;dsimp only;rcases fy5 i a.it.length with hlti|hgei
 ·have qi:decide ((i:Int)<((a.it.map cu1).length:Int))=true:=by rw[l1];simpa using hlti
  have hlui:i<b.it.length:=Oa
  have hx0:=fy4 hlti;have hy0:=fy4 hlui;generalize a.it[i]=x at hx0;generalize b.it[i]=y at hy0;have hx:=cz1 (f:=cu1) hx0;have hy:=cz1 (f:=cu1) hy0;have hs:=fv6 x.e y.e (ai x (fy6 hx0)) (bi y (fy6 hy0));have hno:x≠y→z=false:=fun h=>noI (fv3 hx0 hy0 h)
  have hnx:x=y→a.it.take (i+1)=b.it.take (i+1):=fun h=>fv1 hx0 (h ▸ hy0) oki
  clear hx0 hy0;obtain⟨xe,xa⟩:=x;obtain⟨ye,ya⟩:=y;dsimp only at*
  by_cases e1:xa=ya
  case neg=>
   have q2:(xa.toList !=ya.toList)=true:=fv4 e1;have q3:=fv4 e1;rw[hno fun e=>e1 (by cases e;rfl)]
   repeat'(first|refine yz ?_|refine yi (cu1 ⟨xe,xa⟩) hx ?_|refine yi (cu1 ⟨ye,ya⟩) hy ?_|refine yx ?_|(refine yy ?_ ?_<;>intro _)|exact zD|exact zL)
  subst e1;have q2:(xa.toList !=xa.toList)=false:=nsY xa;have q3:=nsY xa
  by_cases e2:xe=ye
  ·rw[fu7 e2]at hs
   repeat'(first|refine yz ?_|refine yi (cu1 ⟨xe,xa⟩) hx ?_|refine yi (cu1 ⟨ye,xa⟩) hy ?_|refine bl5 rfl rfl rfl rfl rfl rfl rfl ?_|refine bl6 9 rfl rfl rfl rfl rfl rfl ?_|refine yp b32 hs ?_|refine yx ?_|(refine yy ?_ ?_<;>intro _)|exact zD|exact zL)
   refine ac2 ?_;exact⟨⟨i+1,by omega,hnx (by rw[e2])⟩,by dsimp only;omega,(zle 2)⟩
  ·rw[fu8 e2]at hs;rw[hno fun e=>e2 (by cases e;rfl)]
   repeat'(first|refine yz ?_|refine yi (cu1 ⟨xe,xa⟩) hx ?_|refine yi (cu1 ⟨ye,xa⟩) hy ?_|refine bl5 rfl rfl rfl rfl rfl rfl rfl ?_|refine bl6 9 rfl rfl rfl rfl rfl rfl ?_|refine yp b32 hs ?_|refine yx ?_|(refine yy ?_ ?_<;>intro _)|exact zD|exact zL)
 ·have qi:decide ((i:Int)<((a.it.map cu1).length:Int))=false:=by rw[l1];simp;omega
  have ei:=fv2 c8 hgei oki
  repeat'(first|refine yz ?_|refine yx ?_|(refine yy ?_ ?_<;>intro _)|exact zD|exact zL)
  refine ac8 (α:=SEq a.od b.od) (fun p=>⟨[(2,.ptr 0 0),(3,.ptr 1 0),(6,.d (.int p.i))],[oPY a (ks.map do8),oPY b (ls.map do8)]⟩) (fun p=>a.od.length-p.i) ⟨0,by omega,rfl⟩ (zle 2) ?_;rintro⟨j,hj,okj⟩;dsimp only;rcases fy5 j a.od.length with hltj|hgej
  ·have qj:decide ((j:Int)<((a.od.map cu2).length:Int))=true:=by rw[l2];simpa using hltj
   have hluj:j<b.od.length:=Oa
   have hx0:=fy4 hltj;have hy0:=fy4 hluj;generalize a.od[j]=x at hx0;generalize b.od[j]=y at hy0;have hx:=cz1 (f:=cu2) hx0;have hy:=cz1 (f:=cu2) hy0;have hs:=fv6 x.e y.e (ao x (fy6 hx0)) (bo y (fy6 hy0));have hno:x≠y→z=false:=fun h=>noO (fv3 hx0 hy0 h)
   have hnx:x=y→a.od.take (j+1)=b.od.take (j+1):=fun h=>fv1 hx0 (h ▸ hy0) okj
   clear hx0 hy0;obtain⟨xe,xa⟩:=x;obtain⟨ye,ya⟩:=y;dsimp only at*
   by_cases e1:xa=ya
   case neg=>
    have q2:(xa !=ya)=true:=by simpa using e1
    rw[hno fun e=>e1 (by cases e;rfl)]
    repeat'(first|refine yz ?_|refine yi (cu2 ⟨xe,xa⟩) hx ?_|refine yi (cu2 ⟨ye,ya⟩) hy ?_|refine yx ?_|(refine yy ?_ ?_<;>intro _)|exact zD|exact zL)
   subst e1;have q2:(xa !=xa)=false:=Oc
   by_cases e2:xe=ye
   ·rw[fu7 e2]at hs
    repeat'(first|refine yz ?_|refine yi (cu2 ⟨xe,xa⟩) hx ?_|refine yi (cu2 ⟨ye,xa⟩) hy ?_|refine bl5 rfl rfl rfl rfl rfl rfl rfl ?_|refine bl6 9 rfl rfl rfl rfl rfl rfl ?_|refine yp b32 hs ?_|refine yx ?_|(refine yy ?_ ?_<;>intro _)|exact zD|exact zL)
    refine ac2 ?_;exact⟨⟨j+1,by omega,hnx (by rw[e2])⟩,by dsimp only;omega,(zle 2)⟩
   ·rw[fu8 e2]at hs;rw[hno fun e=>e2 (by cases e;rfl)]
    repeat'(first|refine yz ?_|refine yi (cu2 ⟨xe,xa⟩) hx ?_|refine yi (cu2 ⟨ye,xa⟩) hy ?_|refine bl5 rfl rfl rfl rfl rfl rfl rfl ?_|refine bl6 9 rfl rfl rfl rfl rfl rfl ?_|refine yp b32 hs ?_|refine yx ?_|(refine yy ?_ ?_<;>intro _)|exact zD|exact zL)
  ·have qj:decide ((j:Int)<((a.od.map cu2).length:Int))=false:=by rw[l2];simp;omega
   have eo:=fv2 c9 hgej okj
   repeat'(first|refine yz ?_|refine yx ?_|(refine yy ?_ ?_<;>intro _)|exact zD|exact zL)
   refine ac8 (α:=SEqP ks ls) (fun p=>⟨[(2,.ptr 0 0),(3,.ptr 1 0),(7,.d (.int p.i))],[oPY a (ks.map do8),oPY b (ls.map do8)]⟩) (fun p=>ks.length-p.i) ⟨0,by omega,trivial⟩ (zle 2) ?_;rintro⟨m,hm,okm⟩;dsimp only;rcases fy5 m ks.length with hltm|hgem
   ·have qm:decide ((m:Int)<((ks.map do8).length:Int))=true:=by rw[l3];simpa using hltm
    have hlum:m<ls.length:=Oa
    have hx0:=fy4 hltm;have hy0:=fy4 hlum;generalize ks[m]=x at hx0;generalize ls[m]=y at hy0;have hx:=cz1 (f:=do8) hx0;have hy:=cz1 (f:=do8) hy0;have hs:=hk x (fy6 hx0) y (fy6 hy0);rw[eb6 x]at hx hs;rw[eb6 y]at hy hs
    by_cases hxy:EqP x y
    ·rw[fx4 hxy]at hs
     repeat'(first|refine yz ?_|refine qI (do7 x.b (x.ks.map do8)) rfl (ap9 rfl) rfl rfl rfl rfl rfl rfl Oh hx ?_|refine qI (do7 y.b (y.ks.map do8)) rfl (ap9 rfl) rfl rfl rfl rfl rfl rfl Oh hy ?_|refine yp b19 hs ?_|refine yx ?_|(refine yy ?_ ?_<;>intro _)|exact zD|exact zL)
     refine ac2 ?_;exact⟨⟨m+1,by omega,fx3 okm hx0 hy0 hxy⟩,by dsimp only;omega,(zle 2)⟩
    ·rw[fx5 hxy]at hs;rw[noK fun h=>hxy (fx2 h hx0 hy0)]
     repeat'(first|refine yz ?_|refine qI (do7 x.b (x.ks.map do8)) rfl (ap9 rfl) rfl rfl rfl rfl rfl rfl Oh hx ?_|refine qI (do7 y.b (y.ks.map do8)) rfl (ap9 rfl) rfl rfl rfl rfl rfl rfl Oh hy ?_|refine yp b19 hs ?_|refine yx ?_|(refine yy ?_ ?_<;>intro _)|exact zD|exact zL)
   ·have qm:decide ((m:Int)<((ks.map do8).length:Int))=false:=by rw[l3];simp;omega
    rw[fin ei eo (by rw[ga3 hgem,ga3 Oa]at okm;exact okm)]
    exact Om
end Go.Proofs.YtndgolmgaenlfaaGreatDoor
