/- Rows of numbers, atoms and conjunctive queries compared, by the specification; Path patterns compared, by the specification. Conditions: each part's own, as it says. -/
import Derived.Test.YtndgolmgaenlfaaGreatDoorGC
import Derived.Test.YtndgolmgaenlfaaGreatDoorYC
import Derived.Test.YtndgolmgaenlfaaGreatDoorLA
set_option linter.unusedVariables false
set_option linter.unusedSimpArgs false
namespace Go.Proofs.YtndgolmgaenlfaaGreatDoor
set_option maxRecDepth 4000
open Go Go.Abs Go.Val Go.RowKit Go.Proofs.Tryz
attribute [local irreducible] go SGo an9 Ev aw1 EvO EvS PGo RGo RGw ci6
def fv8:List Int→List Int→Int
 |[],[]=>0
 |[],_::_=> -1
 |_::_,[]=>1
 |x::a,y::b=>bif decide (x<y)then-1 else bif decide (x>y)then 1 else fv8 a b
theorem fv9(x y:Int)(a b:List Int):fv8 (x::a) (y::b)=bif decide (x<y)then-1 else bif decide (x>y)then 1 else fv8 a b:=by rw[fv8]
theorem fw0{x y:Int}(h:x<y)(a b:List Int):fv8 (x::a) (y::b)= -1:=by rw[fv9,decide_eq_true h];rfl
theorem fw1{x y:Int}(h:y<x)(a b:List Int):fv8 (x::a) (y::b)=1:=by
 rw[fv9,decide_eq_false (show ¬ x<y by omega),decide_eq_true (show x>y from h)];rfl
theorem fw2(x:Int)(a b:List Int):fv8 (x::a) (x::b)=fv8 a b:=by
 rw[fv9,decide_eq_false (show ¬ x<x by omega)];rfl
theorem fw3:∀a b:List Int,fv8 a b=0→a=b
 |[],[],_=>rfl
 |[],_::_,h=>by simp[fv8]at h
 |_::_,[],h=>by simp[fv8]at h
 |x::a,y::b,h=>by
  rcases Int.lt_trichotomy x y with k|k|k
  ·rw[fw0 k]at h;simp at h
  ·subst k;rw[fw2]at h;rw[fw3 a b h]
  ·rw[fw1 k]at h;simp at h
theorem fw4{a b:List Int}{i:Nat}(ha:i≤a.length)(hb:i≤b.length)(h:a.length≤i∨b.length≤i):fv8 (a.drop i) (b.drop i)=bif decide ((a.length:Int)<b.length)then-1 else bif decide ((a.length:Int)>b.length)then 1 else 0:=by
 have la:(a.drop i).length=a.length-i:=Oc
 have lb:(b.drop i).length=b.length-i:=Oc
 cases hA:a.drop i with
 |nil=>
  rw[hA]at la
  cases hB:b.drop i with
  |nil=>
   rw[hB]at lb;simp only[fz2]at la lb;rw[decide_eq_false Oa,decide_eq_false Oa];rfl
  |cons y q=>
   rw[hB]at lb;simp only[fz2,fy7]at la lb;rw[decide_eq_true Oa];rfl
 |cons x r=>
  rw[hA]at la
  cases hB:b.drop i with
  |nil=>
   rw[hB]at lb;simp only[fz2,fy7]at la lb;rw[decide_eq_false Oa,decide_eq_true Oa];rfl
  |cons y q=>
   rw[hB]at lb;simp only[fy7]at la lb;omega
structure SClY(a b:List Int)(R:Int) where
 i:Nat
 ha:i≤a.length
 hb:i≤b.length
 ok:R=fv8 (a.drop i) (b.drop i)
set_option maxHeartbeats 2000000 in
theorem fw5(a b:List Int):Ev E 96 [.sl (iL a),.sl (iL b)] (.d (.int (fv8 a b))):=Ev.fit fun hfit=>by
 have m1:=(by7 (hfit (.sl (iL a)) Oc)).1;have m2:=(by7 (hfit (.sl (iL b)) Oc)).1;have la:=cl4 a;have lb:=cl4 b;have hend:=fun i ha hb h=>fw4 (a:=a) (b:=b) (i:=i) ha hb h
 rw[←la,←lb]at hend;generalize hR:fv8 a b=R;refine ye2 func96 ntmps96 fun _ _ _=>?_
 repeat'(first|refine yz ?_|refine yx ?_|(refine yy ?_ ?_<;>intro _)|exact zD|exact zL)
 refine ac8 (α:=SClY a b R) (fun p=>⟨[(0,.d (.sl (iL a))),(1,.d (.sl (iL b))),(5,.d (.int p.i))],[]⟩) (fun p=>a.length-p.i) ⟨0,by omega,by omega,hR.symm⟩ (zle 0) ?_;rintro⟨i,ha,hb,ok⟩;dsimp only;have hE:(a.length≤i∨b.length≤i)→R=bif decide (((iL a).length:Int)<(iL b).length)then-1 else bif decide (((iL a).length:Int)>(iL b).length)then 1 else 0:=fun h=>by rw[ok];exact hend i Oa Oa Oa
 rcases fy5 i a.length with hlt|hge
 ·have g1:decide ((i:Int)<((iL a).length:Int))=true:=by rw[la];simpa using hlt
  rcases fy5 i b.length with hlb|hgb
  ·have g2:decide ((i:Int)<((iL b).length:Int))=true:=by rw[lb];simpa using hlb
   have hx0:=fy4 hlt;have hy0:=fy4 hlb;generalize a[i]=x at hx0;generalize b[i]=y at hy0;have hx:=cl6 hx0;have hy:=cl6 hy0;rw[bv7 hx0,bv7 hy0,fv9]at ok
   cases c1:decide (x<y)with
   |true=>
    rw[c1]at ok;rw[show R= -1 from ok]
    repeat'(first|refine yz ?_|refine yi (.int x) hx ?_|refine yi (.int y) hy ?_|refine yx ?_|(refine yy ?_ ?_<;>intro _)|exact zD|exact zL)
   |false=>
    cases c2:decide (x>y)with
    |true=>
     rw[c1,c2]at ok;rw[show R=1 from ok]
     repeat'(first|refine yz ?_|refine yi (.int x) hx ?_|refine yi (.int y) hy ?_|refine yx ?_|(refine yy ?_ ?_<;>intro _)|exact zD|exact zL)
    |false=>
     rw[c1,c2]at ok
     repeat'(first|refine yz ?_|refine yi (.int x) hx ?_|refine yi (.int y) hy ?_|refine yx ?_|(refine yy ?_ ?_<;>intro _)|exact zD|exact zL)
     refine ac2 ?_;exact⟨⟨i+1,by omega,by omega,ok⟩,by dsimp only;omega,(zle 0)⟩
  ·have g2:decide ((i:Int)<((iL b).length:Int))=false:=by rw[lb];simp;omega
   have hE:=hE (.inr hgb)
   cases c1:decide (((iL a).length:Int)<(iL b).length)with
   |true=>
    rw[c1]at hE;rw[show R= -1 from hE]
    exact Om
   |false=>
    cases c2:decide (((iL a).length:Int)>(iL b).length)with
    |true=>
     rw[c1,c2]at hE;rw[show R=1 from hE]
     exact Om
    |false=>
     rw[c1,c2]at hE;rw[show R=0 from hE]
     exact Om
 ·have g1:decide ((i:Int)<((iL a).length:Int))=false:=by rw[la];simp;omega
  have hE:=hE (.inl hge)
  cases c1:decide (((iL a).length:Int)<(iL b).length)with
  |true=>
   rw[c1]at hE;rw[show R= -1 from hE]
   exact Om
  |false=>
   cases c2:decide (((iL a).length:Int)>(iL b).length)with
   |true=>
    rw[c1,c2]at hE;rw[show R=1 from hE]
    exact Om
   |false=>
    rw[c1,c2]at hE;rw[show R=0 from hE]
    exact Om
theorem fw6:∀a:List Int,fv8 a a=0
 |[]=>rfl
 |x::r=>by rw[fv9,decide_eq_false (show ¬ x<x by omega)];exact fw6 r
set_option maxHeartbeats 4000000 in
theorem fw7(a b:AT)(ha:FV a.v)(hb:FV b.v):Ev E 50 [cj6 a,cj6 b] (.d (.bool (eqD a b))):=Ev.fit fun hfit=>by
 have hmax:=(by7 (f:=D.str) ((hfit (cj6 a) Oc).aggs (.sl (a.ty.map D.str)) (by simp[cj6]))).1;have hmax2:=(by7 (f:=D.str) ((hfit (cj6 b) Oc).aggs (.sl (b.ty.map D.str)) (by simp[cj6]))).1;have h1:=cj4 a.v b.v;have h2:=fw5 a.vs b.vs;unfold iL at h2;have hle:(a.ty.map D.str).length=a.ty.length:=Oc
 have hle2:(b.ty.map D.str).length=b.ty.length:=Oc
 clear hfit;have yes:a=b→eqD a b=true:=fu7;have no:∀{P:Prop},¬P→(a=b→P)→eqD a b=false:=fun hp h=>fu8 fun e=>hp (h e)
 generalize eqD a b=z at*;obtain⟨k,vs,nm,ty,v⟩:=a;obtain⟨k',vs',nm',ty',v'⟩:=b;dsimp only at*
 by_cases c1:k=k'
 case neg=>
  have d1:(k !=k')=true:=by simpa using c1
  rw[no c1 fun e=>by cases e;rfl];generalize ci6 v v'=y at*;generalize fv8 vs vs'=u at*;obtain⟨vk,vn,vd,vS,vl⟩:=v;obtain⟨vk',vn',vd',vS',vl'⟩:=v';refine ye2 func50 ntmps50 fun _ _ _=>?_
  exact Om
 subst c1;have d1:=neY k
 by_cases c2:nm=nm'
 case neg=>
  have d2:=fv4 c2;rw[no c2 fun e=>by cases e;rfl];generalize ci6 v v'=y at*;generalize fv8 vs vs'=u at*;obtain⟨vk,vn,vd,vS,vl⟩:=v;obtain⟨vk',vn',vd',vS',vl'⟩:=v';refine ye2 func50 ntmps50 fun _ _ _=>?_
  exact Om
 subst c2;have d2:=nsY nm
 by_cases c3:v=v'
 case neg=>
  have d3:(ci6 v v' !=0)=true:=by
   rw[bne_iff_ne];exact fun e=>c3 (fv0 ha hb e)
  rw[no c3 fun e=>by cases e;rfl];generalize ci6 v v'=y at*;generalize fv8 vs vs'=u at*;obtain⟨vk,vn,vd,vS,vl⟩:=v;obtain⟨vk',vn',vd',vS',vl'⟩:=v';refine ye2 func50 ntmps50 fun _ _ _=>?_
  repeat'(first|refine yz ?_|refine yp b52 h1 ?_|refine yx ?_|(refine yy ?_ ?_<;>intro _)|exact zD|exact zL)
 subst c3;rw[ft7]at h1;have d3:((0:Int) !=0)=false:=rfl
 by_cases c4:vs=vs'
 case neg=>
  have d4:(fv8 vs vs' !=0)=true:=by
   rw[bne_iff_ne];exact fun e=>c4 (fw3 _ _ e)
  rw[no c4 fun e=>by cases e;rfl];generalize fv8 vs vs'=u at*;obtain⟨vk,vn,vd,vS,vl⟩:=v;refine ye2 func50 ntmps50 fun _ _ _=>?_
  repeat'(first|refine yz ?_|refine yp b52 h1 ?_|refine yp b96 h2 ?_|refine yx ?_|(refine yy ?_ ?_<;>intro _)|exact zD|exact zL)
 subst c4;rw[fw6]at h2
 by_cases hl:ty.length=ty'.length
 case neg=>
  have d5:=lnN (l:=ty.map D.str) (m:=ty'.map D.str) (by rw[hle,hle2];exact hl);rw[no (P:=ty=ty') (fun e=>hl (by rw[e])) fun e=>by cases e;rfl];obtain⟨vk,vn,vd,vS,vl⟩:=v;refine ye2 func50 ntmps50 fun _ _ _=>?_
  repeat'(first|refine yz ?_|refine yp b52 h1 ?_|refine yp b96 h2 ?_|refine yx ?_|(refine yy ?_ ?_<;>intro _)|exact zD|exact zL)
 have d5:=lnD (l:=ty.map D.str) (m:=ty'.map D.str) (by rw[hle,hle2,hl]);have noL:ty≠ty'→z=false:=fun h=>no h fun e=>by cases e;rfl
 have yesL:ty=ty'→z=true:=fun e=>yes (by rw[e])
 clear no yes;obtain⟨vk,vn,vd,vS,vl⟩:=v;refine ye2 func50 ntmps50 fun _ _ _=>?_
 repeat'(first|refine yz ?_|refine yp b52 h1 ?_|refine yp b96 h2 ?_|refine yx ?_|(refine yy ?_ ?_<;>intro _)|exact zD|exact zL)
 refine ac8 (α:=SEq ty ty') (fun p=>⟨[(2,.ptr 0 0),(3,.ptr 1 0),(5,.d (.int p.i))],[oAT ⟨k,vs,nm,ty,.mk vk vn vd vS vl⟩,oAT ⟨k,vs,nm,ty',.mk vk vn vd vS vl⟩]⟩) (fun p=>ty.length-p.i) ⟨0,by omega,rfl⟩ (zle 2) ?_;rintro⟨i,hi,ok⟩;dsimp only;rcases fy5 i ty.length with hlt|hge
 ·have q1:decide ((i:Int)<((ty.map D.str).length:Int))=true:=by rw[hle];simpa using hlt
  have hlt2:i<ty'.length:=Oa
  have hx0:=fy4 hlt;have hy0:=fy4 hlt2;generalize ty[i]=x at hx0;generalize ty'[i]=y at hy0;have hx:=cz1 (f:=D.str) hx0;have hy:=cz1 (f:=D.str) hy0
  by_cases hxy:x=y
  ·subst hxy;have q2:=nsY x
   repeat'(first|refine yz ?_|refine yi (.str x) hx ?_|refine yi (.str x) hy ?_|refine yx ?_|(refine yy ?_ ?_<;>intro _)|exact zD|exact zL)
   refine ac2 ?_;exact⟨⟨i+1,by omega,fv1 hx0 hy0 ok⟩,by dsimp only;omega,(zle 2)⟩
  ·have q2:=fv4 hxy;rw[noL (fv3 hx0 hy0 hxy)]
   repeat'(first|refine yz ?_|refine yi (.str x) hx ?_|refine yi (.str y) hy ?_|refine yx ?_|(refine yy ?_ ?_<;>intro _)|exact zD|exact zL)
 ·have q1:decide ((i:Int)<((ty.map D.str).length:Int))=false:=by rw[hle];simp;omega
  rw[yesL (fv2 hl hge ok)]
  exact Om
set_option maxHeartbeats 4000000 in
theorem fw8(c d:CJ)(hc:∀a∈c.as,FV a.v)(hd:∀a∈d.as,FV a.v):Ev E 30 [cj7 c,cj7 d] (.d (.bool (eqD c d))):=Ev.fit fun hfit=>by
 have m1:=(by7 (f:=D.str) ((hfit (cj7 c) Oc).aggs (.sl (c.vs.map D.str)) (by simp[cj7]))).1;have m2:=(by7 (f:=cj6) ((hfit (cj7 c) Oc).aggs (.sl (c.as.map cj6)) (by simp[cj7]))).1;have m3:=(by7 (f:=D.str) ((hfit (cj7 d) Oc).aggs (.sl (d.vs.map D.str)) (by simp[cj7]))).1;have m4:=(by7 (f:=cj6) ((hfit (cj7 d) Oc).aggs (.sl (d.as.map cj6)) (by simp[cj7]))).1;clear hfit;have yes:c=d→eqD c d=true:=fu7;have no:∀{P:Prop},¬P→(c=d→P)→eqD c d=false:=fun hp h=>fu8 fun e=>hp (h e)
 generalize eqD c d=z at*;obtain⟨vs,ats⟩:=c;obtain⟨vs',ats'⟩:=d;dsimp only at*;have l1:(vs.map D.str).length=vs.length:=Oc
 have l2:(ats.map cj6).length=ats.length:=Oc
 have l3:(vs'.map D.str).length=vs'.length:=Oc
 have l4:(ats'.map cj6).length=ats'.length:=Oc
 by_cases hl:vs.length=vs'.length
 case neg=>
  have d1:=lnN (l:=vs.map D.str) (m:=vs'.map D.str) (by rw[l1,l3];exact hl);rw[no (P:=vs=vs') (fun e=>hl (by rw[e])) fun e=>by cases e;rfl];refine ye2 func30 ntmps30 fun _ _ _=>?_
  exact Om
 have d1:=lnD (l:=vs.map D.str) (m:=vs'.map D.str) (by rw[l1,l3,hl])
 by_cases hl2:ats.length=ats'.length
 case neg=>
  have d2:=lnN (l:=ats.map cj6) (m:=ats'.map cj6) (by rw[l2,l4];exact hl2);rw[no (P:=ats=ats') (fun e=>hl2 (by rw[e])) fun e=>by cases e;rfl];refine ye2 func30 ntmps30 fun _ _ _=>?_
  exact Om
 have d2:=lnD (l:=ats.map cj6) (m:=ats'.map cj6) (by rw[l2,l4,hl2]);have noV:vs≠vs'→z=false:=fun h=>no h fun e=>by cases e;rfl
 have noA:ats≠ats'→z=false:=fun h=>no h fun e=>by cases e;rfl
 have yesL:vs=vs'→ats=ats'→z=true:=fun e f=>yes (by rw[e,f])
 clear no yes;refine ye2 func30 ntmps30 fun _ _ _=>?_
 repeat'(first|refine yz ?_|refine yx ?_|(refine yy ?_ ?_<;>intro _)|exact zD|exact zL)
 refine ac8 (α:=SEq vs vs') (fun p=>⟨[(2,.ptr 0 0),(3,.ptr 1 0),(5,.d (.int p.i))],[oCJ ⟨vs,ats⟩,oCJ ⟨vs',ats'⟩]⟩) (fun p=>vs.length-p.i) ⟨0,by omega,rfl⟩ (zle 2) ?_;rintro⟨i,hi,ok⟩;dsimp only;rcases fy5 i vs.length with hlt|hge
 ·have q1:decide ((i:Int)<((vs.map D.str).length:Int))=true:=by rw[l1];simpa using hlt
  have hlt2:i<vs'.length:=Oa
  have hx0:=fy4 hlt;have hy0:=fy4 hlt2;generalize vs[i]=x at hx0;generalize vs'[i]=y at hy0;have hx:=cz1 (f:=D.str) hx0;have hy:=cz1 (f:=D.str) hy0
  by_cases hxy:x=y
  ·subst hxy;have q2:=nsY x
   repeat'(first|refine yz ?_|refine yi (.str x) hx ?_|refine yi (.str x) hy ?_|refine yx ?_|(refine yy ?_ ?_<;>intro _)|exact zD|exact zL)
   refine ac2 ?_;exact⟨⟨i+1,by omega,fv1 hx0 hy0 ok⟩,by dsimp only;omega,(zle 2)⟩
  ·have q2:=fv4 hxy;rw[noV (fv3 hx0 hy0 hxy)]
   repeat'(first|refine yz ?_|refine yi (.str x) hx ?_|refine yi (.str y) hy ?_|refine yx ?_|(refine yy ?_ ?_<;>intro _)|exact zD|exact zL)
 ·have q1:decide ((i:Int)<((vs.map D.str).length:Int))=false:=by rw[l1];simp;omega
  have ev:=fv2 hl hge ok
  repeat'(first|refine yz ?_|refine yx ?_|(refine yy ?_ ?_<;>intro _)|exact zD|exact zL)
  refine ac8 (α:=SEq ats ats') (fun p=>⟨[(2,.ptr 0 0),(3,.ptr 1 0),(6,.d (.int p.i))],[oCJ ⟨vs,ats⟩,oCJ ⟨vs',ats'⟩]⟩) (fun p=>ats.length-p.i) ⟨0,by omega,rfl⟩ (zle 2) ?_;rintro⟨j,hj,ok2⟩;dsimp only;rcases fy5 j ats.length with hlt2|hge2
  ·have q3:decide ((j:Int)<((ats.map cj6).length:Int))=true:=by rw[l2];simpa using hlt2
   have hlt3:j<ats'.length:=Oa
   have hx0:=fy4 hlt2;have hy0:=fy4 hlt3;generalize ats[j]=x at hx0;generalize ats'[j]=y at hy0;have hx:=cz1 (f:=cj6) hx0;have hy:=cz1 (f:=cj6) hy0;have hs:=fw7 x y (hc x (fy6 hx0)) (hd y (fy6 hy0))
   by_cases hxy:x=y
   ·rw[fu7 hxy]at hs;subst hxy
    repeat'(first|refine yz ?_|refine yi (cj6 x) hx ?_|refine yi (cj6 x) hy ?_|refine yp b50 hs ?_|refine yx ?_|(refine yy ?_ ?_<;>intro _)|exact zD|exact zL)
    refine ac2 ?_;exact⟨⟨j+1,by omega,fv1 hx0 hy0 ok2⟩,by dsimp only;omega,(zle 2)⟩
   ·rw[fu8 hxy]at hs;rw[noA (fv3 hx0 hy0 hxy)]
    repeat'(first|refine yz ?_|refine yi (cj6 x) hx ?_|refine yi (cj6 y) hy ?_|refine yp b50 hs ?_|refine yx ?_|(refine yy ?_ ?_<;>intro _)|exact zD|exact zL)
  ·have q3:decide ((j:Int)<((ats.map cj6).length:Int))=false:=by rw[l2];simp;omega
   rw[yesL ev (fv2 hl2 hge2 ok2)]
   exact Om
theorem rtW{C:Cx}{tm:List (Nat × X)}{ob:List aa5}{m:Nat}{l:List Oper}{E:List Nat}{zs:(Nat→Bool)→List aa5}{i d:Nat}{o:Oper}{rest:List Oper}{K:List (Nat × X)→Prop}{p:Prop}{x:X}(hO:ap7 ob.length ob)(h:bn7 C l E ob m zs (i+1) rest ((d,x)::tm) K)
  (hdst:o.dst=some d:=by exact rfl)(hv:vop C ⟨bi8 ob.length tm,ob⟩ o=some (p,x):=by exact rfl)(hp:p:=by first|exact True.intro|rfl|assumption|omega|(simp only[inR];omega))(hne:E.contains i=false:=by exact rfl)(hg:ap8 l.toArray tm o=some true:=by exact rfl)(hd:Nat.blt d C.N=true:=by exact rfl)
  (hn:Nat.ble C.base.n0 ob.length=true:=by exact rfl)(hb:x.below ob.length=true:=by exact rfl):bn7 C l E ob m zs i (o::rest) tm K:=rtV hO hv h hp hne hg hdst hd hn hb
def zsG(t:TypeId)(z:aa5)(d e:D)(S:Nat→Bool):List aa5:=[bif S 12 then oY t d else bif S 10 then z else .dead,bif S 13 then oY t e else bif S 11 then z else .dead]
structure FVA(p:PA):Prop where
 n:∀n∈p.ns,∀q∈n.ps,alE FVe q.e
 e:∀n∈p.es,∀q∈n.ps,alE FVe q.e
set_option maxHeartbeats 8000000 in
theorem fw9(a b:PA)(ha:FVA a)(hb:FVA b):Ev E 51 [cu0 a,cu0 b] (.d (.bool (eqD a b))):=Ev.fit fun hfit=>by
 have m1:=(by7 (f:=ct8) ((hfit (cu0 a) Oc).aggs (.sl (a.ns.map ct8)) (by simp[cu0]))).1;have m2:=(by7 (f:=ct9) ((hfit (cu0 a) Oc).aggs (.sl (a.es.map ct9)) (by simp[cu0]))).1;have m3:=(by7 (f:=ct8) ((hfit (cu0 b) Oc).aggs (.sl (b.ns.map ct8)) (by simp[cu0]))).1;have m4:=(by7 (f:=ct9) ((hfit (cu0 b) Oc).aggs (.sl (b.es.map ct9)) (by simp[cu0]))).1;clear hfit;have yes:a=b→eqD a b=true:=fu7;have no:∀{P:Prop},¬P→(a=b→P)→eqD a b=false:=fun hp h=>fu8 fun e=>hp (h e)
 generalize eqD a b=z at*;obtain⟨han,hae⟩:=ha;obtain⟨hbn,hbe⟩:=hb;obtain⟨vr,ns,es⟩:=a;obtain⟨vr',ns',es'⟩:=b;dsimp only at*;have l1:(ns.map ct8).length=ns.length:=Oc
 have l2:(es.map ct9).length=es.length:=Oc
 have l3:(ns'.map ct8).length=ns'.length:=Oc
 have l4:(es'.map ct9).length=es'.length:=Oc
 by_cases c1:vr=vr'
 case neg=>
  have d1:=fv4 c1;have d1':(vr.toList !=vr'.toList)=true:=d1;rw[no c1 fun e=>by cases e;rfl];refine ye2 func51 ntmps51 fun _ _ _=>?_
  exact Om
 subst c1;have g3:=nsY vr;have g3':(vr.toList !=vr.toList)=false:=Oc
 by_cases hl:ns.length=ns'.length
 case neg=>
  have d1:=lnN (l:=ns.map ct8) (m:=ns'.map ct8) (by rw[l1,l3];exact hl);rw[no (P:=ns=ns') (fun e=>hl (by rw[e])) fun e=>by cases e;rfl];refine ye2 func51 ntmps51 fun _ _ _=>?_
  exact Om
 have g1:=lnD (l:=ns.map ct8) (m:=ns'.map ct8) (by rw[l1,l3,hl])
 by_cases hl2:es.length=es'.length
 case neg=>
  have d1:=lnN (l:=es.map ct9) (m:=es'.map ct9) (by rw[l2,l4];exact hl2);rw[no (P:=es=es') (fun e=>hl2 (by rw[e])) fun e=>by cases e;rfl];refine ye2 func51 ntmps51 fun _ _ _=>?_
  exact Om
 have g2:=lnD (l:=es.map ct9) (m:=es'.map ct9) (by rw[l2,l4,hl2]);have noN:ns≠ns'→z=false:=fun h=>no h fun e=>by cases e;rfl
 have noE:es≠es'→z=false:=fun h=>no h fun e=>by cases e;rfl
 have yesL:ns=ns'→es=es'→z=true:=fun e f=>yes (by rw[e,f])
 clear no yes;refine ye2 func51 ntmps51 fun _ _ _=>?_
 repeat'(first|refine yz ?_|refine yx ?_|(refine yy ?_ ?_<;>intro _)|exact zD|exact zL)
 refine ac8 (α:=SEq ns ns') (fun p=>⟨[(2,.ptr 0 0),(3,.ptr 1 0),(5,.d (.int p.i))],[oPA ⟨vr,ns,es⟩,oPA ⟨vr,ns',es'⟩]⟩) (fun p=>ns.length-p.i) ⟨0,by omega,rfl⟩ (zle 2) ?_;rintro⟨i,hi,ok⟩;dsimp only;rcases fy5 i ns.length with hlt|hge
 ·have q1:decide ((i:Int)<((ns.map ct8).length:Int))=true:=by rw[l1];simpa using hlt
  have hlt2:i<ns'.length:=Oa
  have hx0:=fy4 hlt;have hy0:=fy4 hlt2;generalize ns[i]=x at hx0;generalize ns'[i]=y at hy0;have hx:=cz1 (f:=ct8) hx0;have hy:=cz1 (f:=ct8) hy0;have h1:=fv5 x.lb y.lb;have h2:=fv7 x.ps y.ps (han x (fy6 hx0)) (hbn y (fy6 hy0));have hno:x≠y→z=false:=fun h=>noN (fv3 hx0 hy0 h)
  have hnx:x=y→ns.take (i+1)=ns'.take (i+1):=fun h=>fv1 hx0 (h ▸ hy0) ok
  clear hx0 hy0;obtain⟨xv,xl,xp⟩:=x;obtain⟨uv,ul,up⟩:=y;dsimp only at*
  repeat'(first|(refine ft6 6 ?_)|refine yz ?_|refine yx ?_|(refine yy ?_ ?_<;>intro _)|exact zD|exact zL)
  refine⟨?_⟩;refine qRY (id:=6) [10,11,12,13] 2 (zsG 78 zYN (ct8 ⟨xv,xl,xp⟩) (ct8 ⟨uv,ul,up⟩)) [oPA ⟨vr,ns,es⟩,oPA ⟨vr,ns',es'⟩,oY 78 (ct8 ⟨xv,xl,xp⟩),oY 78 (ct8 ⟨uv,ul,up⟩)] ?_ ?_ ?_
  ·have hO:ap7 ([oPA ⟨vr,ns,es⟩,oPA ⟨vr,ns',es'⟩]).length ([oPA ⟨vr,ns,es⟩,oPA ⟨vr,ns',es'⟩]):=by repeat(first|exact trivial|refine⟨rfl,?_⟩)
   refine rtW hO ?_;refine rtW hO ?_;refine rtW hO ?_;refine rtX (x:=.at_ (ct8 ⟨xv,xl,xp⟩) 0) (fun _ _=>an5 rfl rfl rfl rfl (gi9 _) hx rfl) ?_;refine rtW hO ?_;refine rtW hO ?_;refine rtW hO ?_;refine rtW hO ?_;refine rtX (x:=.at_ (ct8 ⟨uv,ul,up⟩) 0) (fun _ _=>an5 rfl rfl rfl rfl (gi9 _) hy rfl) ?_;refine rtW hO ?_;refine rtE 0 (.ptr 2 0) ?_ ?_
   ·intro S hD hDi tm' hev hsl;have d12:=hD.behind 12;have e1:zsG 78 zYN (ct8 ⟨xv,xl,xp⟩) (ct8 ⟨uv,ul,up⟩) S=[.dead,bif S 13 then oY 78 (ct8 ⟨uv,ul,up⟩)else bif S 11 then zYN else .dead]:=by simp only[zsG,hDi,d12];rfl
    have e2:zsG 78 zYN (ct8 ⟨xv,xl,xp⟩) (ct8 ⟨uv,ul,up⟩) (fun e=>S e||e==10)=[zYN,bif S 13 then oY 78 (ct8 ⟨uv,ul,up⟩)else bif S 11 then zYN else .dead]:=by simp only[zsG,hDi,d12,show((10:Nat)==10)=true from rfl,show((11:Nat)==10)=false from rfl,show((12:Nat)==10)=false from rfl,show((13:Nat)==10)=false from rfl,gc6,Bool.or_true];rfl
    dsimp only;rw[e1,e2];refine SOp.fill (d:=6) (n:=4) (j:=2) (R:=(.ptr · 0)) (y:=zYN) (ob1:=[oPA ⟨vr,ns,es⟩,oPA ⟨vr,ns',es'⟩]++ [.dead,bif S 13 then oY 78 (ct8 ⟨uv,ul,up⟩)else bif S 11 then zYN else .dead]) ?_ rfl (.ptr 0) hsl rfl rfl (ga8 _) (bn9.old (m:=2) hO (gc0 rfl) (.cons rfl (.cons (ft5 rfl (ft5 rfl rfl)) .nil))) (ft4 rfl);refine SOp.same (am6 Ok Ok Ok Ok) ?_;exact rfl
   refine rtE 1 (.ptr 3 0) ?_ ?_
   ·intro S hD hDi tm' hev hsl;have d13:=hD.behind 13;have e1:zsG 78 zYN (ct8 ⟨xv,xl,xp⟩) (ct8 ⟨uv,ul,up⟩) S=[bif S 12 then oY 78 (ct8 ⟨xv,xl,xp⟩)else bif S 10 then zYN else .dead,.dead]:=by simp only[zsG,hDi,d13];rfl
    have e2:zsG 78 zYN (ct8 ⟨xv,xl,xp⟩) (ct8 ⟨uv,ul,up⟩) (fun e=>S e||e==11)=[bif S 12 then oY 78 (ct8 ⟨xv,xl,xp⟩)else bif S 10 then zYN else .dead,zYN]:=by simp only[zsG,hDi,d13,show((10:Nat)==11)=false from rfl,show((11:Nat)==11)=true from rfl,show((12:Nat)==11)=false from rfl,show((13:Nat)==11)=false from rfl,gc6,Bool.or_true];rfl
    dsimp only;rw[e1,e2];refine SOp.fill (d:=7) (n:=4) (j:=3) (R:=(.ptr · 0)) (y:=zYN) (ob1:=[oPA ⟨vr,ns,es⟩,oPA ⟨vr,ns',es'⟩]++ [bif S 12 then oY 78 (ct8 ⟨xv,xl,xp⟩)else bif S 10 then zYN else .dead,.dead]) ?_ rfl (.ptr 0) hsl rfl rfl (ga8 _) (bn9.old (m:=2) hO (gc0 rfl) (.cons (ft5 rfl (ft5 rfl rfl)) (.cons rfl .nil))) (ft4 rfl);refine SOp.same (am6 Ok Ok Ok Ok) ?_;exact rfl
   refine rtE 2 .und ?_ ?_
   ·intro S hD hDi tm' hev hsl;have d10:=hD.ahead 10;have e1:zsG 78 zYN (ct8 ⟨xv,xl,xp⟩) (ct8 ⟨uv,ul,up⟩) S=[zYN,bif S 13 then oY 78 (ct8 ⟨uv,ul,up⟩)else bif S 11 then zYN else .dead]:=by simp only[zsG,hDi,d10];rfl
    have e2:zsG 78 zYN (ct8 ⟨xv,xl,xp⟩) (ct8 ⟨uv,ul,up⟩) (fun e=>S e||e==12)=[oY 78 (ct8 ⟨xv,xl,xp⟩),bif S 13 then oY 78 (ct8 ⟨uv,ul,up⟩)else bif S 11 then zYN else .dead]:=by simp only[zsG,hDi,d10,show((10:Nat)==12)=false from rfl,show((11:Nat)==12)=false from rfl,show((12:Nat)==12)=true from rfl,show((13:Nat)==12)=false from rfl,gc6,Bool.or_true];rfl
    have w1:=hev (.tmp 6) (by simp[Op.operands,Call.operands]);have w2:=hev (.tmp 45) (by simp[Op.operands,Call.operands]);dsimp only at w1 w2 ⊢;rw[e1]at w1 w2 ⊢;rw[e2];refine SOp.same (an4 (i:=2) Ok Ok (w1.trans rfl) (w2.trans rfl) Ok Ok Ok Ok Ok) ?_;exact rfl
   refine rtE 3 .und ?_ ?_
   ·intro S hD hDi tm' hev hsl;have d11:=hD.ahead 11;have e1:zsG 78 zYN (ct8 ⟨xv,xl,xp⟩) (ct8 ⟨uv,ul,up⟩) S=[bif S 12 then oY 78 (ct8 ⟨xv,xl,xp⟩)else bif S 10 then zYN else .dead,zYN]:=by simp only[zsG,hDi,d11];rfl
    have e2:zsG 78 zYN (ct8 ⟨xv,xl,xp⟩) (ct8 ⟨uv,ul,up⟩) (fun e=>S e||e==13)=[bif S 12 then oY 78 (ct8 ⟨xv,xl,xp⟩)else bif S 10 then zYN else .dead,oY 78 (ct8 ⟨uv,ul,up⟩)]:=by simp only[zsG,hDi,d11,show((10:Nat)==13)=false from rfl,show((11:Nat)==13)=false from rfl,show((12:Nat)==13)=false from rfl,show((13:Nat)==13)=true from rfl,gc6,Bool.or_true];rfl
    have w1:=hev (.tmp 7) (by simp[Op.operands,Call.operands]);have w2:=hev (.tmp 50) (by simp[Op.operands,Call.operands]);dsimp only at w1 w2 ⊢;rw[e1]at w1 w2 ⊢;rw[e2];refine SOp.same (an4 (i:=3) Ok Ok (w1.trans rfl) (w2.trans rfl) Ok Ok Ok Ok Ok) ?_;exact rfl
   refine rtN ?_
   by_cases e1:xv=uv
   case neg=>
    have q2:=fv4 e1;rw[hno fun e=>e1 (by cases e;rfl)]
    exact Om
   subst e1;have q2:=nsY xv
   by_cases e2:xl=ul
   case neg=>
    rw[fu8 e2]at h1;rw[hno fun e=>e2 (by cases e;rfl)]
    repeat'(first|refine yz ?_|refine yp b97 h1 ?_|refine yx ?_|(refine yy ?_ ?_<;>intro _)|exact zD|exact zL)
   subst e2;rw[fu7 rfl]at h1
   by_cases e3:xp=up
   case neg=>
    rw[fu8 e3]at h2;rw[hno fun e=>e3 (by cases e;rfl)]
    repeat'(first|refine yz ?_|refine yp b97 h1 ?_|refine yp b98 h2 ?_|refine yx ?_|(refine yy ?_ ?_<;>intro _)|exact zD|exact zL)
   rw[fu7 e3]at h2
   repeat'(first|refine yz ?_|refine yp b97 h1 ?_|refine yp b98 h2 ?_|refine yx ?_|(refine yy ?_ ?_<;>intro _)|exact zD|exact zL)
   refine ac2 ?_;exact⟨⟨i+1,by omega,hnx (by rw[e3])⟩,by dsimp only;omega,(zle 2)⟩
  ·intro D hD;have d10:=hD 10 Oc;have d11:=hD 11 Oc;have d12:=hD 12 Oc;have d13:=hD 13 Oc;simp only[zsG,d10,d11,d12,d13];rfl
  ·intro D hD;have d10:=hD 10 Oc;have d11:=hD 11 Oc;have d12:=hD 12 Oc;have d13:=hD 13 Oc;simp only[zsG,d10,d11,d12,d13];rfl
 ·have q1:decide ((i:Int)<((ns.map ct8).length:Int))=false:=by rw[l1];simp;omega
  have en:=fv2 hl hge ok
  repeat'(first|refine yz ?_|refine yx ?_|(refine yy ?_ ?_<;>intro _)|exact zD|exact zL)
  refine ac8 (α:=SEq es es') (fun p=>⟨[(2,.ptr 0 0),(3,.ptr 1 0),(8,.d (.int p.i))],[oPA ⟨vr,ns,es⟩,oPA ⟨vr,ns',es'⟩]⟩) (fun p=>es.length-p.i) ⟨0,by omega,rfl⟩ (zle 2) ?_;rintro⟨j,hj,ok2⟩;dsimp only;rcases fy5 j es.length with hlt2|hge2
  ·have q3:decide ((j:Int)<((es.map ct9).length:Int))=true:=by rw[l2];simpa using hlt2
   have hlt3:j<es'.length:=Oa
   have hx0:=fy4 hlt2;have hy0:=fy4 hlt3;generalize es[j]=x at hx0;generalize es'[j]=y at hy0;have hx:=cz1 (f:=ct9) hx0;have hy:=cz1 (f:=ct9) hy0;have h1:=fv5 x.ty y.ty;have h2:=fv7 x.ps y.ps (hae x (fy6 hx0)) (hbe y (fy6 hy0));have hno:x≠y→z=false:=fun h=>noE (fv3 hx0 hy0 h)
   have hnx:x=y→es.take (j+1)=es'.take (j+1):=fun h=>fv1 hx0 (h ▸ hy0) ok2
   clear hx0 hy0;obtain⟨xv,xt,xd,xm,xa,xb,xp⟩:=x;obtain⟨uv,ut,ud,um,ua,ub,up⟩:=y;dsimp only at*
   repeat'(first|(refine ft6 12 ?_)|refine yz ?_|refine yx ?_|(refine yy ?_ ?_<;>intro _)|exact zD|exact zL)
   refine⟨?_⟩;refine qRY (id:=12) [10,11,12,13] 2 (zsG 76 zYE (ct9 ⟨xv,xt,xd,xm,xa,xb,xp⟩) (ct9 ⟨uv,ut,ud,um,ua,ub,up⟩)) [oPA ⟨vr,ns,es⟩,oPA ⟨vr,ns',es'⟩,oY 76 (ct9 ⟨xv,xt,xd,xm,xa,xb,xp⟩),oY 76 (ct9 ⟨uv,ut,ud,um,ua,ub,up⟩)] ?_ ?_ ?_
   ·have hO:ap7 ([oPA ⟨vr,ns,es⟩,oPA ⟨vr,ns',es'⟩]).length ([oPA ⟨vr,ns,es⟩,oPA ⟨vr,ns',es'⟩]):=by repeat(first|exact trivial|refine⟨rfl,?_⟩)
    refine rtW hO ?_;refine rtW hO ?_;refine rtW hO ?_;refine rtX (x:=.at_ (ct9 ⟨xv,xt,xd,xm,xa,xb,xp⟩) 0) (fun _ _=>an5 rfl rfl rfl rfl (gi9 _) hx rfl) ?_;refine rtW hO ?_;refine rtW hO ?_;refine rtW hO ?_;refine rtW hO ?_;refine rtX (x:=.at_ (ct9 ⟨uv,ut,ud,um,ua,ub,up⟩) 0) (fun _ _=>an5 rfl rfl rfl rfl (gi9 _) hy rfl) ?_;refine rtW hO ?_;refine rtE 0 (.ptr 2 0) ?_ ?_
    ·intro S hD hDi tm' hev hsl;have d12:=hD.behind 12;have e1:zsG 76 zYE (ct9 ⟨xv,xt,xd,xm,xa,xb,xp⟩) (ct9 ⟨uv,ut,ud,um,ua,ub,up⟩) S=[.dead,bif S 13 then oY 76 (ct9 ⟨uv,ut,ud,um,ua,ub,up⟩)else bif S 11 then zYE else .dead]:=by simp only[zsG,hDi,d12];rfl
     have e2:zsG 76 zYE (ct9 ⟨xv,xt,xd,xm,xa,xb,xp⟩) (ct9 ⟨uv,ut,ud,um,ua,ub,up⟩) (fun e=>S e||e==10)=[zYE,bif S 13 then oY 76 (ct9 ⟨uv,ut,ud,um,ua,ub,up⟩)else bif S 11 then zYE else .dead]:=by simp only[zsG,hDi,d12,show((10:Nat)==10)=true from rfl,show((11:Nat)==10)=false from rfl,show((12:Nat)==10)=false from rfl,show((13:Nat)==10)=false from rfl,gc6,Bool.or_true];rfl
     dsimp only;rw[e1,e2];refine SOp.fill (d:=9) (n:=4) (j:=2) (R:=(.ptr · 0)) (y:=zYE) (ob1:=[oPA ⟨vr,ns,es⟩,oPA ⟨vr,ns',es'⟩]++ [.dead,bif S 13 then oY 76 (ct9 ⟨uv,ut,ud,um,ua,ub,up⟩)else bif S 11 then zYE else .dead]) ?_ rfl (.ptr 0) hsl rfl rfl (ga8 _) (bn9.old (m:=2) hO (gc0 rfl) (.cons rfl (.cons (ft5 rfl (ft5 rfl rfl)) .nil))) (ft4 rfl);refine SOp.same (am6 Ok Ok Ok Ok) ?_;exact rfl
    refine rtE 1 (.ptr 3 0) ?_ ?_
    ·intro S hD hDi tm' hev hsl;have d13:=hD.behind 13;have e1:zsG 76 zYE (ct9 ⟨xv,xt,xd,xm,xa,xb,xp⟩) (ct9 ⟨uv,ut,ud,um,ua,ub,up⟩) S=[bif S 12 then oY 76 (ct9 ⟨xv,xt,xd,xm,xa,xb,xp⟩)else bif S 10 then zYE else .dead,.dead]:=by simp only[zsG,hDi,d13];rfl
     have e2:zsG 76 zYE (ct9 ⟨xv,xt,xd,xm,xa,xb,xp⟩) (ct9 ⟨uv,ut,ud,um,ua,ub,up⟩) (fun e=>S e||e==11)=[bif S 12 then oY 76 (ct9 ⟨xv,xt,xd,xm,xa,xb,xp⟩)else bif S 10 then zYE else .dead,zYE]:=by simp only[zsG,hDi,d13,show((10:Nat)==11)=false from rfl,show((11:Nat)==11)=true from rfl,show((12:Nat)==11)=false from rfl,show((13:Nat)==11)=false from rfl,gc6,Bool.or_true];rfl
     dsimp only;rw[e1,e2];refine SOp.fill (d:=10) (n:=4) (j:=3) (R:=(.ptr · 0)) (y:=zYE) (ob1:=[oPA ⟨vr,ns,es⟩,oPA ⟨vr,ns',es'⟩]++ [bif S 12 then oY 76 (ct9 ⟨xv,xt,xd,xm,xa,xb,xp⟩)else bif S 10 then zYE else .dead,.dead]) ?_ rfl (.ptr 0) hsl rfl rfl (ga8 _) (bn9.old (m:=2) hO (gc0 rfl) (.cons (ft5 rfl (ft5 rfl rfl)) (.cons rfl .nil))) (ft4 rfl);refine SOp.same (am6 Ok Ok Ok Ok) ?_;exact rfl
    refine rtE 2 .und ?_ ?_
    ·intro S hD hDi tm' hev hsl;have d10:=hD.ahead 10;have e1:zsG 76 zYE (ct9 ⟨xv,xt,xd,xm,xa,xb,xp⟩) (ct9 ⟨uv,ut,ud,um,ua,ub,up⟩) S=[zYE,bif S 13 then oY 76 (ct9 ⟨uv,ut,ud,um,ua,ub,up⟩)else bif S 11 then zYE else .dead]:=by simp only[zsG,hDi,d10];rfl
     have e2:zsG 76 zYE (ct9 ⟨xv,xt,xd,xm,xa,xb,xp⟩) (ct9 ⟨uv,ut,ud,um,ua,ub,up⟩) (fun e=>S e||e==12)=[oY 76 (ct9 ⟨xv,xt,xd,xm,xa,xb,xp⟩),bif S 13 then oY 76 (ct9 ⟨uv,ut,ud,um,ua,ub,up⟩)else bif S 11 then zYE else .dead]:=by simp only[zsG,hDi,d10,show((10:Nat)==12)=false from rfl,show((11:Nat)==12)=false from rfl,show((12:Nat)==12)=true from rfl,show((13:Nat)==12)=false from rfl,gc6,Bool.or_true];rfl
     have w1:=hev (.tmp 9) (by simp[Op.operands,Call.operands]);have w2:=hev (.tmp 83) (by simp[Op.operands,Call.operands]);dsimp only at w1 w2 ⊢;rw[e1]at w1 w2 ⊢;rw[e2];refine SOp.same (an4 (i:=2) Ok Ok (w1.trans rfl) (w2.trans rfl) Ok Ok Ok Ok Ok) ?_;exact rfl
    refine rtE 3 .und ?_ ?_
    ·intro S hD hDi tm' hev hsl;have d11:=hD.ahead 11;have e1:zsG 76 zYE (ct9 ⟨xv,xt,xd,xm,xa,xb,xp⟩) (ct9 ⟨uv,ut,ud,um,ua,ub,up⟩) S=[bif S 12 then oY 76 (ct9 ⟨xv,xt,xd,xm,xa,xb,xp⟩)else bif S 10 then zYE else .dead,zYE]:=by simp only[zsG,hDi,d11];rfl
     have e2:zsG 76 zYE (ct9 ⟨xv,xt,xd,xm,xa,xb,xp⟩) (ct9 ⟨uv,ut,ud,um,ua,ub,up⟩) (fun e=>S e||e==13)=[bif S 12 then oY 76 (ct9 ⟨xv,xt,xd,xm,xa,xb,xp⟩)else bif S 10 then zYE else .dead,oY 76 (ct9 ⟨uv,ut,ud,um,ua,ub,up⟩)]:=by simp only[zsG,hDi,d11,show((10:Nat)==13)=false from rfl,show((11:Nat)==13)=false from rfl,show((12:Nat)==13)=false from rfl,show((13:Nat)==13)=true from rfl,gc6,Bool.or_true];rfl
     have w1:=hev (.tmp 10) (by simp[Op.operands,Call.operands]);have w2:=hev (.tmp 88) (by simp[Op.operands,Call.operands]);dsimp only at w1 w2 ⊢;rw[e1]at w1 w2 ⊢;rw[e2];refine SOp.same (an4 (i:=3) Ok Ok (w1.trans rfl) (w2.trans rfl) Ok Ok Ok Ok Ok) ?_;exact rfl
    refine rtN ?_
    by_cases e1:xv=uv
    case neg=>
     have q2:=fv4 e1;rw[hno fun e=>e1 (by cases e;rfl)]
     exact Om
    subst e1;have q2:=nsY xv
    by_cases e2:xt=ut
    case neg=>
     rw[fu8 e2]at h1;rw[hno fun e=>e2 (by cases e;rfl)]
     repeat'(first|refine yz ?_|refine yp b97 h1 ?_|refine yx ?_|(refine yy ?_ ?_<;>intro _)|exact zD|exact zL)
    subst e2;rw[fu7 rfl]at h1
    by_cases fxd:xd=ud
    case neg=>
     have q4:(xd !=ud)=true:=by simpa using fxd
     rw[hno fun e=>fxd (by cases e;rfl)]
     repeat'(first|refine yz ?_|refine yp b97 h1 ?_|refine yx ?_|(refine yy ?_ ?_<;>intro _)|exact zD|exact zL)
    subst fxd;have qxd:=neY xd
    by_cases fxm:xm=um
    case neg=>
     have q4:(xm !=um)=true:=by simpa using fxm
     rw[hno fun e=>fxm (by cases e;rfl)]
     repeat'(first|refine yz ?_|refine yp b97 h1 ?_|refine yx ?_|(refine yy ?_ ?_<;>intro _)|exact zD|exact zL)
    subst fxm;have qxm:=neY xm
    by_cases fxa:xa=ua
    case neg=>
     have q4:(xa !=ua)=true:=by simpa using fxa
     rw[hno fun e=>fxa (by cases e;rfl)]
     repeat'(first|refine yz ?_|refine yp b97 h1 ?_|refine yx ?_|(refine yy ?_ ?_<;>intro _)|exact zD|exact zL)
    subst fxa;have qxa:=neY xa
    by_cases fxb:xb=ub
    case neg=>
     have q4:(xb !=ub)=true:=by simpa using fxb
     rw[hno fun e=>fxb (by cases e;rfl)]
     repeat'(first|refine yz ?_|refine yp b97 h1 ?_|refine yx ?_|(refine yy ?_ ?_<;>intro _)|exact zD|exact zL)
    subst fxb;have qxb:=neY xb
    by_cases e3:xp=up
    case neg=>
     rw[fu8 e3]at h2;rw[hno fun e=>e3 (by cases e;rfl)]
     repeat'(first|refine yz ?_|refine yp b97 h1 ?_|refine yp b98 h2 ?_|refine yx ?_|(refine yy ?_ ?_<;>intro _)|exact zD|exact zL)
    rw[fu7 e3]at h2
    repeat'(first|refine yz ?_|refine yp b97 h1 ?_|refine yp b98 h2 ?_|refine yx ?_|(refine yy ?_ ?_<;>intro _)|exact zD|exact zL)
    refine ac2 ?_;exact⟨⟨j+1,by omega,hnx (by rw[e3])⟩,by dsimp only;omega,(zle 2)⟩
   ·intro D hD;have d10:=hD 10 Oc;have d11:=hD 11 Oc;have d12:=hD 12 Oc;have d13:=hD 13 Oc;simp only[zsG,d10,d11,d12,d13];rfl
   ·intro D hD;have d10:=hD 10 Oc;have d11:=hD 11 Oc;have d12:=hD 12 Oc;have d13:=hD 13 Oc;simp only[zsG,d10,d11,d12,d13];rfl
  ·have q3:decide ((j:Int)<((es.map ct9).length:Int))=false:=by rw[l2];simp;omega
   rw[yesL en (fv2 hl2 hge2 ok2)]
   exact Om
end Go.Proofs.YtndgolmgaenlfaaGreatDoor
