/- Expressions and lists of properties compared, by the specification; Lists of names, expressions and lists of properties compared, by the specification. Conditions: each part's own, as it says. -/
import Derived.Test.YtndgolmgaenlfaaGreatDoorGC
import Derived.Test.YtndgolmgaenlfaaGreatDoorYB
import Derived.Test.YtndgolmgaenlfaaGreatDoorHC
set_option linter.unusedVariables false
set_option linter.unusedSimpArgs false
namespace Go.Proofs.YtndgolmgaenlfaaGreatDoor
set_option maxRecDepth 4000
open Go Go.Abs Go.Val Go.RowKit Go.Proofs.Tryz
attribute [local irreducible] go SGo an9 Ev aw1 EvO EvS RGo RGw PGo ci6
noncomputable def eqD {α:Type} (a b:α):Bool:= @decide (a=b) (Classical.propDecidable _)
theorem fu7{α:Type}{a b:α}(h:a=b):eqD a b=true:= @decide_eq_true _ (Classical.propDecidable _) h
theorem fu8{α:Type}{a b:α}(h:a≠b):eqD a b=false:= @decide_eq_false _ (Classical.propDecidable _) h
def FV(v:V):Prop:=v=bq3∨bq9 v=true
theorem ci_z{x y:Int}(h:ci x y=0):x=y:=by
 rcases(show x<y∨x=y∨x>y by omega)with g|g|g
 ·rw[ch6 g]at h;cases h
 ·exact g
 ·rw[ch7 g]at h;cases h
theorem cs_z{a b:ByteArray}(h:cs a b=0):a=b:=by
 unfold cs at h
 cases c1:Op.bytesLess a.toList b.toList with
 |true=>rw[c1]at h;exact absurd (show(-1:Int)=0 from h) Od
 |false=>
  cases c2:a.toList==b.toList with
  |false=>rw[c1,c2]at h;exact absurd (show(1:Int)=0 from h) Od
  |true=>exact dc2 (by simpa using c2)
theorem or_z{x y:Int}(h:orI x y=0):x=0∧y=0:=by
 unfold orI at h
 cases c:x !=0 with
 |true=>rw[c,cond_true]at h;rw[h]at c;cases c
 |false=>rw[c,cond_false]at h;exact⟨by simpa using c,h⟩
theorem sgn_z{x:Int}(h:sgn x=0):x=0:=by
 unfold sgn at h;split at h
 ·cases h
 ·split at h
  ·cases h
  ·omega
theorem fu9{n:Int}(h:Val.okV (.mk 2 n 0 ⟨#[]⟩ [])=true):br1 (.mk 2 n 0 ⟨#[]⟩ [])=n∧br2 (.mk 2 n 0 ⟨#[]⟩ [])=1∧bq2 n 1=true:=by
 have hi:br0 (.mk 2 n 0 ⟨#[]⟩ [])=true:=by unfold br0;rw[h];rfl
 refine⟨by unfold br1;rw[hi];rfl,by unfold br2;rw[hi];rfl,?_⟩;unfold Val.okV at h;rw[bw2 8 2 n 0 ⟨#[]⟩ [] Oa Oa]at h;simp[bq5,V.k,V.n,V.d,V.s,V.l]at h;unfold bq2;rw[h.2];simp
theorem fv0{v w:V}(hv:FV v)(hw:FV w)(h:ci6 v w=0):v=w:=by
 have ok:∀{v:V},FV v→Val.okV v=true:=fun{v} h=>h.elim (fun e=>by rw[e];decide+kernel) fun h=>(fp2 h).1
 have ov:=ok hv;have ow:=ok hw;have fl:∀{v:V},FV v→v=bq3∨(∃n,(n=0∨n=1)∧v=.mk 1 n 0 ⟨#[]⟩ [])∨(∃n,v=.mk 2 n 0 ⟨#[]⟩ [])∨∃s,v=.mk 4 0 0 s []:=fun{v} h=>h.elim .inl fun h=>.inr (fp2 h).2
 have k0:ci6 v w=ci5 v w (ci1 ci6 v.l w.l):=by
  obtain⟨k,n,d,s,l⟩:=v;obtain⟨k',n',d',s',l'⟩:=w;rw[ci9]
 rw[k0]at h;clear k0;unfold ci5 at h;rw[ov,ow]at h;have h:(bif ci (ci3 v.k) (ci3 w.k) !=0 then ci (ci3 v.k) (ci3 w.k)else bif br0 v then ce8 (br1 v) (br2 v) (br1 w) (br2 w)else ci4 v w (ci1 ci6 v.l w.l))=0:=h
 have hk:ci (ci3 v.k) (ci3 w.k)=0:=by
  cases c:ci (ci3 v.k) (ci3 w.k) !=0 with
  |true=>rw[c,cond_true]at h;exact h
  |false=>simpa using c
 rw[hk]at h;have h:(bif br0 v then ce8 (br1 v) (br2 v) (br1 w) (br2 w)else ci4 v w (ci1 ci6 v.l w.l))=0:=h;have hk:=ci_z hk
 have hd:br0 v=false→v.k=w.k∧v.n=w.n∧v.s=w.s:=fun hn=>by
  rw[hn,cond_false]at h;unfold ci4 at h;obtain⟨h1,h2⟩:=or_z h;obtain⟨h3,h4⟩:=or_z h2;obtain⟨h5,h6⟩:=or_z h4;obtain⟨h7,-⟩:=or_z h6;exact⟨ci_z h1,ci_z h3,cs_z h7⟩
 rcases fl hv with e|⟨n,hn,e⟩|⟨n,e⟩|⟨s,e⟩<;>rcases fl hw with f|⟨m,hm,f⟩|⟨m,f⟩|⟨t,f⟩<;>rw[e,f]at hk ⊢ <;>first|(exact absurd (show ci3 0=ci3 1 from hk) Od)|(exact absurd (show ci3 0=ci3 2 from hk) Od)|(exact absurd (show ci3 0=ci3 4 from hk) Od)|(exact absurd (show ci3 1=ci3 0 from hk) Od)|(exact absurd (show ci3 1=ci3 2 from hk) Od)|(exact absurd (show ci3 1=ci3 4 from hk) Od)|(exact absurd (show ci3 2=ci3 0 from hk) Od)|(exact absurd (show ci3 2=ci3 1 from hk) Od)|(exact absurd (show ci3 2=ci3 4 from hk) Od)|(exact absurd (show ci3 4=ci3 0 from hk) Od)|(exact absurd (show ci3 4=ci3 1 from hk) Od)|(exact absurd (show ci3 4=ci3 2 from hk) Od)|skip
 ·rw[e,f]at hd;have:n=m:=(hd rfl).2.1;rw[this]
 ·rw[e,f]at h;rw[e]at ov;rw[f]at ow;obtain⟨a1,a2,a3⟩:=fu9 ov;obtain⟨b1,b2,b3⟩:=fu9 ow;have hi:br0 (.mk 2 n 0 ⟨#[]⟩ [])=true:=by unfold br0;rw[ov];rfl
  rw[hi,cond_true,a1,a2,b1,b2]at h;unfold ce8 fzn fzd at h;rw[a3,b3]at h;have:=sgn_z h;simp only[cond_true]at this;rw[show n=m by omega]
 ·rw[e,f]at hd;have:s=t:=(hd rfl).2.2;rw[this]
structure SEq{α:Type}(l m:List α) where
 i:Nat
 hi:i≤l.length
 ok:l.take i=m.take i
theorem fv1{α:Type}{l m:List α}{i:Nat}{x:α}(h:l[i]? =some x)(g:m[i]? =some x)(ok:l.take i=m.take i):l.take (i+1)=m.take (i+1):=by
 rw[gd7,gd7,h,g,ok]
theorem fv2{α:Type}{l m:List α}{i:Nat}(hl:l.length=m.length)(h:l.length≤i)(ok:l.take i=m.take i):l=m:=by
 rwa[ga3 h,ga3 Oa]at ok
theorem fv3{α:Type}{l m:List α}{i:Nat}{x y:α}(h:l[i]? =some x)(g:m[i]? =some y)(n:x≠y):l≠m:=fun e=>by
 rw[e,g]at h;exact n (by simpa using h.symm)
theorem lnD{l m:List D}(h:l.length=m.length):((l.length:Int) !=(m.length:Int))=false:=by rw[h];simp
theorem lnN{l m:List D}(h:l.length≠m.length):((l.length:Int) !=(m.length:Int))=true:=Og
theorem fv4{s t:ByteArray}(h:s≠t):(!(s.toList==t.toList))=true:=by
 cases c:s.toList==t.toList with
 |true=>exact absurd (dc2 (by simpa using c)) h
 |false=>rfl
theorem fv5(l m:List ByteArray):Ev E 97 [.sl (l.map .str),.sl (m.map .str)] (.d (.bool (eqD l m))):=Ev.fit fun hfit=>by
 have hmax:=(by7 (f:=D.str) (hfit (.sl (l.map D.str)) Oc)).1;have hmax2:=(by7 (f:=D.str) (hfit (.sl (m.map D.str)) Oc)).1;have hle:(l.map D.str).length=l.length:=Oc
 have hlm:(m.map D.str).length=m.length:=Oc
 clear hfit
 by_cases hl:l.length=m.length
 ·have g1:=lnD (l:=l.map D.str) (m:=m.map D.str) (by rw[hle,hlm,hl]);refine ye2 func97 ntmps97 fun _ _ _=>?_
  repeat'(first|refine yz ?_|refine yx ?_|(refine yy ?_ ?_<;>intro _)|exact zD|exact zL)
  refine ac8 (α:=SEq l m) (fun p=>⟨[(0,.d (.sl (l.map .str))),(1,.d (.sl (m.map .str))),(5,.d (.int p.i))],[]⟩) (fun p=>l.length-p.i) ⟨0,by omega,rfl⟩ (zle 0) ?_;rintro⟨i,hi,ok⟩;dsimp only;rcases fy5 i l.length with hlt|hge
  ·have q1:decide ((i:Int)<((l.map D.str).length:Int))=true:=by rw[hle];simpa using hlt
   have hlt2:i<m.length:=Oa
   have hx0:=fy4 hlt;have hy0:=fy4 hlt2;generalize l[i]=x at hx0;generalize m[i]=y at hy0;have hx:=cz1 (f:=D.str) hx0;have hy:=cz1 (f:=D.str) hy0
   by_cases hxy:x=y
   ·subst hxy;have q2:=nsY x
    repeat'(first|refine yz ?_|refine yi (.str x) hx ?_|refine yi (.str x) hy ?_|refine yx ?_|(refine yy ?_ ?_<;>intro _)|exact zD|exact zL)
    refine ac2 ?_;exact⟨⟨i+1,by omega,fv1 hx0 hy0 ok⟩,by dsimp only;omega,(zle 0)⟩
   ·have q2:=fv4 hxy;rw[fu8 (fv3 hx0 hy0 hxy)]
    repeat'(first|refine yz ?_|refine yi (.str x) hx ?_|refine yi (.str y) hy ?_|refine yx ?_|(refine yy ?_ ?_<;>intro _)|exact zD|exact zL)
  ·have q1:decide ((i:Int)<((l.map D.str).length:Int))=false:=by rw[hle];simp;omega
   rw[fu7 (fv2 hl hge ok)]
   exact Om
 ·have g1:=lnN (l:=l.map D.str) (m:=m.map D.str) (by rw[hle,hlm];exact hl);rw[fu8 (fun e=>hl (by rw[e]))];refine ye2 func97 ntmps97 fun _ _ _=>?_
  exact Om
def FVe(e:Ex):Prop:=FV e.v
set_option maxHeartbeats 4000000 in
theorem fv6(a:Ex):∀b,alE FVe a→alE FVe b→Ev E 32 [bz1 a,bz1 b] (.d (.bool (eqD a b))):=by
 refine ca0 (P:=fun a=>∀b,alE FVe a→alE FVe b→Ev E 32 [bz1 a,bz1 b] (.d (.bool (eqD a b)))) (fun op v nm ds ks ih b ha hb=>Ev.fit fun hfit=>?_) a;obtain⟨op',v',nm',ds',ks'⟩:=b;obtain⟨hmax,-⟩:=bz9 ((hfit (bz1 (.mk op v nm ds ks)) Oc).aggs (.sl (bz0 ks)) (by obtain⟨vk,vn,vd,vS,vl⟩:=v;simp[bz1,by9]));obtain⟨hmax2,-⟩:=bz9 ((hfit (bz1 (.mk op' v' nm' ds' ks')) Oc).aggs (.sl (bz0 ks')) (by obtain⟨vk,vn,vd,vS,vl⟩:=v';simp[bz1,by9]));have h1:=cj4 v v';have hle:(bz0 ks).length=ks.length:=bz7 ks;have hle2:(bz0 ks').length=ks'.length:=bz7 ks';have fv:FV v:=ha.1;have fv':FV v':=hb.1;have hk:∀x∈ks,∀y∈ks',Ev E 32 [bz1 x,bz1 y] (.d (.bool (eqD x y))):=fun x hx y hy=>ih x hx y (cx7 ha.2 x hx) (cx7 hb.2 y hy)
 clear ih ha hb hfit;have no:∀{P:Prop},¬P→(Ex.mk op v nm ds ks=Ex.mk op' v' nm' ds' ks'→P)→eqD (Ex.mk op v nm ds ks) (Ex.mk op' v' nm' ds' ks')=false:=fun hp h=>fu8 fun e=>hp (h e)
 by_cases c1:op=op'
 case neg=>
  have d1:(op !=op')=true:=by simpa using c1
  rw[no c1 fun e=>by cases e;rfl];obtain⟨vk,vn,vd,vS,vl⟩:=v;obtain⟨vk',vn',vd',vS',vl'⟩:=v';show Ev E 32 [.agg [.int op,.int vk,.int vn,.int vd,.str vS,.sl (bp2 vl),.str nm,.bool ds,.sl (bz0 ks)],.agg [.int op',.int vk',.int vn',.int vd',.str vS',.sl (bp2 vl'),.str nm',.bool ds',.sl (bz0 ks')]] (.d (.bool false));refine ye2 func32 ntmps32 fun _ _ _=>?_
  exact Om
 subst c1;have d1:=neY op
 by_cases c2:nm=nm'
 case neg=>
  have d2:=fv4 c2;rw[no c2 fun e=>by cases e;rfl];obtain⟨vk,vn,vd,vS,vl⟩:=v;obtain⟨vk',vn',vd',vS',vl'⟩:=v';show Ev E 32 [.agg [.int op,.int vk,.int vn,.int vd,.str vS,.sl (bp2 vl),.str nm,.bool ds,.sl (bz0 ks)],.agg [.int op,.int vk',.int vn',.int vd',.str vS',.sl (bp2 vl'),.str nm',.bool ds',.sl (bz0 ks')]] (.d (.bool false));refine ye2 func32 ntmps32 fun _ _ _=>?_
  exact Om
 subst c2;have d2:=nsY nm
 by_cases c3:ds=ds'
 case neg=>
  have d3:(ds !=ds')=true:=by simpa using c3
  rw[no c3 fun e=>by cases e;rfl];obtain⟨vk,vn,vd,vS,vl⟩:=v;obtain⟨vk',vn',vd',vS',vl'⟩:=v';show Ev E 32 [.agg [.int op,.int vk,.int vn,.int vd,.str vS,.sl (bp2 vl),.str nm,.bool ds,.sl (bz0 ks)],.agg [.int op,.int vk',.int vn',.int vd',.str vS',.sl (bp2 vl'),.str nm,.bool ds',.sl (bz0 ks')]] (.d (.bool false));refine ye2 func32 ntmps32 fun _ _ _=>?_
  exact Om
 subst c3;have d3:(ds !=ds)=false:=Oc
 by_cases c4:v=v'
 case neg=>
  have d4:(ci6 v v' !=0)=true:=by
   rw[bne_iff_ne];exact fun e=>c4 (fv0 fv fv' e)
  rw[no c4 fun e=>by cases e;rfl];generalize ci6 v v'=z at*;obtain⟨vk,vn,vd,vS,vl⟩:=v;obtain⟨vk',vn',vd',vS',vl'⟩:=v';show Ev E 32 [.agg [.int op,.int vk,.int vn,.int vd,.str vS,.sl (bp2 vl),.str nm,.bool ds,.sl (bz0 ks)],.agg [.int op,.int vk',.int vn',.int vd',.str vS',.sl (bp2 vl'),.str nm,.bool ds,.sl (bz0 ks')]] (.d (.bool false));refine ye2 func32 ntmps32 fun _ _ _=>?_
  repeat'(first|refine yz ?_|refine yp b52 h1 ?_|refine yx ?_|(refine yy ?_ ?_<;>intro _)|exact zD|exact zL)
 subst c4;rw[ft7]at h1;have d4:((0:Int) !=0)=false:=rfl
 by_cases hl:ks.length=ks'.length
 case neg=>
  have d5:=lnN (l:=bz0 ks) (m:=bz0 ks') (by rw[hle,hle2];exact hl);rw[no (P:=ks=ks') (fun e=>hl (by rw[e])) fun e=>by cases e;rfl];obtain⟨vk,vn,vd,vS,vl⟩:=v;show Ev E 32 [.agg [.int op,.int vk,.int vn,.int vd,.str vS,.sl (bp2 vl),.str nm,.bool ds,.sl (bz0 ks)],.agg [.int op,.int vk,.int vn,.int vd,.str vS,.sl (bp2 vl),.str nm,.bool ds,.sl (bz0 ks')]] (.d (.bool false));refine ye2 func32 ntmps32 fun _ _ _=>?_
  repeat'(first|refine yz ?_|refine yp b52 h1 ?_|refine yx ?_|(refine yy ?_ ?_<;>intro _)|exact zD|exact zL)
 have d5:=lnD (l:=bz0 ks) (m:=bz0 ks') (by rw[hle,hle2,hl]);have yes:ks=ks'→eqD (Ex.mk op v nm ds ks) (Ex.mk op v nm ds ks')=true:=fun e=>fu7 (by rw[e])
 have noL:ks≠ks'→eqD (Ex.mk op v nm ds ks) (Ex.mk op v nm ds ks')=false:=fun h=>fu8 fun e=>h (by cases e;rfl)
 clear no;generalize eqD (Ex.mk op v nm ds ks) (Ex.mk op v nm ds ks')=z at*;obtain⟨vk,vn,vd,vS,vl⟩:=v;show Ev E 32 [.agg [.int op,.int vk,.int vn,.int vd,.str vS,.sl (bp2 vl),.str nm,.bool ds,.sl (bz0 ks)],.agg [.int op,.int vk,.int vn,.int vd,.str vS,.sl (bp2 vl),.str nm,.bool ds,.sl (bz0 ks')]] (.d (.bool z));refine ye2 func32 ntmps32 fun _ _ _=>?_
 repeat'(first|refine yz ?_|refine yp b52 h1 ?_|refine yx ?_|(refine yy ?_ ?_<;>intro _)|exact zD|exact zL)
 refine ac8 (α:=SEq ks ks') (fun p=>⟨[(2,.ptr 0 0),(3,.ptr 1 0),(5,.d (.int p.i))],[oY 33 (.agg [.int op,.int vk,.int vn,.int vd,.str vS,.sl (bp2 vl),.str nm,.bool ds,.sl (bz0 ks)]),oY 33 (.agg [.int op,.int vk,.int vn,.int vd,.str vS,.sl (bp2 vl),.str nm,.bool ds,.sl (bz0 ks')])]⟩) (fun p=>ks.length-p.i) ⟨0,by omega,rfl⟩ (zle 2) ?_;rintro⟨i,hi,ok⟩;dsimp only;rcases fy5 i ks.length with hlt|hge
 ·have q1:decide ((i:Int)<((bz0 ks).length:Int))=true:=by rw[hle];simpa using hlt
  have hlt2:i<ks'.length:=Oa
  have hx0:=fy4 hlt;have hy0:=fy4 hlt2;generalize ks[i]=x at hx0;generalize ks'[i]=y at hy0;have hx:(bz0 ks)[(i:Int).toNat]? =some (bz1 x):=bz5 (by rw[gb1];exact hx0);have hy:(bz0 ks')[(i:Int).toNat]? =some (bz1 y):=bz5 (by rw[gb1];exact hy0);have hs:=hk x (fy6 hx0) y (fy6 hy0)
  by_cases hxy:x=y
  ·rw[fu7 hxy]at hs;subst hxy
   repeat'(first|refine yz ?_|refine yi (bz1 x) hx ?_|refine yi (bz1 x) hy ?_|refine yp b32 hs ?_|refine yx ?_|(refine yy ?_ ?_<;>intro _)|exact zD|exact zL)
   refine ac2 ?_;exact⟨⟨i+1,by omega,fv1 hx0 hy0 ok⟩,by dsimp only;omega,(zle 2)⟩
  ·rw[fu8 hxy]at hs;rw[noL (fv3 hx0 hy0 hxy)]
   repeat'(first|refine yz ?_|refine yi (bz1 x) hx ?_|refine yi (bz1 y) hy ?_|refine yp b32 hs ?_|refine yx ?_|(refine yy ?_ ?_<;>intro _)|exact zD|exact zL)
 ·have q1:decide ((i:Int)<((bz0 ks).length:Int))=false:=by rw[hle];simp;omega
  rw[yes (fv2 hl hge ok)]
  exact Om
set_option maxHeartbeats 4000000 in
theorem fv7(l m:List PP)(hl0:∀q∈l,alE FVe q.e)(hm0:∀q∈m,alE FVe q.e):Ev E 98 [.sl (l.map ct7),.sl (m.map ct7)] (.d (.bool (eqD l m))):=Ev.fit fun hfit=>by
 have hmax:=(by7 (f:=ct7) (hfit (.sl (l.map ct7)) Oc)).1;have hmax2:=(by7 (f:=ct7) (hfit (.sl (m.map ct7)) Oc)).1;have hle:(l.map ct7).length=l.length:=Oc
 have hlm:(m.map ct7).length=m.length:=Oc
 clear hfit
 by_cases hl:l.length=m.length
 ·have g1:=lnD (l:=l.map ct7) (m:=m.map ct7) (by rw[hle,hlm,hl]);refine ye2 func98 ntmps98 fun _ _ _=>?_
  repeat'(first|refine yz ?_|refine yx ?_|(refine yy ?_ ?_<;>intro _)|exact zD|exact zL)
  refine ac8 (α:=SEq l m) (fun p=>⟨[(0,.d (.sl (l.map ct7))),(1,.d (.sl (m.map ct7))),(5,.d (.int p.i))],[]⟩) (fun p=>l.length-p.i) ⟨0,by omega,rfl⟩ (zle 0) ?_;rintro⟨i,hi,ok⟩;dsimp only;rcases fy5 i l.length with hlt|hge
  ·have q1:decide ((i:Int)<((l.map ct7).length:Int))=true:=by rw[hle];simpa using hlt
   have hlt2:i<m.length:=Oa
   have hx0:=fy4 hlt;have hy0:=fy4 hlt2;generalize l[i]=x at hx0;generalize m[i]=y at hy0;have hx:=cz1 (f:=ct7) hx0;have hy:=cz1 (f:=ct7) hy0;have hs:=fv6 x.e y.e (hl0 x (fy6 hx0)) (hm0 y (fy6 hy0));have no:x≠y→eqD l m=false:=fun h=>fu8 (fv3 hx0 hy0 h)
   have nx:x=y→l.take (i+1)=m.take (i+1):=fun h=>fv1 hx0 (h ▸ hy0) ok
   clear hx0 hy0;obtain⟨xk,xe⟩:=x;obtain⟨yk,ye⟩:=y;dsimp only at*
   by_cases c1:xk=yk
   ·subst c1;have q2:=nsY xk
    by_cases c2:xe=ye
    ·rw[fu7 c2]at hs
     repeat'(first|refine yz ?_|refine yi (ct7 ⟨xk,xe⟩) hx ?_|refine yi (ct7 ⟨xk,ye⟩) hy ?_|refine yp b32 hs ?_|refine yx ?_|(refine yy ?_ ?_<;>intro _)|exact zD|exact zL)
     refine ac2 ?_;exact⟨⟨i+1,by omega,nx (by rw[c2])⟩,by dsimp only;omega,(zle 0)⟩
    ·rw[fu8 c2]at hs;rw[no (fun e=>c2 (by cases e;rfl))]
     repeat'(first|refine yz ?_|refine yi (ct7 ⟨xk,xe⟩) hx ?_|refine yi (ct7 ⟨xk,ye⟩) hy ?_|refine yp b32 hs ?_|refine yx ?_|(refine yy ?_ ?_<;>intro _)|exact zD|exact zL)
   ·have q2:=fv4 c1;rw[no (fun e=>c1 (by cases e;rfl))]
    repeat'(first|refine yz ?_|refine yi (ct7 ⟨xk,xe⟩) hx ?_|refine yi (ct7 ⟨yk,ye⟩) hy ?_|refine yx ?_|(refine yy ?_ ?_<;>intro _)|exact zD|exact zL)
  ·have q1:decide ((i:Int)<((l.map ct7).length:Int))=false:=by rw[hle];simp;omega
   rw[fu7 (fv2 hl hge ok)]
   exact Om
 ·have g1:=lnN (l:=l.map ct7) (m:=m.map ct7) (by rw[hle,hlm];exact hl);rw[fu8 (fun e=>hl (by rw[e]))];refine ye2 func98 ntmps98 fun _ _ _=>?_
  exact Om
end Go.Proofs.YtndgolmgaenlfaaGreatDoor
