/- The law PlanApart, given that the chapter's examples hold. Conditions: the row's bound. -/
import Derived.Test.YtndgolmgaenlfaaGreatDoorGC
import Derived.Test.YtndgolmgaenlfaaGreatDoorYE
import Derived.Test.YtndgolmgaenlfaaGreatDoorYB
import Derived.Test.YtndgolmgaenlfaaGreatDoorTB
import Derived.Test.YtndgolmgaenlfaaGreatDoorTA
set_option linter.unusedVariables false
set_option linter.unusedSimpArgs false
namespace Go.Proofs.YtndgolmgaenlfaaGreatDoor
set_option maxRecDepth 4000
open Go Go.Abs Go.Val Go.RowKit Go.Proofs.Tryz
attribute [local irreducible] go SGo an9 Ev aw1 EvO EvS RGo RGw PGo
theorem fx8{a b:CL}(ka:a.k=1)(kb:b.k=1)(h:a.opt=b.opt∧a.ps=b.ps∧a.wh=b.wh):clT a=clT b:=by
 unfold clT;rw[ka,kb,h.1,h.2.1,h.2.2];rfl
theorem fx9{a b:PB}(ha:CB a)(hb:CB b)(h:EqB a b):lnT a=lnT b:=by
 by_cases h5:b.op=5
 ·have:=fx8 (ha.c (h.o.trans h5)).k (hb.c h5).k h.c;unfold lnT srT;rw[h.o,h.j,h.e,h.n,h.i,h.d,h.s,h.l,this]
 ·have f:(b.op==5)=false:=by rw[beq_eq_false_iff_ne];exact h5
  unfold lnT srT;rw[h.o,h.j,h.e,h.n,h.i,h.d,h.s,h.l,f];rfl
theorem fy0(p:Pl):∀(q:Pl) (d:Nat),CPl p→CPl q→EqP p q→plT d p=plT d q:=by
 refine do6 (P:=fun p=>∀(q:Pl) (d:Nat),CPl p→CPl q→EqP p q→plT d p=plT d q) (fun a ks ih q d hp hq h=>?_) p;obtain⟨b,ls⟩:=q
 have key:∀(K L:List Pl),(∀x∈K,x∈ks)→fs3 K→fs3 L→fs6 K L→ep5 d K=ep5 d L:=by
  intro K
  induction K with
  |nil=>
   intro L _ _ _ h
   match L,h with
   |[],_=>rfl
  |cons x K ihK=>
   intro L hK hc hd h
   match L,h,hd with
   |y::L,h,hd=>
    rw[ep5,ep5,ih x (hK x Oc) y (d+1) hc.1 hd.1 h.1,ihK L (fun z hz=>hK z (gc2 _ hz)) hc.2 hd.2 h.2]
 rw[plT,plT,fx9 hp.1.1 hq.1.1 h.1,key ks ls (fun _ h=>h) hp.2 hq.2 h.2]
theorem fy1{e:Ex}(h:CX e):alE nmX e→alE FVe e:=by
 have nul:∀{op:Int} {s:ByteArray} {ds:Bool} {ks:List Ex},(∀x∈ks,alE FVe x)→alE FVe (.mk op bq3 s ds ks):=fun{op s ds ks} h=>⟨.inl rfl,cx8 h⟩
 induction h with
 |cst v h=>
  intro ha;have ok:=(fj3 ha).1.1 rfl;refine⟨?_,cx8 fun x hx=>by cases hx⟩;show FV v;have ok:Val.okV v=true:=ok;rcases h with rfl|⟨n,hn,rfl⟩|⟨n,hn,rfl⟩|⟨s,rfl⟩
  ·exact .inl rfl
  ·exact .inr (by unfold bq9;rw[ok];rfl)
  ·exact .inr (by unfold bq9;rw[ok];rfl)
  ·exact .inr (by unfold bq9;rw[ok];rfl)
 |var s=>intro _;exact nul fun x hx=>by cases hx
 |post k s a _ _ ih=>
  intro ha;have hk:=(fj3 ha).2
  exact nul fun x hx=>by
   obtain rfl:=ga4.1 hx;exact ih (hk x Oc)
 |un k a _ _ ih=>
  intro ha;have hk:=(fj3 ha).2
  exact nul fun x hx=>by
   obtain rfl:=ga4.1 hx;exact ih (hk x Oc)
 |bin k a b _ _ _ _ iha ihb=>
  intro ha;have hk:=(fj3 ha).2;refine nul fun x hx=>?_
  rcases fz0.1 hx with h|h
  ·rw[h];exact iha (hk a Oc)
  ·rw[ga4.1 h];exact ihb (hk b Oc)
 |lst l _ ih=>
  intro ha;exact nul fun x hx=>ih x hx ((fj3 ha).2 x hx)
 |fn s l _ _ ih=>
  intro ha;exact nul fun x hx=>ih x hx ((fj3 ha).2 x hx)
 |ag0 s _=>intro _;exact nul fun x hx=>by cases hx
 |ag1 s d a _ _ ih=>
  intro ha;have hk:=(fj3 ha).2
  exact nul fun x hx=>by
   obtain rfl:=ga4.1 hx;exact ih (hk x Oc)
theorem fvx{e:Ex}(h:CE e):alE FVe e:=fy1 h.1 h.2
theorem fy2{b:PB}(h:CB b):FVB b:=by
 refine⟨fun a ha=>?_,⟨fun x hx=>?_,fun x hx=>?_⟩,?_,fun x hx=>fvx (h.i x hx).1,fun x hx=>fvx (h.d x hx)⟩
 ·rcases(h.ja a ha).k with⟨-,x,-,e⟩|⟨-,hp,-⟩|⟨-,x,y,z,-,e⟩|⟨-,x,-,e⟩
  ·rw[e];exact .inl rfl
  ·exact .inr hp
  ·rw[e];exact .inl rfl
  ·rw[e];exact .inl rfl
 ·by_cases h5:b.op=5
  ·have hp:=(h.c h5).p x hx;exact⟨fun n hn q hq=>fvx ((hp.a n hn).p q hq).2,fun n hn q hq=>fvx ((hp.e n hn).p q hq).2⟩
  ·rw[(h.c0 h5).2.1]at hx;cases hx
 ·by_cases h5:b.op=5
  ·exact fvx ((h.c h5).w x hx)
  ·rw[(h.c0 h5).2.2]at hx;cases hx
 ·by_cases h6:b.op=6
  ·exact fvx (h.e (.inl h6))
  ·by_cases h11:b.op=11
   ·exact fvx (h.e (.inr h11))
   ·rw[h.e0 h6 h11];exact⟨.inl rfl,cx8 fun x hx=>by cases hx⟩
theorem fy3(p:Pl):CPl p→alB FVB p:=by
 refine do6 (P:=fun p=>CPl p→alB FVB p) (fun b ks ih h=>?_) p;rw[alB];refine⟨fy2 h.1.1,?_⟩
 have key:∀L:List Pl,(∀x∈L,alB FVB x)→dz5 FVB L:=by
  intro L
  induction L with
  |nil=>intro _;exact trivial
  |cons a r ihr=>intro hx;exact⟨hx a Oc,ihr fun x hm=>hx x (by simp[hm])⟩
 exact key ks fun x hx=>ih x hx (fs9 h.2 x hx)
set_option maxHeartbeats 4000000 in
theorem law_apart35(hlv:Ev E 9 [] (.d (.bool true)))(p q:Pl)(h:bi3 [do8 p,do8 q]≤1048576):Ev E 6 [do8 p,do8 q] (.d (.bool true)):=by
 have h0:bi2 (do8 p)≤1048576:=by rw[bi3,bi3,bi3]at h;omega
 have h0':bi2 (do8 q)≤1048576:=by rw[bi3,bi3,bi3]at h;omega
 have hw:=el8 p h0;have hw':=el8 q h0';have hm:=fu6 p;have hm':=fu6 q;clear h;obtain⟨b,ks⟩:=p;obtain⟨b',ks'⟩:=q
 cases c1:decide ((wtP (.mk b ks):Int)>1500)with
 |true=>
  rw[dp1 b ks]at hw ⊢;rw[dp1 b' ks'];generalize wtP (.mk b ks)=w at*;refine ye2 func6 ntmps6 fun _ _ _=>?_
  repeat'(first|refine yz ?_|refine yp b8 hw ?_|refine yp b9 hlv ?_|refine yx ?_|(refine yy ?_ ?_<;>intro _)|exact zD|exact zL)
 |false=>
 cases c2:decide ((wtP (.mk b' ks'):Int)>1500)with
 |true=>
  rw[dp1 b ks]at hw ⊢;rw[dp1 b' ks']at hw' ⊢;generalize wtP (.mk b ks)=w at*;generalize wtP (.mk b' ks')=w' at*;refine ye2 func6 ntmps6 fun _ _ _=>?_
  repeat'(first|refine yz ?_|refine yp b8 hw ?_|refine yp b8 hw' ?_|refine yp b9 hlv ?_|refine yx ?_|(refine yy ?_ ?_<;>intro _)|exact zD|exact zL)
 |false=>
 cases c3:fs4 (.mk b ks)with
 |true=>
  rw[c3]at hm;rw[dp1 b ks]at hw hm ⊢;rw[dp1 b' ks']at hw' ⊢;generalize wtP (.mk b ks)=w at*;generalize wtP (.mk b' ks')=w' at*;refine ye2 func6 ntmps6 fun _ _ _=>?_
  repeat'(first|refine yz ?_|refine yp b8 hw ?_|refine yp b8 hw' ?_|refine yp b18 hm ?_|refine yp b9 hlv ?_|refine yx ?_|(refine yy ?_ ?_<;>intro _)|exact zD|exact zL)
 |false=>
 cases c4:fs4 (.mk b' ks')with
 |true=>
  rw[c3]at hm;rw[c4]at hm';rw[dp1 b ks]at hw hm ⊢;rw[dp1 b' ks']at hw' hm' ⊢;generalize wtP (.mk b ks)=w at*;generalize wtP (.mk b' ks')=w' at*;refine ye2 func6 ntmps6 fun _ _ _=>?_
  repeat'(first|refine yz ?_|refine yp b8 hw ?_|refine yp b8 hw' ?_|refine yp b18 hm ?_|refine yp b18 hm' ?_|refine yp b9 hlv ?_|refine yx ?_|(refine yy ?_ ?_<;>intro _)|exact zD|exact zL)
 |false=>
 rw[c3]at hm;rw[c4]at hm';have hwt:wtP (.mk b ks)≤1500:=by have:=of_decide_eq_false c1;omega
 have hwt':wtP (.mk b' ks')≤1500:=by have:=of_decide_eq_false c2;omega
 have k1:=fa9 (.mk b ks) h0 hwt;have k2:=fa9 (.mk b' ks') h0' hwt'
 cases c5:(dr5 (.mk b ks)).2 !=0 with
 |true=>
  rw[dp1 b ks]at hw hm k1 ⊢;rw[dp1 b' ks']at hw' hm' k2 ⊢;generalize wtP (.mk b ks)=w at*;generalize wtP (.mk b' ks')=w' at*;generalize rTP (.mk b ks)=S at*;generalize rTP (.mk b' ks')=S' at*;generalize(dr5 (.mk b ks)).2=ck at*;generalize(dr5 (.mk b' ks')).2=ck' at*;refine ye2 func6 ntmps6 fun _ _ _=>?_
  repeat'(first|refine yz ?_|refine yp b8 hw ?_|refine yp b8 hw' ?_|refine yp b18 hm ?_|refine yp b18 hm' ?_|refine yp b15 k1 ?_|refine yp b15 k2 ?_|refine yp b9 hlv ?_|refine yx ?_|(refine yy ?_ ?_<;>intro _)|exact zD|exact zL)
 |false=>
 cases c6:(dr5 (.mk b' ks')).2 !=0 with
 |true=>
  rw[dp1 b ks]at hw hm k1 ⊢;rw[dp1 b' ks']at hw' hm' k2 ⊢;generalize wtP (.mk b ks)=w at*;generalize wtP (.mk b' ks')=w' at*;generalize rTP (.mk b ks)=S at*;generalize rTP (.mk b' ks')=S' at*;generalize(dr5 (.mk b ks)).2=ck at*;generalize(dr5 (.mk b' ks')).2=ck' at*;refine ye2 func6 ntmps6 fun _ _ _=>?_
  repeat'(first|refine yz ?_|refine yp b8 hw ?_|refine yp b8 hw' ?_|refine yp b18 hm ?_|refine yp b18 hm' ?_|refine yp b15 k1 ?_|refine yp b15 k2 ?_|refine yp b9 hlv ?_|refine yx ?_|(refine yy ?_ ?_<;>intro _)|exact zD|exact zL)
 |false=>
 have e5:(dr5 (.mk b ks)).2=0:=by simpa using c5
 have e6:(dr5 (.mk b' ks')).2=0:=by simpa using c6
 have cp:=ft0 _ (ds2 e5).2.2.1 c3;have cq:=ft0 _ (ds2 e6).2.2.1 c4;have k3:=fx7 (.mk b ks) (.mk b' ks') (fy3 _ cp) (fy3 _ cq);have t1:rTP (.mk b ks)=bs (plT 0 (.mk b ks)):=by unfold rTP;rw[c5];rfl
 have t2:rTP (.mk b' ks')=bs (plT 0 (.mk b' ks')):=by unfold rTP;rw[c6];rfl
 have hS:((rTP (.mk b ks)).toList==(rTP (.mk b' ks')).toList)=eqP (.mk b ks) (.mk b' ks'):=by
  rw[gb5,fx6,beq_iff_eq];constructor
  ·intro e;have e:=dc2 e;rw[t1,t2]at e
   have e2:plT 0 (.mk b ks)=plT 0 (.mk b' ks'):=by
    have:=congrArg (fun s:ByteArray=>s.data.toList) e;simpa[cf8]using this
   exact(pl_uq _ _ 0 [] [] cp cq (by rw[e2])).1
  ·intro e;rw[t1,t2,fy0 _ _ 0 cp cq e]
 rw[e5]at k1;rw[e6]at k2;rw[dp1 b ks]at hw hm k1 k3 ⊢;rw[dp1 b' ks']at hw' hm' k2 k3 ⊢;clear cp cq t1 t2 c5 c6 e5 e6;generalize wtP (.mk b ks)=w at*;generalize wtP (.mk b' ks')=w' at*;generalize rTP (.mk b ks)=S at*;generalize rTP (.mk b' ks')=S' at*;generalize eqP (.mk b ks) (.mk b' ks')=z at*;have g1:((S.toList==S'.toList)==z)=true:=by rw[hS];exact beq_self_eq_true z
 refine ye2 func6 ntmps6 fun _ _ _=>?_
 repeat'(first|refine yz ?_|refine yp b8 hw ?_|refine yp b8 hw' ?_|refine yp b18 hm ?_|refine yp b18 hm' ?_|refine yp b15 k1 ?_|refine yp b15 k2 ?_|refine yp b19 k3 ?_|refine yp b9 hlv ?_|refine yx ?_|(refine yy ?_ ?_<;>intro _)|exact zD|exact zL)
end Go.Proofs.YtndgolmgaenlfaaGreatDoor
