/- DERIVED: THE SHELF's CONTRACTS AT THIS DUMP, IN PLAIN WORDS (tools/lay-plain.mjs out of 'TryzIter.lean', which tools/lay-shelf.mjs wrote): THE SAME DE. Conditions: each part's own, as it says. -/
import Derived.Shelf.SlIter.Sorted
import Derived.Ground.GgzProg
import Derived.Test.YtndgolmgaenlfaaGreatDoorProg
import Derived.Shelf.SlIter.Nil
import Derived.Shelf.SortM.Plain
import Derived.Shelf.SortM.SortNone
import Derived.Ground.SlgmProg
import Derived.Test.YtndgolmgaenlfaaGreatDoorGC
import Derived.Test.YtndgolmgaenlfaaGreatDoorGS
import Derived.Sort.OwnSorted
import Derived.Shelf.AbstractIn
import Derived.RangeFuncBound
import Derived.OwnWalkIn
import Derived.TacticsInMore
import Derived.LoopNIn
import Derived.LoopIn
import Derived.WalkKit
import Derived.Test.YtndgolmgaenlfaaGreatDoorMA
import Derived.Lib.SlicesCompact
set_option linter.unusedVariables false
set_option linter.unusedSimpArgs false
namespace Go.Proofs
open Go.Shelf
def Tryz.sorted58_ren:Go.Shelf.Ren:=⟨fun|6=>109|8=>176|9=>177|11=>256|13=>258|12=>257|23=>315|24=>316|14=>306|15=>307|16=>308|17=>309|18=>310|19=>311|20=>312|21=>313|22=>314|25=>340|26=>341|27=>342|28=>343|29=>344|30=>305|31=>367|n=>n,fun|26=>9|28=>153|24=>23|0=>0|3=>3|37=>117|48=>172|50=>175|4=>4|40=>254|39=>253|45=>258|5=>5|9=>9|51=>274|55=>278|57=>290|58=>239|33=>107|n=>n,fun|n=>n⟩
theorem Tryz.sorted58:Go.Proofs.SlLaysZ.n6 Tryz.prog Tryz.sorted58_ren:={
 mixed:=Ob
 f6:=⟨Tryz.f109.name,by decide,func109.trans (congrArg some Ob)⟩
 f8:=⟨Tryz.f176.name,by decide,func176.trans (congrArg some Ob)⟩
 f11:=⟨Tryz.f256.name,by decide,func256.trans (congrArg some Ob)⟩
 t0:=underlying0
 a0:=Tryz.isAgg0
 z0:=Tryz.sizeOf0
 v0:=Tryz.zeroValue0
 t24:=underlying23
 a24:=Tryz.isAgg23
 z24:=Tryz.sizeOf23
 v24:=Tryz.zeroValue23
 t26:=underlying9
 a26:=Tryz.isAgg9
 z26:=Tryz.sizeOf9
 v26:=Tryz.zeroValue9
 t28:=underlying153
 a28:=Tryz.isAgg153
 z28:=Tryz.sizeOf153
 v28:=Tryz.zeroValue153
 i26:=by kernel_rfl}
def Tryz.keysU_ren:Go.Shelf.Ren:=⟨fun|7=>189|10=>264|n=>n,fun|23=>198|26=>9|3=>4|28=>153|0=>0|27=>152|33=>107|4=>4|n=>n,fun|n=>n⟩
theorem Tryz.keysU:Go.Proofs.SlLaysZ.n7 Tryz.prog Tryz.keysU_ren:={
 mixed:=Ob
 f7:=⟨Tryz.f189.name,by decide,func189.trans (congrArg some Ob)⟩
 f10:=⟨Tryz.f264.name,by decide,func264.trans (congrArg some Ob)⟩
 t0:=underlying0
 a0:=Tryz.isAgg0
 z0:=Tryz.sizeOf0
 v0:=Tryz.zeroValue0
 t4:=underlying4
 a4:=Tryz.isAgg4
 z4:=Tryz.sizeOf4
 v4:=Tryz.zeroValue4
 t23:=underlying198
 a23:=Tryz.isAgg198
 z23:=Tryz.sizeOf198
 v23:=Tryz.zeroValue198
 t26:=underlying9
 a26:=Tryz.isAgg9
 z26:=Tryz.sizeOf9
 v26:=Tryz.zeroValue9
 t27:=underlying152
 a27:=Tryz.isAgg152
 z27:=Tryz.sizeOf152
 v27:=Tryz.zeroValue152
 t28:=underlying153
 a28:=Tryz.isAgg153
 z28:=Tryz.sizeOf153
 v28:=Tryz.zeroValue153
 t33:=underlying107
 a33:=Tryz.isAgg107
 z33:=Tryz.sizeOf107
 v33:=Tryz.zeroValue107}
def Tryz.sortedU_ren:Go.Shelf.Ren:=⟨fun|6=>109|8=>176|9=>177|11=>256|13=>258|12=>257|23=>315|24=>316|14=>306|15=>307|16=>308|17=>309|18=>310|19=>311|20=>312|21=>313|22=>314|25=>340|26=>341|27=>342|28=>343|29=>344|30=>305|31=>367|n=>n,fun|26=>9|28=>153|24=>23|0=>0|3=>3|37=>117|48=>172|50=>175|4=>4|40=>254|39=>253|45=>258|5=>5|9=>9|51=>274|55=>278|57=>290|58=>239|33=>107|n=>n,fun|n=>n⟩
theorem Tryz.sortedU:Go.Proofs.SlLaysZ.n6 Tryz.prog Tryz.sortedU_ren:={
 mixed:=Ob
 f6:=⟨Tryz.f109.name,by decide,func109.trans (congrArg some Ob)⟩
 f8:=⟨Tryz.f176.name,by decide,func176.trans (congrArg some Ob)⟩
 f11:=⟨Tryz.f256.name,by decide,func256.trans (congrArg some Ob)⟩
 t0:=underlying0
 a0:=Tryz.isAgg0
 z0:=Tryz.sizeOf0
 v0:=Tryz.zeroValue0
 t24:=underlying23
 a24:=Tryz.isAgg23
 z24:=Tryz.sizeOf23
 v24:=Tryz.zeroValue23
 t26:=underlying9
 a26:=Tryz.isAgg9
 z26:=Tryz.sizeOf9
 v26:=Tryz.zeroValue9
 t28:=underlying153
 a28:=Tryz.isAgg153
 z28:=Tryz.sizeOf153
 v28:=Tryz.zeroValue153
 i26:=by kernel_rfl}
def Tryz.sortU_ren:Go.Shelf.Ren:=⟨fun|6=>177|8=>258|9=>257|19=>315|20=>316|21=>306|22=>307|23=>308|24=>309|25=>310|26=>311|27=>312|28=>313|29=>314|36=>340|31=>341|32=>342|37=>343|38=>344|39=>305|41=>367|n=>n,fun|27=>23|29=>9|3=>3|32=>117|26=>23|0=>0|44=>172|46=>175|4=>4|36=>254|35=>253|41=>258|5=>5|9=>9|53=>274|57=>278|63=>290|64=>239|n=>n,fun|n=>n⟩
theorem Tryz.sortU:Go.Proofs.SlLaysM.n6 Tryz.prog Tryz.sortU_ren:={
 mixed:=Ob
 f6:=⟨Tryz.f177.name,by decide,func177.trans (congrArg some Ob)⟩
 f8:=func258.trans (congrArg some Ob)
 f9:=⟨Tryz.f257.name,by decide,func257.trans (congrArg some Ob)⟩
 f19:=func315.trans (congrArg some Ob)
 f20:=func316.trans (congrArg some Ob)
 f21:=⟨Tryz.f306.name,by decide,func306.trans (congrArg some Ob)⟩
 f22:=⟨Tryz.f307.name,by decide,func307.trans (congrArg some Ob)⟩
 f23:=⟨Tryz.f308.name,by decide,func308.trans (congrArg some Ob)⟩
 f24:=⟨Tryz.f309.name,by decide,func309.trans (congrArg some Ob)⟩
 f25:=⟨Tryz.f310.name,by decide,func310.trans (congrArg some Ob)⟩
 f26:=⟨Tryz.f311.name,by decide,func311.trans (congrArg some Ob)⟩
 f27:=⟨Tryz.f312.name,by decide,func312.trans (congrArg some Ob)⟩
 f28:=⟨Tryz.f313.name,by decide,func313.trans (congrArg some Ob)⟩
 f29:=⟨Tryz.f314.name,by decide,func314.trans (congrArg some Ob)⟩
 f31:=func341.trans (congrArg some Ob)
 f32:=func342.trans (congrArg some Ob)
 f36:=⟨Tryz.f340.name,by decide,func340.trans (congrArg some Ob)⟩
 f37:=⟨Tryz.f343.name,by decide,func343.trans (congrArg some Ob)⟩
 f38:=⟨Tryz.f344.name,by decide,func344.trans (congrArg some Ob)⟩
 f39:=⟨Tryz.f305.name,by decide,func305.trans (congrArg some Ob)⟩
 f41:=⟨Tryz.f367.name,by decide,func367.trans (congrArg some Ob)⟩
 t0:=underlying0
 a0:=Tryz.isAgg0
 z0:=Tryz.sizeOf0
 v0:=Tryz.zeroValue0
 t3:=underlying3
 a3:=Tryz.isAgg3
 z3:=Tryz.sizeOf3
 v3:=Tryz.zeroValue3
 t4:=underlying4
 a4:=Tryz.isAgg4
 z4:=Tryz.sizeOf4
 v4:=Tryz.zeroValue4
 t5:=underlying5
 a5:=Tryz.isAgg5
 z5:=Tryz.sizeOf5
 v5:=Tryz.zeroValue5
 t9:=underlying9
 a9:=Tryz.isAgg9
 z9:=Tryz.sizeOf9
 v9:=Tryz.zeroValue9
 t26:=underlying23
 a26:=Tryz.isAgg23
 z26:=Tryz.sizeOf23
 v26:=Tryz.zeroValue23
 t27:=underlying23
 a27:=Tryz.isAgg23
 z27:=Tryz.sizeOf23
 v27:=Tryz.zeroValue23
 t29:=underlying9
 a29:=Tryz.isAgg9
 z29:=Tryz.sizeOf9
 v29:=Tryz.zeroValue9
 t32:=underlying117
 a32:=Tryz.isAgg117
 z32:=Tryz.sizeOf117
 v32:=Tryz.zeroValue117
 t35:=underlying253
 a35:=Tryz.isAgg253
 z35:=Tryz.sizeOf253
 v35:=Tryz.zeroValue253
 t36:=underlying254
 a36:=Tryz.isAgg254
 z36:=Tryz.sizeOf254
 v36:=Tryz.zeroValue254
 t41:=underlying258
 a41:=Tryz.isAgg258
 z41:=Tryz.sizeOf258
 v41:=Tryz.zeroValue258
 t44:=underlying172
 a44:=Tryz.isAgg172
 z44:=Tryz.sizeOf172
 v44:=Tryz.zeroValue172
 t46:=underlying175
 a46:=Tryz.isAgg175
 z46:=Tryz.sizeOf175
 v46:=Tryz.zeroValue175
 t53:=underlying274
 a53:=Tryz.isAgg274
 z53:=Tryz.sizeOf274
 v53:=Tryz.zeroValue274
 t57:=underlying278
 a57:=Tryz.isAgg278
 z57:=Tryz.sizeOf278
 v57:=Tryz.zeroValue278
 t63:=underlying290
 a63:=Tryz.isAgg290
 z63:=Tryz.sizeOf290
 v63:=Tryz.zeroValue290
 t64:=underlying239
 a64:=Tryz.isAgg239
 z64:=Tryz.sizeOf239
 v64:=Tryz.zeroValue239}
end Go.Proofs
namespace Go.Proofs.YtndgolmgaenlfaaGreatDoor
set_option maxRecDepth 4000
def vl:List Int→Nat
 |[]=>0
 |x::r=>x.toNat+1000000000*vl r
def minO:Option Nat→Nat→Nat
 |none,x=>x
 |some y,x=>if x<y then x else y
def stepT(g:Nat→Nat)(set:Nat)(o:Option Nat)(i:Nat):Option Nat:=bif set.testBit i then o else some (minO o (g i))
def tbG(f:Nat→Nat→Nat)(n:Nat):Nat→Nat→Nat
 |0,_=>1
 |k+1,set=>((List.range n).foldl (stepT (fun i=>f set i*tbG f n k (set+2 ^ i)) set) none).getD 1
def tb(f:Nat→Nat→Nat)(n set:Nat):Nat:=tbG f n (2 ^ n-set) set
open Go Go.Abs Go.Val Go.Proofs.Tryz
structure AT where
 k:Int
 vs:List Int
 nm:ByteArray
 ty:List ByteArray
 v:V
structure CJ where
 vs:List ByteArray
 «as»:List AT
def cj5(l:List Int):D:=.sl (l.map .int)
def cj6(a:AT):D:=.agg [.int a.k,cj5 a.vs,.str a.nm,.sl (a.ty.map .str),.int a.v.k,.int a.v.n,.int a.v.d,.str a.v.s,.sl (kids a.v)]
def cj7(c:CJ):D:=.agg [.sl (c.vs.map .str),.sl (c.as.map cj6)]
end Go.Proofs.YtndgolmgaenlfaaGreatDoor
namespace Go.Proofs.YtndgolmgaenlfaaGreatDoor
set_option maxRecDepth 4000
open Go Go.RowKit Go.Maps Go.Sort Go.Shelf Go.Proofs Go.Proofs.Tryz
attribute [local go_sem] Oper.semAt_some
def cj8(f:Nat→List UInt8)(k:Nat):List (List UInt8):=(List.range k).map f
theorem cj9(f:Nat→List UInt8)(k:Nat):cj8 f (k+1)=cj8 f k++ [f k]:=by simp[cj8,List.range_succ]
theorem ck0(f:Nat→List UInt8)(k:Nat):(cj8 f k).length=k:=by simp[cj8]
set_option maxRecDepth 100000 in
set_option maxHeartbeats 2000000 in
theorem ck1(n:Nat)(hn:1≤n)(l Bs b off len cap:Nat)(f:Nat→List UInt8)(hreach:len*16≤140737488351232)(J:List (List UInt8)→World→Prop)
  (hY:∀pre x W,J pre W→pre.length<len→YieldAt Fence.wide (n-1) Tryz.prog l #[encStr x] W fun e W'=>e=.returned (.bool true)∧J (pre++ [x]) W'∧KeepsWalks W W')
  (hc:∀pre W,J pre W→∀j,j<len→W.cell? ⟨b,off+j,none⟩=some (encStr (f j)))
  (W:World)(hBs:W.cell? ⟨Bs,0,none⟩=some (.slice (some ⟨b,off,none⟩) len cap))(h0:J [] W):
  CallsIn Fence.wide n Tryz.prog 178 #[.func (.yield l) #[] #[],.pointer (some ⟨Bs,0,none⟩)] W fun e W'=>(∃v,e=.returned v)∧J (cj8 f len) W':=by
 refine callsIn_of_wp func178 rfl trivial ?_ rfl;simp only[ntmps178,ge3,fy7,fz2,Nat.reduceAdd,Nat.reduceSub,Array.replicate_succ,Array.replicate_zero,List.push_toArray,List.append_toArray,gb7,gb4]
 gi_wp2
 gi_loopw [7] (fun i wr=>∃k:Nat,k≤len∧i=.int .i64 k∧J (cj8 f k) wr)
  (fun i _=>len-(intOf i).toNat)
 case atStart=>exact⟨0,ga8 _,rfl,h0⟩
 case round=>
  obtain⟨k,hk,rfl,hJs⟩:=hrel;have hcx:k<len→wr.cell? ⟨b,off+k,none⟩=some (encStr (f k)):=fun h=>hc _ _ hJs k h
  by_cases hlt:k<len
  ·obtain⟨fn,tmps,assign,body,hy,hR⟩:=hY _ (f k) wr hJs (by rw[ck0];exact hlt);have hcx':=hcx hlt
   gi_wp2
   refine hR.mono ?_;rintro e W3 ⟨rfl,hJ3,hk3⟩
   gi_wp2
   go_roundw
   case rel=>exact⟨k+1,by omega,by simp,by rw[cj9];exact hJ3⟩
   case measure=>simp[intOf];omega
  ·obtain rfl:k=len:=by omega
   gi_wp2
   go_end0
   exact⟨⟨_,rfl⟩,hJs⟩
set_option maxRecDepth 100000 in
set_option maxHeartbeats 2000000 in
theorem ck2(n:Nat)(l Bs:Nat)(p:Option Addr)(cap:Nat)(J:List (List UInt8)→World→Prop)(W:World)(hBs:W.cell? ⟨Bs,0,none⟩=some (.slice p 0 cap))(h0:J [] W):
  CallsIn Fence.wide n Tryz.prog 178 #[.func (.yield l) #[] #[],.pointer (some ⟨Bs,0,none⟩)] W fun e W'=>(∃v,e=.returned v)∧J [] W':=by
 refine callsIn_of_wp func178 rfl trivial ?_ rfl;simp only[ntmps178,ge3,fy7,fz2,Nat.reduceAdd,Nat.reduceSub,Array.replicate_succ,Array.replicate_zero,List.push_toArray,List.append_toArray,gb7,gb4]
 gi_wp2
 gi_loopw [7] (fun i wr=>i=.int .i64 0∧J [] wr) (fun _ _=>0)
 case atStart=>exact⟨rfl,h0⟩
 case round=>
  obtain⟨rfl,hJs⟩:=hrel
  gi_wp2
  go_end0
  exact⟨⟨_,rfl⟩,hJs⟩
def ck3(n:Nat)(Bs:Nat)(ss:List (List UInt8))(w:World):Prop:=
 ∀(l:Nat) (J:List (List UInt8)→World→Prop) (W:World),Below w.heap.size w W→(∀pre W',J pre W'→Below w.heap.size w W')→
  (∀pre x W1,J pre W1→pre.length<ss.length→YieldAt Fence.wide (n-1) Tryz.prog l #[encStr x] W1 fun e W'=>e=.returned (.bool true)∧J (pre++ [x]) W'∧KeepsWalks W1 W')→J [] W→
  CallsIn Fence.wide n Tryz.prog 178 #[.func (.yield l) #[] #[],.pointer (some ⟨Bs,0,none⟩)] W fun e W'=>(∃v,e=.returned v)∧J ss W'
theorem ck4(ss:List (List UInt8)):cj8 (fun j=>ss[j]?.getD []) ss.length=ss:=by
 apply List.ext_getElem
 ·simp[cj8]
 ·intro i h1 h2;simp[cj8,h2]
theorem ck5{w:World}{Bs b off cap n:Nat}{ss:List (List UInt8)}(hn:1≤n)(hBl:Bs<w.heap.size)(hb:b<w.heap.size)(hreach:ss.length*16≤140737488351232)(hBs:w.cell? ⟨Bs,0,none⟩=some (.slice (some ⟨b,off,none⟩) ss.length cap))
  (hc:∀j,j<ss.length→w.cell? ⟨b,off+j,none⟩=some (encStr (ss[j]?.getD []))):ck3 n Bs ss w:=by
 intro l J W hW hJ hY h0;have:=ck1 n hn l Bs b off ss.length cap (fun j=>ss[j]?.getD []) hreach J hY (fun pre W' hj j hlt=>((hJ pre W' hj).cell (p:=⟨b,off+j,none⟩) hb).trans (hc j hlt)) W ((hW.cell (p:=⟨Bs,0,none⟩) hBl).trans hBs) h0;rwa[ck4]at this
theorem ck6{w:World}{Bs cap n:Nat}{p:Option Addr}(hBl:Bs<w.heap.size)(hBs:w.cell? ⟨Bs,0,none⟩=some (.slice p 0 cap)):ck3 n Bs [] w:=
 fun l J W hW _ _ h0=>ck2 n l Bs p cap J W ((hW.cell (p:=⟨Bs,0,none⟩) hBl).trans hBs) h0
set_option maxRecDepth 100000 in
set_option maxHeartbeats 2000000 in
theorem ck7(n:Nat)(hn:2≤n)(Bs:Nat)(ss:List (List UInt8))(hN:ss.length≤maxLen)(hNb:ss.length*16≤140737488355328)(w:World)(hseq:ck3 (n-1) Bs ss w):
    CallsIn Fence.wide n Tryz.prog 256 #[.slice none 0 0,.func (.func 178) #[] #[.pointer (some ⟨Bs,0,none⟩)]] w fun e w'=>∃(v:Value),e=.returned v∧w'.ownsRow w.heap.size 9 1 v ss.length (ss.map encStr)∧(v=.slice none 0 0↔ss=[])∧Below w.heap.size w w':=by
  have L:=Tryz.sorted58;have h1:1≤n:=Oa
  refine callsIn_of_wp_marks func256 rfl trivial ?_ rfl;simp only[ntmps256,ge3,fy7,fz2,Nat.reduceAdd,Nat.reduceSub,Array.replicate_succ,Array.replicate_zero,List.push_toArray,List.append_toArray,gb7,gb4]
  gi_wp2
  refine wpIn_rangeFunc ?_;intro fn hfn;obtain⟨sv,hsv⟩:∃sv:Value,sv=.func (.func 178) #[] #[.pointer (some ⟨Bs,0,none⟩)]:=⟨_,rfl⟩;obtain⟨W0,hW0⟩:∃W0,w.alloc (.cells #[.slice none 0 0] 23)=W0:=⟨_,rfl⟩;have hs0:W0.heap.size=w.heap.size+1:=by rw[←hW0];simp
  have hv0:W0.heap[w.heap.size]? =some (.cells #[.slice none 0 0] 23 (0,0)):=by rw[←hW0];exact World.alloc_heap_new w _
  have hb0:Below w.heap.size w W0:=by rw[←hW0];exact(Below.refl _ w).alloc (fz6 _) _
  rw[hW0];obtain⟨W1,hW1⟩:∃W1,(W0.alloc (.deferred (some []))).alloc (.loop (AnyZ.apRec Tryz.sorted58_ren fn sv w.heap.size W0.heap.size .ready none))=W1:=⟨_,rfl⟩
  have hold:∀k,k<W0.heap.size→W1.heap[k]? =W0.heap[k]? :=fun k hk=>by
    rw[←hW1];exact(Below.heap_alloc _ _ k Og).trans (Below.heap_alloc _ _ k hk)
  have hb1:Below w.heap.size w W1:=by rw[←hW1];exact(hb0.alloc hb0.size _).alloc (by have:=hb0.size;simp;omega) _
  have hs1:W1.heap.size=W0.heap.size+2:=by rw[←hW1];simp
  have hM:AnyZ.ApAt Tryz.sorted58_ren w fn sv w.heap.size (W0.heap.size+1) W0.heap.size [] W1:=
    ⟨⟨_,(hold w.heap.size Oa).trans hv0,⟨rfl,.inl ⟨rfl,rfl⟩⟩,by simp⟩,
     by rw[←hW1];have:=World.alloc_heap_new (W0.alloc (.deferred (some []))) (.loop (AnyZ.apRec Tryz.sorted58_ren fn sv w.heap.size W0.heap.size .ready none));rwa[World.size_alloc]at this,
     by rw[←hW1];exact(Below.heap_alloc _ _ _ Oc).trans (World.alloc_heap_new W0 _),hb1⟩
  refine⟨W0.heap.size+1,[{target:=.collected W0.heap.size,args:= #[]}],W1,{target:=.fn (.func 178) #[.pointer (some ⟨Bs,0,none⟩)],args:= #[.func (.yield (W0.heap.size+1)) #[] #[]]},W1,178,
    #[.func (.yield (W0.heap.size+1)) #[] #[]]++ #[.pointer (some ⟨Bs,0,none⟩)],W1,?_,?_,?_,?_,fun _=>h1,?_⟩
  · rw[←hW1,hsv];exact run_enterLoop_outer _ _ _ _ _
  · simp[resolve,go_sem]
  · intro f' hf';trivial
  · simp[invoke,go_sem,enters_of func178 Ob rfl]
  · refine(hseq (W0.heap.size+1) (AnyZ.ApAt Tryz.sorted58_ren w fn sv w.heap.size (W0.heap.size+1) W0.heap.size) W1 hb1 (fun pre W' h=>h.below)
      (fun pre x W hJ hl=>AnyZ.apYield {L with} Fence.wide (n-1-1) w fn trivial sv w.heap.size (W0.heap.size+1) W0.heap.size Oa Oa Oa (fz6 _) Oa ss.length hN hNb pre x W hJ hl) hM).mono ?_
    rintro e W2 ⟨⟨v0,rfl⟩,h2⟩;obtain⟨v,hv,hrow,hnil⟩:=h2.box;have hend:=run_endLoop (P:=Tryz.prog) h2.L (by simp[AnyZ.apRec]);obtain⟨W3,hW3⟩:∃W3,W2.putObj (W0.heap.size+1) (.loop {AnyZ.apRec Tryz.sorted58_ren fn sv w.heap.size W0.heap.size .ready none with state:=.exhausted})=W3:=⟨_,rfl⟩;rw[hW3]at hend;have hg3:W2.grownBy W3 (some (W0.heap.size+1)):=by rw[←hW3];exact grownBy_putObj_a _ _ _
    have hv3:W3.heap[w.heap.size]? =some (.cells #[v] 23 (0,0)):=by rw[←hW3];exact(World.putObj_heap_other Oa).trans hv
    have hK3:W3.heap[W0.heap.size]? =some (.deferred (some [])):=by rw[←hW3];exact(World.putObj_heap_other Oa).trans h2.K
    have hrow3:=hrow.kept hg3 (ownsRow_ne_a hrow h2.L (fun cur e=>by cases e));have hb3:Below w.heap.size w W3:=h2.below.grown hg3 h2.below.size (fun k e=>by cases e;omega);obtain⟨hc3,hf3⟩:=cell_of_box_a hv3;clear hW3;refine⟨none,W3,hend,?_⟩
    gi_wp2
    rw[←hs0];refine⟨by simp,.inl ⟨_,_,rfl,run_takeDeferred hK3,?_⟩⟩;exact⟨_,results_tmp rfl _ _ _,v,rfl,hrow3.kept (grownBy_putObj_a _ _ _) (ownsRow_ne_a hrow3 hK3 (fun cur e=>by cases e)),hnil,hb3.grown (grownBy_putObj_a _ _ _) hb3.size (fun k e=>by cases e;omega)⟩
set_option maxHeartbeats 1000000 in
theorem ck8(n:Nat)(hn:3≤n)(Bs:Nat)(ss:List (List UInt8))(hN:ss.length≤maxLen)(hNb:ss.length*16≤140737488355328)(w:World)(hseq:ck3 (n-1-1) Bs ss w):
  CallsIn Fence.wide n Tryz.prog 176 #[.func (.func 178) #[] #[.pointer (some ⟨Bs,0,none⟩)]] w fun e w'=>∃(v:Value),e=.returned v∧w'.ownsRow w.heap.size 9 1 v ss.length (ss.map encStr)∧(v=.slice none 0 0↔ss=[])∧Below w.heap.size w w':=by
 have h1:1≤n:=Oa
 have hfS:Fence.wide.fn 256:=trivial;refine callsIn_of_wp func176 rfl trivial ?_ rfl;simp only[ntmps176,ge3,fy7,fz2,Nat.reduceAdd,Nat.reduceSub,Array.replicate_succ,Array.replicate_zero,List.push_toArray,List.append_toArray,gb7,gb4]
 gi_wp2_with (gi_at_call 256;refine(ck7 (n-1) Oa Bs ss hN hNb _ hseq).mono ?_;rintro e w' ⟨v,rfl,hrow,hnil,hb⟩)
 go_ret
 exact⟨v,rfl,hrow,hnil,hb⟩
set_option maxRecDepth 100000 in
set_option maxHeartbeats 2000000 in
theorem ck9(n:Nat)(hn:4≤n)(Bs:Nat)(ss:List (List UInt8))(hN:ss.length≤maxLen)(hNb:ss.length*16≤140737488355328)(w:World)(hseq:ck3 (n-1-1-1) Bs ss w):
  CallsIn Fence.wide n Tryz.prog 109 #[.func (.func 178) #[] #[.pointer (some ⟨Bs,0,none⟩)]] w fun e w'=>∃(v:Value),e=.returned v∧
   w'.ownsRow w.heap.size 9 1 v ss.length ((ss.mergeSort (fun x y=>decide (x≤y))).map encStr)∧(v=.slice none 0 0↔ss=[])∧Below w.heap.size w w':=by
 have h1:1≤n:=Oa
 have hfC:Fence.wide.fn 176:=trivial;have hfS:Fence.wide.fn 177:=trivial;refine callsIn_of_wp func109 rfl trivial ?_ rfl;simp only[ntmps109,ge3,fy7,fz2,Nat.reduceAdd,Nat.reduceSub,Array.replicate_succ,Array.replicate_zero,List.push_toArray,List.append_toArray,gb7,gb4]
 gi_wp2_with (gi_at_call 176;refine(ck8 (n-1) Oa Bs ss hN hNb _ hseq).mono ?_;rintro e W ⟨v,rfl,hrow,hnil,hb⟩)
 rcases hrow.2 with⟨rfl,hz⟩|⟨gb,cap,cur,rfl,hbase,hgb,r1,r2,r3,r4⟩
 ·have hss:ss=[]:=gf1 hz;subst hss
  gi_wp2_with (gi_at_call 177;refine(callsIn_wide.2 (Tryz.slices_Sort_string_none none 0 W)).mono ?_;rintro e w' ⟨rfl,rfl⟩)
  go_ret
  exact⟨.slice none 0 0,rfl,by simpa using hrow,by simp,hb⟩
 ·have hH:Holds encStr W gb 0 ss.toArray:=holds_of_block hgb (by simpa using r4);have hgl:gb<W.heap.size:=(gh1.1 hgb).1;have hsz:ss.length<4611686018427387904:=by omega
  have cS:=Tryz.slices_Sort_string gb 0 cap ss W hH hgl hsz
  gi_wp2_with (gi_at_call 177;refine(callsIn_wide.2 cS).mono ?_;rintro e w' ⟨rfl,nn,os,rfl⟩)
  go_ret
  exact⟨_,rfl,ownsRow_sorted Oc hbase hgb r1 r2 r3,hnil,hb.grown (grownBy_sorted _) hb.size (fun j hj=>by cases hj;exact hbase)⟩
theorem cl1(Bs:Nat)(ss:List (List UInt8))(hN:ss.length≤maxLen)(hNb:ss.length*16≤140737488355328)(w:World)(hseq:ck3 2 Bs ss w):
  Calls Tryz.prog 109 #[.func (.func 178) #[] #[.pointer (some ⟨Bs,0,none⟩)]] w fun e w'=>∃(v:Value),e=.returned v∧
   w'.ownsRow w.heap.size 9 1 v ss.length ((ss.mergeSort (fun x y=>decide (x≤y))).map encStr)∧(v=.slice none 0 0↔ss=[])∧Below w.heap.size w w':=
 callsIn_wide.1 (ck9 5 Oa Bs ss hN hNb w hseq)
end Go.Proofs.YtndgolmgaenlfaaGreatDoor
namespace Go.Proofs.YtndgolmgaenlfaaGreatDoor
set_option maxRecDepth 4000
open Go Go.Abs Go.Val Go.RowKit Go.Proofs.Tryz
attribute [local irreducible] go SGo an9 Ev aw1 EvO EvS PGo
def iL(l:List Int):List D:=l.map D.int
theorem cl4(l:List Int):(iL l).length=l.length:=by simp[iL]
theorem cl6{l:List Int}{i:Nat}{x:Int}(h:l[i]? =some x):(iL l)[(i:Int).toNat]? =some (.int x):=by rw[gb1,iL,fz1,h];rfl
def optI(o:Option Nat):Int:=match o with|some i=>(i:Int)|none=> -1
structure SHi(l:List Int)(f:Int→Bool) where
 i:Nat
 hi:i≤l.length
 ok:∀j,j<i→∀y,l[j]? =some y→f y=false
theorem SHi.next{l:List Int}{f:Int→Bool}{i:Nat}{x:Int}(hx:l[i]? =some x)(hc:f x=false)(h:∀j,j<i→∀y,l[j]? =some y→f y=false):∀j,j<i+1→∀y,l[j]? =some y→f y=false:=by
 intro j hj y hy;rcases Nat.lt_succ_iff_lt_or_eq.1 hj with h1|rfl
 ·exact h j h1 y hy
 ·rw[hx]at hy;cases hy;exact hc
theorem cl7(k:Int):k=3∨k=1∨k=2∨k=4∨((k==3)=false∧(k==1)=false∧(k==2)=false∧(k==4)=false):=by
 simp only[beq_eq_false_iff_ne,ne_eq];omega
abbrev oCJ(c:CJ):aa5:=.var 26 (.w (.d (cj7 c)))
end Go.Proofs.YtndgolmgaenlfaaGreatDoor
namespace Go.Proofs.YtndgolmgaenlfaaGreatDoor
set_option maxRecDepth 4000
open Go Go.Abs Go.Val Go.RowKit Go.Sort Go.Proofs Go.Proofs.Tryz
abbrev cl8(l:List ByteArray):aa5:=.var 23 (.w (.d (.sl (l.map .str))))
def cl9(l:List ByteArray):List (List UInt8):=l.map fun s=>s.data.toList
def cm0(l:List (List UInt8)):List D:=l.map fun b=>.str ⟨b.toArray⟩
theorem ab2.lend{F:Nat→Prop}{σ:Sg}{ob:List aa5}{w:World}(h:ab2 E ⟨fun _=>False,0,[]⟩ F σ ob w):ab2 E ⟨ba3 w ob σ,0,[]⟩ F σ ob w:=
 ⟨h.flt,h.glob,h.len,fun o x p hx hp=>(h.obs o x p hx hp).own fun hl hh=>hh.2 ⟨o,x,p,hx,hl,hp,rfl⟩,h.inj,fun i p hi=>absurd hi (Nat.not_lt_zero _)⟩
theorem cm1{w w':World}(h:Below w.heap.size w w'):w.grownBy w' none:=⟨h.os,h.tape,h.output,h.size,fun k hk _=>h.block k hk⟩
theorem aa7.of_below{w w':World}{O:Nat→Prop}(h:Below w.heap.size w w')(hO:∀k,O k→k<w.heap.size):aa7 O w w':=⟨h.os,h.tape,h.output,h.size,fun k hk=>h.block k (hO k hk),hO⟩
theorem cm2(l:List (List UInt8)):(∀x∈cm0 l,x.cells.length=1)∧∀x∈cm0 l,∀c∈x.cells,c.one=true:=by
 constructor
 ·intro x hx;obtain⟨u,-,rfl⟩:=ga1.1 hx;rfl
 ·intro x hx c hc;obtain⟨u,-,rfl⟩:=ga1.1 hx;rw[show(D.str ⟨u.toArray⟩).cells=[D.str ⟨u.toArray⟩]from rfl,ga4]at hc;subst hc;rfl
theorem cm3{w:World}{F:Nat→Prop}{l:List (List UInt8)}(hl:∀b∈l,b.length≤maxLen):∀(i:Nat) (x:D) (j:Nat) (cd:D),(cm0 l)[i]? =some x→x.cells[j]? =some cd→∃v,(l.map encStr)[i*1+j]? =some v∧Rd w F cd v:=by
 intro i x j cd hx hc;rw[cm0,fz1,fz9]at hx;obtain⟨b,hb,rfl⟩:=hx;rw[show(D.str ⟨b.toArray⟩).cells=[D.str ⟨b.toArray⟩]from rfl]at hc
 cases j with
 |zero=>
  simp at hc;subst hc;refine⟨_,by rw[Nat.mul_one,gd2,fz1,hb];rfl,Rd.imm _ ?_⟩;have:=hl b (fy6 hb);simpa[Go.Abs.okV,ByteArray.size]using this
 |succ j=>simp at hc
def sortU(l:List (List UInt8)):List (List UInt8):=l.mergeSort fun x y=>decide (x≤y)
theorem cm4{w:World}{ad:Addr}{v:Value}(h:w.cell? ad=some v):ad.spot=none:=by
 unfold World.cell? at h;split at h
 ·split at h
  ·cases h
  ·rename_i hs;simpa using hs
 ·cases h
theorem cm5(l:List ByteArray)(hne:l≠ [])(hsz:l.length≤1000000):EvS E 109 [.clo 178 [.ptr 0 0]] [cl8 l] (.own 1) [cl8 l,.row 9 1 (cm0 (sortU (cl9 l)))]:=by
 intro w F σ vs hi hl hr
 match vs,hl with
 |[v0],_=>
  obtain⟨us,rfl,ul,ur⟩:=hr 0 _ _ rfl rfl
  match us,ul with
  |[u0],_=>
   obtain⟨b,c,n,e1,rfl⟩:=ur 0 _ _ rfl rfl;obtain⟨cs,g1,g2,g3,g4,g5,g6⟩:=hi.obs 0 _ _ rfl e1
   match cs,g2 with
   |[sv],_=>
    have hrd:Rd w F (.sl (l.map .str)) sv:=g4 0 (.d (.sl (l.map .str))) sv rfl rfl;have hσ:σ.length=1:=hi.len;rcases Rd.sl_inv hrd with⟨h0,-⟩|⟨size,ad,cap,rfl,h1,h2,h3,h4,h5,h6⟩
    ·exact absurd (by simpa using h0) hne
    ·have hsize:size=1:=by
      obtain⟨s,r,rfl⟩:=gj2 hne;exact(h4 (.str s) Oc).symm
     subst hsize
     have hcell:∀j,j<l.length→w.cell? (ad.add j)=some (encStr ((cl9 l)[j]?.getD [])):=by
      intro j hj;obtain⟨u,q1,q2⟩:=h6 j (.str l[j]) 0 (.str l[j]) (by simp[hj]) rfl;rw[Nat.mul_one,gd2]at q1;rw[q1,(Rd.imm_inv q2).1];simp[cl9,hj,encStr]
     have hlen:(cl9 l).length=l.length:=by simp[cl9]
     have hlp:0<l.length:=List.length_pos_iff.2 hne;have hsp:ad.spot=none:=cm4 (by have:=hcell 0 hlp;rwa[show ad.add 0=ad from rfl]at this);obtain⟨ab,ao,asp⟩:=ad;simp only at hsp;subst hsp;have hbl:b<w.heap.size:=(gh1.1 g1).1;have hab:ab<w.heap.size:=hi.flt ab (h3 (by simpa using hne))
     have hG:ck3 2 b (cl9 l) w:=by
      refine ck5 (off:=ao) (b:=ab) (cap:=cap) Oa hbl hab Oa ?_ fun j hj=>?_
      ·rw[hlen];simp only[World.cell?,g1];simp
      ·have:=hcell j Oa;rwa[aa2]at this
     refine(cl1 b (cl9 l) (by rw[hlen];unfold maxLen;omega) Oa w hG).mono ?_;rintro e w' ⟨v,rfl,hrow,hnil,hb⟩;have hv:v≠ .slice none 0 0:=fun h=>hne (by simpa[cl9]using hnil.1 h)
     have hblk:∀k,v.ownBlock=some k→w.heap.size≤k:=fun k hk=>(hrow.lt k hk).1
     obtain⟨zc1,zc2⟩:=cm2 (sortU (cl9 l))
     have hin:∀z∈sortU (cl9 l),z.length≤maxLen:=by
      intro z hz;have hz':z∈cl9 l:=(List.mergeSort_perm _ _).mem_iff.1 hz;obtain⟨s,hs,rfl⟩:=ga1.1 hz';obtain⟨j,hj⟩:=ga9 hs;obtain⟨u,-,q2⟩:=h6 j (.str s) 0 (.str s) (by simp[hj]) rfl;have h9:s.size≤maxLen:=of_decide_eq_true (Rd.imm_inv q2).2;show s.data.toList.length≤maxLen;rw[gh0];exact h9
     obtain⟨g,cp,rfl,hob⟩:=ar0 (F:=F) (σ:=σ) (B:=ba3 w [cl8 l] σ) (xs:=cm0 (sortU (cl9 l))) (ownsRow_base_a hrow (ga8 _)) (fun k hk hh=>by have:=hblk k hk;have:=hh.1;omega) hv (by simp[cm0,sortU]) zc1 zc2 (cm3 hin)
      (fun k hk hf=>by have:=hblk k hk;have:=hi.flt k hf;omega)
     have hge:=hblk g rfl;have hob2:aa6 w' F (σ++ [(g,cp,(cl9 l).length)]) (ba3 w [cl8 l] σ) (.row 9 1 (cm0 (sortU (cl9 l)))) (g,cp,(cl9 l).length):=hob.mono (fun _ h=>h) (fun _ _=>rfl) σ_app (fun _=>rfl) fun _ h=>h
     refine⟨_,F,σ++ [(g,cp,(cl9 l).length)],rfl,aa7.of_below hb fun k hk=>hk.1,fun _ h=>h,fun _ h=>.inl h,fun i p hi hp=>σ_app _ _ hp,?_,⟨g,cp,(cl9 l).length,by rw[ga7 Oa,hσ];rfl,rfl⟩⟩;exact(ab2.lend hi).regrow (ob0:=[cl8 l]) (row:=none) (fun o x hx hl=>⟨hx,fun p hp=>by simp⟩) rfl (cm1 hb) (fun k hk=>by cases hk) _ g cp _ (.inr hge) hob2
theorem cm6(zs:List (List UInt8)):(Lib.compact zs).length≤zs.length:=by
 unfold Lib.compact Lib.compactUpTo;rw[fz3];refine gb8 (gg5 _ _) ?_;simp
theorem cm7(zs:List (List UInt8))(hin:∀z∈zs,z.length≤maxLen):EvS E 111 [.own 0] [.row 9 1 (cm0 zs)] (.own 1) [.dead,.row 9 1 (cm0 (Lib.compact zs))]:=by
 intro w F σ vs hi hl hr
 match vs,hl with
 |[v0],_=>
  obtain⟨b,c,n,e1,rfl⟩:=hr 0 _ _ rfl rfl;have hσ:σ.length=1:=hi.len;obtain⟨cs,g1,g2,g3,g4,g5,g6,g7,g8,g9,g10⟩:=hi.obs 0 _ _ rfl e1;have hn:n=zs.length:=by rw[g3];simp[cm0]
  subst hn
  have ht:cs.take zs.length=zs.map encStr:=by
   refine gg8 fun j=>?_
   rcases fy5 j zs.length with hj|hj
   ·obtain⟨v,q1,q2⟩:=g8 j (.str ⟨zs[j].toArray⟩) 0 (.str ⟨zs[j].toArray⟩) (by simp[cm0,hj]) rfl;rw[Nat.mul_one,gd2]at q1;rw[List.getElem?_take_of_lt hj,q1,(Rd.imm_inv q2).1];simp[hj,encStr]
   ·rw[gc5 (by rw[gb6];omega),gc5 (by simpa using hj)]
  have hH:Holds encStr w b 0 zs.toArray:=holds_of_block g1 (by simpa using ht);have hmx:maxLen=9223372036854775807:=rfl;refine(Tryz.slices_Compact_string b 0 c zs w hH Oa g4).mono ?_;rintro e w' ⟨rfl,q,rfl⟩;have hkl:=cm6 zs;have hdl:(Lib.compact zs++List.replicate (zs.length-(Lib.compact zs).length) []).length=zs.length:=Og
  have hhp:=heap_sorted (n:=q) (os:= #[]) (Lib.compact zs++List.replicate (zs.length-(Lib.compact zs).length) []).toArray g1;rw[grow_empty]at hhp;have hgb:=grownBy_sorted (w:=w) (g:=b) (n:=q) (os:= #[]) (Lib.compact zs++List.replicate (zs.length-(Lib.compact zs).length) []).toArray;rw[grow_empty]at hgb;have htk:=take_putCells cs.toArray (Lib.compact zs++List.replicate (zs.length-(Lib.compact zs).length) []) (by rw[hdl];simp;omega)
  have hin2:∀z∈Lib.compact zs,z.length≤maxLen:=by
   intro z hz;unfold Lib.compact Lib.compactUpTo at hz;obtain⟨j,hj,rfl⟩:=ga1.1 hz;have hjl:j<zs.length:=by simpa using(gg1.1 hj).1
   have:zs.toArray[j]! =zs[j]:=by rw[getElem!_pos _ j (by simpa using hjl)];simp
   rw[this];exact hin _ (gf2 hjl)
  obtain⟨zc1,zc2⟩:=cm2 (Lib.compact zs);have hlb: ¬ ba3 w [.row 9 1 (cm0 zs)] σ b:=fun hh=>hh.2 ⟨0,_,_,rfl,rfl,e1,rfl⟩
  have hFb: ¬ F b:=g10
  have hob:aa6 (putRow encStr (Sort.ahead w q) b 0 (Lib.compact zs++List.replicate (zs.length-(Lib.compact zs).length) []).toArray) F (σ++ [(b,c,(Lib.compact zs).length)]) (ba3 w [.row 9 1 (cm0 zs)] σ) (.row 9 1 (cm0 (Lib.compact zs))) (b,c,(Lib.compact zs).length):=by
   refine⟨(putCells encStr 0 (Lib.compact zs++List.replicate (zs.length-(Lib.compact zs).length) []).toArray cs.toArray).toList,by simpa using hhp,by simp[putCells,g2],by simp[cm0],by omega,g5,zc1,zc2,fun i x j cd hx hc=>?_,hlb,hFb⟩;obtain⟨v,r1,r2⟩:=cm3 (w:=putRow encStr (Sort.ahead w q) b 0 (Lib.compact zs++List.replicate (zs.length-(Lib.compact zs).length) []).toArray) (F:=F) hin2 i x j cd hx hc;refine⟨v,?_,r2⟩;have hlt:i*1+j<(Lib.compact zs).length:=by simpa using(fy9.1 r1).1
   have h1:=congrArg (fun l=>l[i*1+j]?) htk;rw[List.getElem?_take_of_lt Oa,gg7,ga0 (by simpa using hlt)]at h1;rw[h1,r1]
  refine⟨_,F,σ++ [(b,c,(Lib.compact zs).length)],rfl,⟨hgb.os,hgb.tape,hgb.output,hgb.size,fun k hk=>hgb.block k hk.1 (fun e=>hlb (by cases e;exact hk)),fun k hk=>hk.1⟩,fun _ h=>h,fun _ h=>.inl h,fun i p hi hp=>σ_app _ _ hp,?_,⟨b,c,(Lib.compact zs).length,by rw[ga7 Oa,hσ];rfl,rfl⟩⟩
  exact(ab2.lend hi).regrow (ob0:=[.dead]) (row:=some b) (fun o x hx hl=>by
   cases o with
   |zero=>simp at hx;subst hx;cases hl
   |succ o=>simp at hx) rfl hgb (fun k hk=>by cases hk;exact hFb) _ b c _ (.inl rfl) hob
end Go.Proofs.YtndgolmgaenlfaaGreatDoor
