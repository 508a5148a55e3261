/- From rows' readings to plans; the listed variables as the engine wants them; a world for the witnesses. Conditions: none. -/
import Derived.Test.YtndgolmgaenlfaaGreatDoorFB
import Derived.Test.YtndgolmgaenlfaaGreatDoorGB
import Derived.Test.YtndgolmgaenlfaaGreatDoorGC
import Derived.Test.YtndgolmgaenlfaaGreatDoorRows
import Derived.Test.YtndgolmgaenlfaaGreatDoorTie
import Derived.ProofKit
set_option linter.unusedVariables false
set_option linter.unusedSimpArgs false
namespace Go.Proofs.YtndgolmgaenlfaaGreatDoor
set_option maxRecDepth 4000
open Go Go.Abs Go.Val Go.RowKit Go.ChangeShapes Go.WideShapes Go.Proofs.Tryz
theorem ty_V:∀{t:TypeId} {x:D},az0 Tryz.prog t x→(t=31→∃v,x=enc v)∧(t=29→∃l,x=.sl (bp2 l)):=by
 intro t x h
 induction h with
 |bool b h=>exact⟨fun e=>(by subst e;rw[underlying31]at h;cases h),fun e=>(by subst e;rw[underlying29]at h;cases h)⟩
 |int n h=>exact⟨fun e=>(by subst e;rw[underlying31]at h;cases h),fun e=>(by subst e;rw[underlying29]at h;cases h)⟩
 |str s h=>exact⟨fun e=>(by subst e;rw[underlying31]at h;cases h),fun e=>(by subst e;rw[underlying29]at h;cases h)⟩
 |arr ps h _ _=>exact⟨fun e=>(by subst e;rw[underlying31]at h;cases h),fun e=>(by subst e;rw[underlying29]at h;cases h)⟩
 |sl xs h hx ih=>
  refine⟨fun e=>(by subst e;rw[underlying31]at h;cases h),fun e=>?_⟩;subst e;rw[underlying29]at h
  cases h
  have:∀ys:List D,(∀y∈ys,∃v,y=enc v)→∃l,ys=bp2 l:=by
   intro ys
   induction ys with
   |nil=>exact fun _=>⟨[],by simp[bp2]⟩
   |cons y r ihr=>
    intro hy;obtain⟨v,rfl⟩:=hy y Oc;obtain⟨l,rfl⟩:=ihr fun z hz=>hy z (by simp[hz])
    exact⟨v::l,by simp[bp2,enc]⟩
  obtain⟨l,rfl⟩:=this xs fun y hy=>(ih y hy).1 rfl
  exact⟨l,rfl⟩
 |struct parts h hl hp ih=>
  refine⟨fun e=>?_,fun e=>(by subst e;rw[underlying29]at h;cases h)⟩;subst e;rw[underlying31]at h
  cases h
  match parts,hl with
  |[p0,p1,p2,p3,p4],_=>
   obtain⟨k,rfl⟩:=az0.int_inv underlying3 (hp 0 _ p0 rfl rfl);obtain⟨n,rfl⟩:=az0.int_inv underlying3 (hp 1 _ p1 rfl rfl);obtain⟨d,rfl⟩:=az0.int_inv underlying3 (hp 2 _ p2 rfl rfl);obtain⟨s,rfl⟩:=az0.str_inv underlying9 (hp 3 _ p3 rfl rfl);obtain⟨l,rfl⟩:=(ih 4 _ p4 rfl rfl).2 rfl;exact⟨.mk k n d s l,rfl⟩
theorem fb3{x:D}(h:az0 Tryz.prog 31 x):∃v,x=enc v:=(ty_V h).1 rfl
theorem ty_E:∀{t:TypeId} {x:D},az0 Tryz.prog t x→(t=33→∃v,x=bz1 v)∧(t=28→∃l,x=.sl (bz0 l)):=by
 intro t x h
 induction h with
 |bool b h=>exact⟨fun e=>(by subst e;rw[underlying33]at h;cases h),fun e=>(by subst e;rw[underlying28]at h;cases h)⟩
 |int n h=>exact⟨fun e=>(by subst e;rw[underlying33]at h;cases h),fun e=>(by subst e;rw[underlying28]at h;cases h)⟩
 |str s h=>exact⟨fun e=>(by subst e;rw[underlying33]at h;cases h),fun e=>(by subst e;rw[underlying28]at h;cases h)⟩
 |arr ps h _ _=>exact⟨fun e=>(by subst e;rw[underlying33]at h;cases h),fun e=>(by subst e;rw[underlying28]at h;cases h)⟩
 |sl xs h hx ih=>
  refine⟨fun e=>(by subst e;rw[underlying33]at h;cases h),fun e=>?_⟩;subst e;rw[underlying28]at h
  cases h
  have:∀ys:List D,(∀y∈ys,∃v,y=bz1 v)→∃l,ys=bz0 l:=by
   intro ys
   induction ys with
   |nil=>exact fun _=>⟨[],by simp[bz0]⟩
   |cons y r ihr=>
    intro hy;obtain⟨v,rfl⟩:=hy y Oc;obtain⟨l,rfl⟩:=ihr fun z hz=>hy z (by simp[hz])
    exact⟨v::l,by simp[bz0,bz1]⟩
  obtain⟨l,rfl⟩:=this xs fun y hy=>(ih y hy).1 rfl
  exact⟨l,rfl⟩
 |struct parts h hl hp ih=>
  refine⟨fun e=>?_,fun e=>(by subst e;rw[underlying28]at h;cases h)⟩;subst e;rw[underlying33]at h
  cases h
  match parts,hl with
  |[p0,p1,p2,p3,p4],_=>
   obtain⟨k,rfl⟩:=az0.int_inv underlying3 (hp 0 _ p0 rfl rfl);obtain⟨v,rfl⟩:=fb3 (hp 1 _ p1 rfl rfl);obtain⟨s,rfl⟩:=az0.str_inv underlying9 (hp 2 _ p2 rfl rfl);obtain⟨b,rfl⟩:=az0.bool_inv underlying4 (hp 3 _ p3 rfl rfl);obtain⟨l,rfl⟩:=(ih 4 _ p4 rfl rfl).2 rfl;exact⟨.mk k v s b l,rfl⟩
theorem fb4{x:D}(h:az0 Tryz.prog 33 x):∃v,x=bz1 v:=(ty_E h).1 rfl
theorem fb5{x:D}(h:az0 Tryz.prog 28 x):∃l,x=.sl (bz0 l):=(ty_E h).2 rfl
theorem fb6{α:Type}{f:α→D}:∀ys:List D,(∀y∈ys,∃v,y=f v)→∃l:List α,ys=l.map f
 |[],_=>⟨[],rfl⟩
 |y::r,hy=>by
  obtain⟨v,rfl⟩:=hy y Oc;obtain⟨l,rfl⟩:=fb6 r fun z hz=>hy z (by simp[hz])
  exact⟨v::l,rfl⟩
theorem fb7{x:D}(h:az0 Tryz.prog 23 x):∃l:List ByteArray,x=.sl (l.map .str):=by
 obtain⟨xs,rfl,hx⟩:=az0.sl_inv underlying23 h;obtain⟨l,rfl⟩:=fb6 (f:=D.str) xs fun y hy=>az0.str_inv underlying9 (hx y hy)
 exact⟨l,rfl⟩
theorem ty_PP{x:D}(h:az0 Tryz.prog 96 x):∃c,x=ct7 c:=by
 obtain⟨parts,rfl,hl,hp⟩:=az0.struct_inv underlying96 h
 match parts,hl with
 |[p0,p1],_=>
  obtain⟨s,rfl⟩:=az0.str_inv underlying9 (hp 0 _ p0 rfl rfl);obtain⟨e,rfl⟩:=fb4 (hp 1 _ p1 rfl rfl);exact⟨⟨s,e⟩,rfl⟩
theorem fb8{x:D}(h:az0 Tryz.prog 74 x):∃l:List PP,x=.sl (l.map ct7):=by
 obtain⟨xs,rfl,hx⟩:=az0.sl_inv underlying74 h;obtain⟨l,rfl⟩:=fb6 (f:=ct7) xs fun y hy=>ty_PP (hx y hy)
 exact⟨l,rfl⟩
theorem ty_NP{x:D}(h:az0 Tryz.prog 78 x):∃c,x=ct8 c:=by
 obtain⟨parts,rfl,hl,hp⟩:=az0.struct_inv underlying78 h
 match parts,hl with
 |[p0,p1,p2],_=>
  obtain⟨s,rfl⟩:=az0.str_inv underlying9 (hp 0 _ p0 rfl rfl);obtain⟨lb,rfl⟩:=fb7 (hp 1 _ p1 rfl rfl);obtain⟨ps,rfl⟩:=fb8 (hp 2 _ p2 rfl rfl);exact⟨⟨s,lb,ps⟩,rfl⟩
theorem fb9{x:D}(h:az0 Tryz.prog 66 x):∃l:List NP,x=.sl (l.map ct8):=by
 obtain⟨xs,rfl,hx⟩:=az0.sl_inv underlying66 h;obtain⟨l,rfl⟩:=fb6 (f:=ct8) xs fun y hy=>ty_NP (hx y hy)
 exact⟨l,rfl⟩
theorem ty_EP{x:D}(h:az0 Tryz.prog 76 x):∃c,x=ct9 c:=by
 obtain⟨parts,rfl,hl,hp⟩:=az0.struct_inv underlying76 h
 match parts,hl with
 |[p0,p1,p2,p3,p4,p5,p6],_=>
  obtain⟨s,rfl⟩:=az0.str_inv underlying9 (hp 0 _ p0 rfl rfl);obtain⟨ty,rfl⟩:=fb7 (hp 1 _ p1 rfl rfl);obtain⟨d,rfl⟩:=az0.int_inv underlying3 (hp 2 _ p2 rfl rfl);obtain⟨m,rfl⟩:=az0.int_inv underlying3 (hp 3 _ p3 rfl rfl);obtain⟨mn,rfl⟩:=az0.int_inv underlying3 (hp 4 _ p4 rfl rfl);obtain⟨mx,rfl⟩:=az0.int_inv underlying3 (hp 5 _ p5 rfl rfl);obtain⟨ps,rfl⟩:=fb8 (hp 6 _ p6 rfl rfl);exact⟨⟨s,ty,d,m,mn,mx,ps⟩,rfl⟩
theorem fc0{x:D}(h:az0 Tryz.prog 67 x):∃l:List EP,x=.sl (l.map ct9):=by
 obtain⟨xs,rfl,hx⟩:=az0.sl_inv underlying67 h;obtain⟨l,rfl⟩:=fb6 (f:=ct9) xs fun y hy=>ty_EP (hx y hy)
 exact⟨l,rfl⟩
theorem ty_PA{x:D}(h:az0 Tryz.prog 69 x):∃c,x=cu0 c:=by
 obtain⟨parts,rfl,hl,hp⟩:=az0.struct_inv underlying69 h
 match parts,hl with
 |[p0,p1,p2],_=>
  obtain⟨s,rfl⟩:=az0.str_inv underlying9 (hp 0 _ p0 rfl rfl);obtain⟨ns,rfl⟩:=fb9 (hp 1 _ p1 rfl rfl);obtain⟨es,rfl⟩:=fc0 (hp 2 _ p2 rfl rfl);exact⟨⟨s,ns,es⟩,rfl⟩
theorem fc1{x:D}(h:az0 Tryz.prog 27 x):∃l:List PA,x=.sl (l.map cu0):=by
 obtain⟨xs,rfl,hx⟩:=az0.sl_inv underlying27 h;obtain⟨l,rfl⟩:=fb6 (f:=cu0) xs fun y hy=>ty_PA (hx y hy)
 exact⟨l,rfl⟩
theorem ty_IT{x:D}(h:az0 Tryz.prog 55 x):∃c,x=cu1 c:=by
 obtain⟨parts,rfl,hl,hp⟩:=az0.struct_inv underlying55 h
 match parts,hl with
 |[p0,p1],_=>
  obtain⟨e,rfl⟩:=fb4 (hp 0 _ p0 rfl rfl);obtain⟨s,rfl⟩:=az0.str_inv underlying9 (hp 1 _ p1 rfl rfl);exact⟨⟨e,s⟩,rfl⟩
theorem fc2{x:D}(h:az0 Tryz.prog 34 x):∃l:List IT,x=.sl (l.map cu1):=by
 obtain⟨xs,rfl,hx⟩:=az0.sl_inv underlying34 h;obtain⟨l,rfl⟩:=fb6 (f:=cu1) xs fun y hy=>ty_IT (hx y hy)
 exact⟨l,rfl⟩
theorem ty_SK{x:D}(h:az0 Tryz.prog 57 x):∃c,x=cu2 c:=by
 obtain⟨parts,rfl,hl,hp⟩:=az0.struct_inv underlying57 h
 match parts,hl with
 |[p0,p1],_=>
  obtain⟨e,rfl⟩:=fb4 (hp 0 _ p0 rfl rfl);obtain⟨s,rfl⟩:=az0.bool_inv underlying4 (hp 1 _ p1 rfl rfl);exact⟨⟨e,s⟩,rfl⟩
theorem fc3{x:D}(h:az0 Tryz.prog 35 x):∃l:List SK,x=.sl (l.map cu2):=by
 obtain⟨xs,rfl,hx⟩:=az0.sl_inv underlying35 h;obtain⟨l,rfl⟩:=fb6 (f:=cu2) xs fun y hy=>ty_SK (hx y hy)
 exact⟨l,rfl⟩
theorem ty_SI{x:D}(h:az0 Tryz.prog 80 x):∃c,x=cu3 c:=by
 obtain⟨parts,rfl,hl,hp⟩:=az0.struct_inv underlying80 h
 match parts,hl with
 |[p0,p1,p2,p3,p4],_=>
  obtain⟨v,rfl⟩:=az0.str_inv underlying9 (hp 0 _ p0 rfl rfl);obtain⟨k,rfl⟩:=az0.str_inv underlying9 (hp 1 _ p1 rfl rfl);obtain⟨l,rfl⟩:=az0.str_inv underlying9 (hp 2 _ p2 rfl rfl);obtain⟨o,rfl⟩:=az0.bool_inv underlying4 (hp 3 _ p3 rfl rfl);obtain⟨e,rfl⟩:=fb4 (hp 4 _ p4 rfl rfl);exact⟨⟨v,k,l,o,e⟩,rfl⟩
theorem fc4{x:D}(h:az0 Tryz.prog 36 x):∃l:List SIt,x=.sl (l.map cu3):=by
 obtain⟨xs,rfl,hx⟩:=az0.sl_inv underlying36 h;obtain⟨l,rfl⟩:=fb6 (f:=cu3) xs fun y hy=>ty_SI (hx y hy)
 exact⟨l,rfl⟩
theorem ty_CL{x:D}(h:az0 Tryz.prog 38 x):∃c,x=cu4 c:=by
 obtain⟨parts,rfl,hl,hp⟩:=az0.struct_inv underlying38 h
 match parts,hl with
 |[p0,p1,p2,p3,p4,p5,p6,p7,p8,p9,p10,p11,p12],_=>
  obtain⟨k,rfl⟩:=az0.int_inv underlying3 (hp 0 _ p0 rfl rfl);obtain⟨o,rfl⟩:=az0.bool_inv underlying4 (hp 1 _ p1 rfl rfl);obtain⟨d,rfl⟩:=az0.bool_inv underlying4 (hp 2 _ p2 rfl rfl);obtain⟨ps,rfl⟩:=fc1 (hp 3 _ p3 rfl rfl);obtain⟨wh,rfl⟩:=fb5 (hp 4 _ p4 rfl rfl);obtain⟨e,rfl⟩:=fb4 (hp 5 _ p5 rfl rfl);obtain⟨nm,rfl⟩:=az0.str_inv underlying9 (hp 6 _ p6 rfl rfl);obtain⟨it,rfl⟩:=fc2 (hp 7 _ p7 rfl rfl);obtain⟨od,rfl⟩:=fc3 (hp 8 _ p8 rfl rfl);obtain⟨sk,rfl⟩:=az0.int_inv underlying3 (hp 9 _ p9 rfl rfl);obtain⟨lm,rfl⟩:=az0.int_inv underlying3 (hp 10 _ p10 rfl rfl);obtain⟨st,rfl⟩:=fc4 (hp 11 _ p11 rfl rfl);obtain⟨ns,rfl⟩:=fb7 (hp 12 _ p12 rfl rfl);exact⟨⟨k,o,d,ps,wh,e,nm,it,od,sk,lm,st,ns⟩,rfl⟩
theorem fc5{x:D}(h:az0 Tryz.prog 58 x):∃l:List Int,x=.sl (iL l):=by
 obtain⟨xs,rfl,hx⟩:=az0.sl_inv underlying58 h;obtain⟨l,rfl⟩:=fb6 (f:=D.int) xs fun y hy=>az0.int_inv underlying3 (hx y hy)
 exact⟨l,rfl⟩
theorem ty_AT{x:D}(h:az0 Tryz.prog 60 x):∃a,x=cj6 a:=by
 obtain⟨parts,rfl,hl,hp⟩:=az0.struct_inv underlying60 h
 match parts,hl with
 |[p0,p1,p2,p3,p4],_=>
  obtain⟨k,rfl⟩:=az0.int_inv underlying3 (hp 0 _ p0 rfl rfl);obtain⟨vs,rfl⟩:=fc5 (hp 1 _ p1 rfl rfl);obtain⟨s,rfl⟩:=az0.str_inv underlying9 (hp 2 _ p2 rfl rfl);obtain⟨ty,rfl⟩:=fb7 (hp 3 _ p3 rfl rfl);obtain⟨v,rfl⟩:=fb3 (hp 4 _ p4 rfl rfl);obtain⟨vk,vn,vd,vs',vl⟩:=v;exact⟨⟨k,vs,s,ty,.mk vk vn vd vs' vl⟩,rfl⟩
theorem fc6{x:D}(h:az0 Tryz.prog 24 x):∃l:List AT,x=.sl (l.map cj6):=by
 obtain⟨xs,rfl,hx⟩:=az0.sl_inv underlying24 h;obtain⟨l,rfl⟩:=fb6 (f:=cj6) xs fun y hy=>ty_AT (hx y hy)
 exact⟨l,rfl⟩
theorem ty_CJ{x:D}(h:az0 Tryz.prog 26 x):∃c,x=cj7 c:=by
 obtain⟨parts,rfl,hl,hp⟩:=az0.struct_inv underlying26 h
 match parts,hl with
 |[p0,p1],_=>
  obtain⟨vs,rfl⟩:=fb7 (hp 0 _ p0 rfl rfl);obtain⟨ats,rfl⟩:=fc6 (hp 1 _ p1 rfl rfl);exact⟨⟨vs,ats⟩,rfl⟩
theorem ty_P:∀{t:TypeId} {x:D},az0 Tryz.prog t x→(t=40→∃v,x=do8 v)∧(t=22→∃l:List Pl,x=.sl (l.map do8)):=by
 intro t x h
 induction h with
 |bool b h=>exact⟨fun e=>(by subst e;rw[underlying40]at h;cases h),fun e=>(by subst e;rw[underlying22]at h;cases h)⟩
 |int n h=>exact⟨fun e=>(by subst e;rw[underlying40]at h;cases h),fun e=>(by subst e;rw[underlying22]at h;cases h)⟩
 |str s h=>exact⟨fun e=>(by subst e;rw[underlying40]at h;cases h),fun e=>(by subst e;rw[underlying22]at h;cases h)⟩
 |arr ps h _ _=>exact⟨fun e=>(by subst e;rw[underlying40]at h;cases h),fun e=>(by subst e;rw[underlying22]at h;cases h)⟩
 |sl xs h hx ih=>
  refine⟨fun e=>(by subst e;rw[underlying40]at h;cases h),fun e=>?_⟩;subst e;rw[underlying22]at h
  cases h
  obtain⟨l,rfl⟩:=fb6 (f:=do8) xs fun y hy=>(ih y hy).1 rfl
  exact⟨l,rfl⟩
 |struct parts h hl hp ih=>
  refine⟨fun e=>?_,fun e=>(by subst e;rw[underlying22]at h;cases h)⟩;subst e;rw[underlying40]at h
  cases h
  match parts,hl with
  |[p0,p1,p2,p3,p4,p5,p6,p7,p8,p9],_=>
   obtain⟨op,rfl⟩:=az0.int_inv underlying3 (hp 0 _ p0 rfl rfl);obtain⟨l,rfl⟩:=(ih 1 _ p1 rfl rfl).2 rfl;obtain⟨cj,rfl⟩:=ty_CJ (hp 2 _ p2 rfl rfl);obtain⟨cl,rfl⟩:=ty_CL (hp 3 _ p3 rfl rfl);obtain⟨e,rfl⟩:=fb4 (hp 4 _ p4 rfl rfl);obtain⟨nm,rfl⟩:=az0.str_inv underlying9 (hp 5 _ p5 rfl rfl);obtain⟨it,rfl⟩:=fc2 (hp 6 _ p6 rfl rfl);obtain⟨od,rfl⟩:=fc3 (hp 7 _ p7 rfl rfl);obtain⟨sk,rfl⟩:=az0.int_inv underlying3 (hp 8 _ p8 rfl rfl);obtain⟨lm,rfl⟩:=az0.int_inv underlying3 (hp 9 _ p9 rfl rfl);exact⟨.mk ⟨op,cj,cl,e,nm,it,od,sk,lm⟩ l,by rw[dp1];rfl⟩
theorem fc7{x:D}(h:az0 Tryz.prog 40 x):∃v,x=do8 v:=(ty_P h).1 rfl
def tys2:List TypeId:=[3,9,4,58,23,29,31,28,33,96,74,78,66,76,67,69,27,55,34,57,35,80,36,38,60,24,26,40,22]
theorem tys2_ok:az3 Tryz.prog tys2=true:=Ob
theorem fc8{H:Type}{d:DataW H}{x:D}(h:az1 d x):bi2 x≤Rows.uptoBulk d:=by
 induction h with
 |bool b=>simp only[bi2,Rows.uptoBulk];omega
 |int k n=>simp only[bi2,Rows.uptoBulk];omega
 |str s=>simp only[bi2,Rows.uptoBulk];simp
 |nil=>simp only[bi2,bi3,Rows.uptoBulk];omega
 |sl es sp xs hl _ ih=>
  have key:∀(es:List (DataW H)) (xs:List D),es.length=xs.length→(∀(i:Nat) e x,es[i]? =some e→xs[i]? =some x→bi2 x≤Rows.uptoBulk e)→bi3 xs≤Rows.uptoBulkAll es:=by
   intro es
   induction es with
   |nil=>intro xs hl _;cases xs with
    |nil=>simp only[bi3,Rows.uptoBulkAll];omega
    |cons _ _=>simp at hl
   |cons e r ihr=>intro xs hl hi;cases xs with
    |nil=>simp at hl
    |cons y q=>
     have h1:=hi 0 e y rfl rfl;have h2:=ihr q (by simpa using hl) fun i e x he hx=>hi (i+1) e x (by simpa using he) (by simpa using hx)
     simp only[bi3,Rows.uptoBulkAll];omega
  have:=key es xs hl ih;simp only[bi2,Rows.uptoBulk];omega
 |agg ds parts hl _ ih=>
  have key:∀(es:List (DataW H)) (xs:List D),es.length=xs.length→(∀(i:Nat) e x,es[i]? =some e→xs[i]? =some x→bi2 x≤Rows.uptoBulk e)→bi3 xs≤Rows.uptoBulkAll es:=by
   intro es
   induction es with
   |nil=>intro xs hl _;cases xs with
    |nil=>simp only[bi3,Rows.uptoBulkAll];omega
    |cons _ _=>simp at hl
   |cons e r ihr=>intro xs hl hi;cases xs with
    |nil=>simp at hl
    |cons y q=>
     have h1:=hi 0 e y rfl rfl;have h2:=ihr q (by simpa using hl) fun i e x he hx=>hi (i+1) e x (by simpa using he) (by simpa using hx)
     simp only[bi3,Rows.uptoBulkAll];omega
  have:=key ds parts hl ih;simp only[bi2,bi6,Rows.uptoBulk];omega
theorem fc9{H:Type}:∀(ds:List (DataW H)) (xs:List D),ds.length=xs.length→(∀(i:Nat) d x,ds[i]? =some d→xs[i]? =some x→az1 d x)→bi3 xs≤Rows.uptoBulkAll ds
 |[],[],_,_=>by simp only[bi3,Rows.uptoBulkAll];omega
 |d::r,x::q,hl,h=>by
  have h1:=fc8 (h 0 d x rfl rfl);have h2:=fc9 r q (by simpa using hl) fun i d x hd hx=>h (i+1) d x (by simpa using hd) (by simpa using hx)
  simp only[bi3,Rows.uptoBulkAll];omega
def tys:List TypeId:=[3,9,29,31,145]
theorem tys_ok:az3 Tryz.prog tys=true:=Ob
noncomputable def seatLaid:List (String × DataW Unit):=Rows.planChecksRow.laid
theorem gi_of{W:World}(hL:laidMetH Tryz.prog seatLaid W)(hS:W.ShapedOpen Tryz.prog):E.GI W (F0 W):=by
 rw[MakeChecks.laidMetH_plain _ _ _ Ob]at hL;obtain⟨ps,hLV,-⟩:=hL
 have hlt:∀{g:Nat} {v:Value},W.cell? ⟨g,0,none⟩=some v→F0 W g:=fun{g v} h=>by
  unfold F0;rcases fy5 g W.heap.size with h'|h'
  ·exact h'
  ·unfold World.cell? at h;simp only at h;rw[gh5 h']at h
   cases h
 refine⟨fun e he=>?_,⟨?_,?_⟩,?_,?_⟩
 ·simp only[E,seatG,ga4]at he;subst he;obtain⟨x,hm,hs⟩:=az7 tys tys_ok hLV "graphdb/frac.zero" Rows.laid_graphdb_frac_zero 1 145 (by simp[seatLaid,Rows.planChecksRow]) Ob Ob Od;obtain⟨parts,rfl,hl,hp⟩:=az1.agg_inv hs
  match parts,hl with
  |[p0,p1],_=>
   have e0:=az1.int_inv (hp 0 _ p0 rfl rfl);have e1:=az1.int_inv (hp 1 _ p1 rfl rfl);subst e0 e1;exact hm
 ·have ht:Lib.TabIs Tryz.prog W "internal/strconv.uint64pow10" .u64 Lib.pow10Tab:=
   ba0 hLV "internal/strconv.uint64pow10" .u64 Lib.pow10Tab 2 280 175 20 (by
    have:(Lib.tabData .u64 Lib.pow10Tab:DataW Unit)=Rows.laid_internal_strconv_uint64pow10:=by rfl
    rw[this];simp[seatLaid,Rows.planChecksRow]) Ob Ob underlying280 underlying175 Ob Ob
  unfold Lib.TabIs World.var? at ht;have hg:Tryz.prog.globalNamed "internal/strconv.uint64pow10" =some 2:=Ob
  rw[hg]at ht;simp only[Option.bind_some]at ht;unfold F0;rcases fy5 2 W.heap.size with h|h
  ·exact h
  ·rw[gh5 h]at ht;cases ht
 ·exact ba0 hLV "internal/strconv.uint64pow10" .u64 Lib.pow10Tab 2 280 175 20 (by
    have:(Lib.tabData .u64 Lib.pow10Tab:DataW Unit)=Rows.laid_internal_strconv_uint64pow10:=by rfl
    rw[this];simp[seatLaid,Rows.planChecksRow]) Ob Ob underlying280 underlying175 Ob Ob
 ·obtain⟨m,hm⟩:=cell_of_shapedOpen_int (P:=Tryz.prog) (g:=0) (t:=3) (zero:= #[.int .i64 0]) hS Oe Ob Od Ob Ob underlying3;exact hlt hm
 ·exact cell_of_shapedOpen_int (P:=Tryz.prog) (g:=0) (t:=3) (zero:= #[.int .i64 0]) hS Oe Ob Od Ob Ob underlying3
noncomputable def wit (os:Os):World:=
 {World.doorLaid Tryz.prog 400 os with heap:=(World.doorLaid Tryz.prog 400 os).heap.modify 3 fun o=>match o with|.cells _ t z=>.cells (ba2 Rows.laid_unicode_utf8_first) t z|o=>o}
set_option maxRecDepth 100000 in
theorem wit_met(os:Os)(args:Array Value):laidMetH Tryz.prog seatLaid ((wit os).forCall (fun _ _=>0) ⟨#[],args,[]⟩).memory:=
 laidMetH_of_parts3 (fuel:=8) (laidMet_of_run' 8 Ob Ob) Ob Ob
set_option maxRecDepth 100000 in
theorem wit_shaped(os:Os)(args:Array Value):((wit os).forCall (fun _ _=>0) ⟨#[],args,[]⟩).Shaped Tryz.prog:=World.shaped_of_RefB Ob Ob
theorem seat_own:ownKnob Tryz.prog.godebug=none:=Ob
theorem seat_out:laidOutB Tryz.prog=true:=Ob
end Go.Proofs.YtndgolmgaenlfaaGreatDoor
