/- Operators' lines that are the same come of the same operators; Operators' lines that are the same come of the same operators; What a checked plan with. Conditions: each part's own, as it says. -/
import Derived.Test.YtndgolmgaenlfaaGreatDoorGC
import Derived.Test.YtndgolmgaenlfaaGreatDoorHB
import Derived.Test.YtndgolmgaenlfaaGreatDoorTB
import Derived.Test.YtndgolmgaenlfaaGreatDoorFB
set_option linter.unusedVariables false
set_option linter.unusedSimpArgs false
namespace Go.Proofs.YtndgolmgaenlfaaGreatDoor
set_option maxRecDepth 4000
open Go Go.Abs Go.Val Go.RowKit
def CN(s:ByteArray):Prop:=WC s∧bl s≠ []
theorem nm_U:UQ CN dlm bl:=fun a b r q ha hb hr hq h=>(fo4 ha.1 hb.1 hr hq h).1
theorem vs_uq{l m:List ByteArray}(hl:∀s∈l,CN s)(hm:∀s∈m,CN s){r q:List UInt8}(h:Lib.join (l.map bl) [44,32]++41::r=Lib.join (m.map bl) [44,32]++41::q):l=m∧r=q:=by
 have hd:∀{s:ByteArray} {l:List ByteArray} {u r:List UInt8},CN s→Lib.join ((s::l).map bl) [44,32]++u≠41::r:=fun{s l u r} hs e=>by
  obtain⟨h1,h2⟩:=hs;rw[fz7,Lib.join_cons,fz5]at e
  cases c:bl s with
  |nil=>exact h2 c
  |cons x y=>
   rw[c]at e;have hx:=h1 x (by rw[c];simp);simp only[gb4,List.cons.injEq]at e;rw[e.1]at hx;exact absurd hx Oe
 have key:l=m:=by
  match l,m with
  |[],[]=>rfl
  |[],b::m=>exact absurd h.symm (hd (hm b Oc))
  |a::l,[]=>exact absurd h (hd (hl a Oc))
  |a::l,b::m=>exact fl7 (fun r=>fi6 Oe _) nm_U (a::l) (b::m) Oc Oc hl hm _ _ (fi6 Oe _) (fi6 Oe _) (fl8 Od _) (fl8 Od _) h
 subst key;exact⟨rfl,by simpa using gc9 h⟩
def asJ(l:List AT):List UInt8:=(l.map fun a=>[32]++atT a).flatten
theorem fq0:∀(l m:List AT),(∀a∈l,CAT a)→(∀a∈m,CAT a)→∀{r q:List UInt8},asJ l++10::r=asJ m++10::q→l=m∧r=q
 |[],[],_,_,r,q,h=>⟨rfl,by simpa[asJ]using h⟩
 |[],b::m,_,_,r,q,h=>by
  simp[asJ]at h
 |a::l,[],_,_,r,q,h=>by
  simp[asJ]at h
 |a::l,b::m,hl,hm,r,q,h=>by
  have sa:∀(l:List AT) (r:List UInt8),SAp (asJ l++10::r):=fun l r=>by
   cases l with
   |nil=>exact⟨10,r,rfl,.inr rfl⟩
   |cons a l=>exact⟨32,_,rfl,.inl rfl⟩
  have h1:atT a++(asJ l++10::r)=atT b++(asJ m++10::q):=by simpa[asJ]using h
  obtain rfl:=at_uq a b _ _ (hl a Oc) (hm b Oc) (sa _ _) (sa _ _) h1;obtain⟨e,h2⟩:=fq0 l m (fun x hx=>hl x (gc2 _ hx)) (fun x hx=>hm x (gc2 _ hx)) (gc9 h1);exact⟨by rw[e],h2⟩
def CIT(x:IT):Prop:=CE x.e∧WC x.asn
theorem fq1{e f:Ex}{s t:ByteArray}(he:CE e)(hf:CE f)(hs:WC s)(ht:WC t){r q:List UInt8}(hr:dlm r)(hq:dlm q)(h:txE e++ [32,65,83,32]++bl s++r=txE f++ [32,65,83,32]++bl t++q):e=f∧s=t∧r=q:=by
 have h1:txE e++(32::(65::[83]++32::(bl s++r)))=txE f++(32::(65::[83]++32::(bl t++q))):=by simpa using h
 have sx:∀u,SX (32::(65::[83]++32::u)):=fun u=>sx_w Oe Oe (fi6 Oe _)
 obtain⟨e1,h2⟩:=fl5 he hf (sx _) (sx _) h1;have h3:bl s++r=bl t++q:=by simpa using h2
 obtain⟨e2,h4⟩:=fo4 hs ht hr hq h3;exact⟨e1,e2,h4⟩
theorem fq2:UQ CIT dlm itT:=fun a b r q ha hb hr hq h=>by
 obtain⟨e,s⟩:=a;obtain⟨f,t⟩:=b;obtain⟨e1,e2,-⟩:=fq1 ha.1 hb.1 ha.2 hb.2 hr hq h;have e1:e=f:=e1;have e2:s=t:=e2;rw[e1,e2]
theorem fq3(a:List UInt8)(L:List (List UInt8)):liT (a::L)=32::Lib.join (a::L) [44,32]:=rfl
theorem li_uq{l m:List IT}(hl:∀x∈l,CIT x)(hm:∀x∈m,CIT x){r q:List UInt8}(h:liT (l.map itT)++10::r=liT (m.map itT)++10::q):l=m∧r=q:=by
 have key:l=m:=by
  match l,m with
  |[],[]=>rfl
  |[],b::m=>rw[fz7,fq3]at h;cases h
  |a::l,[]=>rw[fz7,fq3]at h;cases h
  |a::l,b::m=>
   rw[fz7,fq3,fz7,fq3]at h;simp only[gb4,List.cons.injEq,true_and]at h;exact fl7 (fun r=>fi6 Oe _) fq2 (a::l) (b::m) Oc Oc hl hm _ _ (fi6 Oe _) (fi6 Oe _) (fl8 Od _) (fl8 Od _) h
 subst key;exact⟨rfl,by simpa using gc9 h⟩
def SOp(r:List UInt8):Prop:=SX r∧∀t,r≠32::68::t
theorem od_uq:UQ (fun x:SK=>CE x.e) SOp odT:=fun a b r q ha hb hr hq h=>by
 obtain⟨e,d⟩:=a;obtain⟨f,d'⟩:=b;have sx:∀r,dlm r→SX (32::(68::[69,83,67]++r)):=fun r hr=>sx_w Oe Oe hr
 have t1:∀(e:Ex) (r:List UInt8),odT ⟨e,true⟩++r=txE e++(32::(68::[69,83,67]++r)):=fun e r=>by simp[odT]
 have t2:∀(e:Ex) (r:List UInt8),odT ⟨e,false⟩++r=txE e++r:=fun e r=>by simp[odT]
 cases d<;>cases d'
 ·rw[t2,t2]at h;have e1:e=f:=(fl5 ha hb hr.1 hq.1 h).1;rw[e1]
 ·rw[t2,t1]at h;exact absurd (fl5 ha hb hr.1 (sx _ hq.1.1) h).2 (hr.2 _)
 ·rw[t1,t2]at h;exact absurd (fl5 ha hb (sx _ hr.1.1) hq.1 h).2.symm (hq.2 _)
 ·rw[t1,t1]at h;have e1:e=f:=(fl5 ha hb (sx _ hr.1.1) (sx _ hq.1.1) h).1;rw[e1]
def fq4:TK:=.wd [83,75,73,80]
def fq5:TK:=.wd [76,73,77,73,84]
def okH(l:List TK):Prop:=∀u,l≠fq4::u∧l≠fq5::u
theorem fq6{t:TK}(h:(TK.eq t fq4||TK.eq t fq5)=false)(r:List TK):okH (t::r):=fun u=>by
 rw[gb3]at h;refine⟨fun e=>?_,fun e=>?_⟩<;>cases e
 ·exact absurd (TK.eq_self fq4) (by rw[h.1];decide)
 ·exact absurd (TK.eq_self fq5) (by rw[h.2];decide)
theorem hd_ok{x:Ex}(h:CX x):∀r,okH (tkE x++r):=by
 have op:∀{a:Ex},(∀r,okH (tkE a++r))→∀r,okH (opK a++r):=fun{a} ih r=>by
  unfold opK
  cases cw9 a.op with
  |true=>exact fq6 rfl _
  |false=>exact ih r
 induction h with
 |cst v h=>
  intro r;rcases h with rfl|⟨n,hn,rfl⟩|⟨n,hn,rfl⟩|⟨s,rfl⟩
  ·exact fq6 (t:=fd8) rfl r
  ·rcases hn with rfl|rfl
   ·exact fq6 (t:=fe0) rfl r
   ·exact fq6 (t:=fd9) rfl r
  ·exact fq6 (t:=.num n) rfl r
  ·exact fq6 (t:=.st s.data.toList) rfl r
 |var s=>intro r;exact fq6 (t:=.nm s.data.toList) rfl r
 |post k s a hk _ ih=>
  intro r;rcases hk with rfl|rfl
  ·show okH ((opK a++ [fe2 46,.nm (bl s)])++r);rw[fz5];exact op ih _
  ·show okH ((opK a++ [fe2 58,.nm (bl s)])++r);rw[fz5];exact op ih _
 |un k a hk _ ih=>
  intro r;rcases hk with rfl|rfl|rfl
  ·exact fq6 (t:=fd6) rfl _
  ·exact fq6 (t:=fe2 45) rfl _
  ·show okH ((opK a++ [fd7,fd8])++r);rw[fz5];exact op ih _
 |bin k a b h1 h2 _ _ iha _=>
  intro r;have q:∀j:Int,(j<7∨20<j)→(k==j)=false:=fun j hj=>by rw[beq_eq_false_iff_ne];omega
  have e1:tkE (.mk k bq3 ⟨#[]⟩ false [a,b])=opK a++sgK k::opK b:=by
   rw[tkE,tkN,q 1 Oa,q 2 Oa,q 3 Oa,q 4 Oa,q 5 Oa,q 6 Oa,q 21 Oa,q 22 Oa,q 23 Oa,q 24 Oa];rfl
  rw[e1,fz5];exact op iha _
 |lst l _ _=>intro r;exact fq6 (t:=fe2 91) rfl _
 |fn s l _ _ _=>intro r;exact fq6 (t:=.nm s.data.toList) rfl _
 |ag0 s _=>intro r;exact fq6 (t:=.nm s.data.toList) rfl _
 |ag1 s d a _ _ _=>intro r;cases d<;>exact fq6 (t:=.nm s.data.toList) rfl _
def bdU(a b:Int)(r:List UInt8):List UInt8:=bdT skT a++(bdT lmT b++10::r)
theorem fq7{w:List UInt8}{n:Int}(h:n<0):bdT w n=[]:=by unfold bdT;rw[decide_eq_true h];rfl
theorem fq8{w:List UInt8}{n:Int}(h: ¬ n<0)(r:List UInt8):bdT w n++r=32::(w++32::(Lib.itoa n++r)):=by unfold bdT;rw[decide_eq_false h];simp
theorem fq9(a b:Int)(r:List UInt8):(a<0∧b<0∧bdU a b r=10::r)∨(a<0∧0≤b∧bdU a b r=32::(76::[73,77,73,84]++32::(Lib.itoa b++10::r)))∨
  (0≤a∧bdU a b r=32::(83::[75,73,80]++32::(Lib.itoa a++(bdT lmT b++10::r)))):=by
 unfold bdU
 by_cases ha:a<0
 ·by_cases hb:b<0
  ·exact .inl ⟨ha,hb,by rw[fq7 ha,fq7 hb];rfl⟩
  ·exact .inr (.inl ⟨ha,by omega,by rw[fq7 ha,fq8 hb];rfl⟩)
 ·exact .inr (.inr ⟨by omega,by rw[fq8 ha];rfl⟩)
theorem fr0(b:Int)(r:List UInt8):dlm (bdT lmT b++10::r):=by
 by_cases hb:b<0
 ·rw[fq7 hb];exact fi6 Oe _
 ·rw[fq8 hb];exact fi6 Oe _
theorem fr1{a b:Int}(ha: -1≤a)(hb: -1≤b){r q:List UInt8}(h:bdT lmT a++10::r=bdT lmT b++10::q):a=b∧r=q:=by
 by_cases na:a<0<;>by_cases nb:b<0
 ·rw[fq7 na,fq7 nb]at h;exact⟨by omega,by simpa using h⟩
 ·rw[fq7 na,fq8 nb]at h;cases h
 ·rw[fq7 nb,fq8 na]at h;cases h
 ·rw[fq8 na,fq8 nb]at h;simp only[List.cons.injEq,true_and]at h;have h:=gc9 h;simp only[List.cons.injEq,true_and]at h;obtain⟨e1,e2⟩:=fn1 Oa Oa (fi6 Oe _) (fi6 Oe _) h;exact⟨e1,by simpa using e2⟩
theorem bd_uq{a b a' b':Int}(h1: -1≤a)(h2: -1≤b)(h3: -1≤a')(h4: -1≤b'){r q:List UInt8}(h:bdU a b r=bdU a' b' q):a=a'∧b=b'∧r=q:=by
 unfold bdU at h
 by_cases na:a<0<;>by_cases nb:a'<0
 ·rw[fq7 na,fq7 nb]at h;obtain⟨e1,e2⟩:=fr1 h2 h4 h;exact⟨by omega,e1,e2⟩
 ·rw[fq7 na,fq8 nb]at h
  by_cases n2:b<0
  ·rw[fq7 n2]at h;cases h
  ·rw[gb7,fq8 n2]at h;cases h
 ·rw[fq7 nb,fq8 na]at h
  by_cases n2:b'<0
  ·rw[fq7 n2]at h;cases h
  ·rw[gb7,fq8 n2]at h;cases h
 ·rw[fq8 na,fq8 nb]at h;simp only[List.cons.injEq,true_and]at h;have h:=gc9 h;simp only[List.cons.injEq,true_and]at h;obtain⟨e1,e2⟩:=fn1 Oa Oa (fr0 _ _) (fr0 _ _) h;obtain⟨e3,e4⟩:=fr1 h2 h4 e2;exact⟨e1,e3,e4⟩
theorem fr2(a b:Int)(r:List UInt8):SOp (bdU a b r)∧n44 (bdU a b r):=by
 rcases fq9 a b r with⟨-,-,e⟩|⟨-,-,e⟩|⟨-,e⟩<;>rw[e]
 ·exact⟨⟨fl4 Od _,fun t e=>by cases e⟩,fl8 Od _⟩
 ·exact⟨⟨sx_w Oe Oe (fi6 Oe _),fun t e=>by cases e⟩,fl8 Od _⟩
 ·exact⟨⟨sx_w Oe Oe (fi6 Oe _),fun t e=>by cases e⟩,fl8 Od _⟩
theorem fr3{x:SK}{l:List SK}(hx:CE x.e)(a b:Int){r u:List UInt8}(hu:SOp u):bdU a b r≠liT ((x::l).map odT)++u:=by
 intro h;rw[fz7,fq3,Lib.join_cons]at h;obtain⟨e,d⟩:=x
 have st:∃w,dlm w∧odT ⟨e,d⟩++(Lib.joinTail [44,32] (l.map odT)++u)=txE e++w:=by
  have dt:dlm (Lib.joinTail [44,32] (l.map odT)++u):=by
   cases l with
   |nil=>exact hu.1.1
   |cons y l=>exact fi6 (c:=44) Oe _
  cases d with
  |false=>exact⟨_,dt,rfl⟩
  |true=>exact⟨32::([68,69,83,67]++(Lib.joinTail [44,32] (l.map odT)++u)),fi6 Oe _,by simp[odT]⟩
 obtain⟨w,hw,e1⟩:=st;have h:bdU a b r=32::(txE e++w):=by rw[h,←e1];simp
 have lx:lex (txE e++w)=tkE e++lex w:=fj4 hx.1 hx.2 w hw;have ok:=hd_ok hx.1 (lex w);rcases fq9 a b r with⟨-,-,e⟩|⟨-,-,e⟩|⟨-,e⟩<;>rw[e]at h<;>clear e
 ·cases h
 ·simp only[List.cons.injEq,true_and]at h;rw[←h,fi4 Oe (fi6 Oe _)]at lx;exact(ok _).2 lx.symm
 ·simp only[List.cons.injEq,true_and]at h;rw[←h,fi4 Oe (fi6 Oe _)]at lx;exact(ok _).1 lx.symm
theorem sr_uq{l m:List SK}(hl:∀x∈l,CE x.e)(hm:∀x∈m,CE x.e){a b a' b':Int}(h1: -1≤a)(h2: -1≤b)(h3: -1≤a')(h4: -1≤b'){r q:List UInt8}(h:liT (l.map odT)++bdU a b r=liT (m.map odT)++bdU a' b' q):l=m∧a=a'∧b=b'∧r=q:=by
 obtain⟨s1,t1⟩:=fr2 a b r;obtain⟨s2,t2⟩:=fr2 a' b' q
 have key:l=m:=by
  match l,m with
  |[],[]=>rfl
  |[],y::m=>exact absurd h (fr3 (hm y Oc) _ _ s2)
  |x::l,[]=>exact absurd h.symm (fr3 (hl x Oc) _ _ s1)
  |x::l,y::m=>
   rw[fz7,fq3,fz7,fq3]at h;simp only[gb4,List.cons.injEq,true_and]at h;exact fl7 (fun r=>⟨fl4 Od _,fun t e=>by cases e⟩) od_uq (x::l) (y::m) Oc Oc hl hm _ _ s1 s2 t1 t2 h
 subst key;exact⟨rfl,bd_uq h1 h2 h3 h4 (gc9 h)⟩
structure CB(b:PB):Prop where
 o:1≤b.op∧b.op≤11
 jn:∀s∈b.cj.vs,CN s
 ja:∀a∈b.cj.as,CAT a
 j0:b.op≠2→b.cj=⟨[],[]⟩
 c:b.op=5→CCL b.cl
 c0:b.op≠5→b.cl.opt=false∧b.cl.ps=[]∧b.cl.wh=[]
 e:b.op=6∨b.op=11→CE b.e
 e0:b.op≠6→b.op≠11→b.e=zeX
 n:b.op=11→WC b.nm
 n0:b.op≠11→b.nm=⟨#[]⟩
 i:∀x∈b.it,CIT x
 i0:b.op≠7→b.op≠8→b.it=[]
 d:∀x∈b.od,CE x.e
 d0:b.op≠10→b.od=[]∧b.sk=0∧b.lm=0
 s: -1≤b.sk∧ -1≤b.lm
structure EqB(a b:PB):Prop where
 o:a.op=b.op
 j:a.cj=b.cj
 c:a.cl.opt=b.cl.opt∧a.cl.ps=b.cl.ps∧a.cl.wh=b.cl.wh
 e:a.e=b.e
 n:a.nm=b.nm
 i:a.it=b.it
 d:a.od=b.od
 s:a.sk=b.sk
 l:a.lm=b.lm
def wOp(op:Int):List UInt8:=
 bif op==1 then [117,110,105,116]else bif op==2 then [109,117,108,116,105]else bif op==3 then [106,111,105,110]else bif op==4 then [108,101,102,116]else
 bif op==5 then [97,112,112,108,121]else bif op==6 then [102,105,108,116,101,114]else bif op==7 then [112,114,111,106,101,99,116]else bif op==8 then [103,114,111,117,112]else
 bif op==9 then [117,110,105,113,117,101]else bif op==10 then [115,111,114,116]else [117,110,119,105,110,100]
def tOp(b:PB)(r:List UInt8):List UInt8:=
 bif b.op==2 then 32::40::(Lib.join (b.cj.vs.map bl) [44,32]++41::(asJ b.cj.as++r))else
 bif b.op==5 then 32::(clT b.cl++r)else bif b.op==6 then 32::(txE b.e++r)else bif b.op==7||b.op==8 then liT (b.it.map itT)++r else
 bif b.op==10 then liT (b.od.map odT)++(bdT skT b.sk++(bdT lmT b.lm++r))else bif b.op==11 then 32::(txE b.e++ [32,65,83,32]++bl b.nm++r)else r
theorem ops{n:Int}(h:1≤n∧n≤11):n=1∨n=2∨n=3∨n=4∨n=5∨n=6∨n=7∨n=8∨n=9∨n=10∨n=11:=Oa
theorem fr4{b:PB}(h:1≤b.op∧b.op≤11)(r:List UInt8):lnT b++r=wOp b.op++tOp b r:=by
 obtain⟨op,cj,cl,e,nm,it,od,sk,lm⟩:=b;rcases ops h with h|h|h|h|h|h|h|h|h|h|h<;>(have h:op=_:=h;subst h;simp[lnT,wOp,tOp,mlT,asJ,srT])
theorem fr5(b:PB)(r:List UInt8):dlm (tOp b (10::r)):=by
 have li:∀(L:List (List UInt8)) {u:List UInt8},dlm u→dlm (liT L++u):=fun L u hu=>by
  cases L with
  |nil=>exact hu
  |cons x l=>exact fi6 (c:=32) Oe _
 have d10:dlm (10::r):=fi6 Oe _;unfold tOp
 cases b.op==2 with
 |true=>exact fi6 Oe _
 |false=>
 cases b.op==5 with
 |true=>exact fi6 Oe _
 |false=>
 cases b.op==6 with
 |true=>exact fi6 Oe _
 |false=>
 cases b.op==7||b.op==8 with
 |true=>exact li _ d10
 |false=>
 cases b.op==10 with
 |true=>exact li _ (fr2 b.sk b.lm r).1.1.1
 |false=>
 cases b.op==11 with
 |true=>exact fi6 Oe _
 |false=>exact d10
theorem w_wc{n:Int}(h:1≤n∧n≤11):∀x∈wOp n,wC x=true:=by
 rcases ops h with h|h|h|h|h|h|h|h|h|h|h<;>rw[h]<;>exact ga6.1 Oe
theorem w_inj{n m:Int}(hn:1≤n∧n≤11)(hm:1≤m∧m≤11)(h:wOp n=wOp m):n=m:=by
 have key:∀i j:Fin 12,wOp (i.val:Int)=wOp (j.val:Int)→1≤i.val→1≤j.val→i=j:=Oe
 obtain⟨i,rfl⟩:=gh3 (show 0≤n by omega);obtain⟨j,rfl⟩:=gh3 (show 0≤m by omega);have:=key ⟨i,by omega⟩ ⟨j,by omega⟩ h (by simp only;omega) (by simp only;omega);have:=congrArg Fin.val this;simp only at this;omega
theorem ln_uq{a b:PB}(ha:CB a)(hb:CB b){r q:List UInt8}(h:lnT a++10::r=lnT b++10::q):EqB a b∧r=q:=by
 rw[fr4 ha.o,fr4 hb.o]at h;have ho:=w_inj ha.o hb.o (w_uq (w_wc ha.o) (w_wc hb.o) (fr5 _ _) (fr5 _ _) h);rw[ho]at h;have h:=gc9 h;have d10:∀r:List UInt8,dlm (10::r):=fun r=>fi6 Oe _
 have s10:∀r:List UInt8,SX (10::r):=fun r=>fl4 Od _
 obtain⟨⟨o1,o2⟩,ajn,aja,aj0,ac,ac0,ae,ae0,an,an0,ai,ai0,ad,ad0,as1,as2⟩:=ha;obtain⟨-,bjn,bja,bj0,bc,bc0,be,be0,bn,bn0,bi,bi0,bd,bd0,bs1,bs2⟩:=hb;obtain⟨op,⟨vs,ats⟩,cl,e,nm,it,od,sk,lm⟩:=a;obtain⟨op',⟨vs',ats'⟩,cl',e',nm',it',od',sk',lm'⟩:=b;dsimp only at*;subst ho
 have cl2:op≠5→cl.opt=cl'.opt∧cl.ps=cl'.ps∧cl.wh=cl'.wh:=fun h5=>by
  obtain⟨c1,c2,c3⟩:=ac0 h5;obtain⟨d1,d2,d3⟩:=bc0 h5;exact⟨c1.trans d1.symm,c2.trans d2.symm,c3.trans d3.symm⟩
 have j2:op≠2→(⟨vs,ats⟩:CJ)=⟨vs',ats'⟩:=fun h=>(aj0 h).trans (bj0 h).symm
 have e2:op≠6→op≠11→e=e':=fun h h'=>(ae0 h h').trans (be0 h h').symm
 have n2:op≠11→nm=nm':=fun h=>(an0 h).trans (bn0 h).symm
 have i2:op≠7→op≠8→it=it':=fun h h'=>(ai0 h h').trans (bi0 h h').symm
 have d2:op≠10→od=od'∧sk=sk'∧lm=lm':=fun h=>⟨(ad0 h).1.trans (bd0 h).1.symm,(ad0 h).2.1.trans (bd0 h).2.1.symm,(ad0 h).2.2.trans (bd0 h).2.2.symm⟩
 by_cases q2:op=2
 ·subst q2;have h:32::40::(Lib.join (vs.map bl) [44,32]++41::(asJ ats++10::r))=32::40::(Lib.join (vs'.map bl) [44,32]++41::(asJ ats'++10::q)):=h;simp only[List.cons.injEq,true_and]at h;obtain⟨g1,g2⟩:=vs_uq ajn bjn h;obtain⟨g3,g4⟩:=fq0 ats ats' aja bja g2;obtain⟨d3,d4,d5⟩:=d2 Od;exact⟨⟨rfl,by rw[g1,g3],cl2 Od,e2 Od Od,n2 Od,i2 Od Od,d3,d4,d5⟩,g4⟩
 by_cases q5:op=5
 ·subst q5;have h:32::(clT cl++10::r)=32::(clT cl'++10::q):=h;simp only[List.cons.injEq,true_and]at h;obtain⟨g1,g2⟩:=cl_uq (ac rfl) (bc rfl) h;obtain⟨d3,d4,d5⟩:=d2 Od;exact⟨⟨rfl,j2 Od,g1,e2 Od Od,n2 Od,i2 Od Od,d3,d4,d5⟩,g2⟩
 by_cases q6:op=6
 ·subst q6;have h:32::(txE e++10::r)=32::(txE e'++10::q):=h;simp only[List.cons.injEq,true_and]at h;obtain⟨g1,g2⟩:=fl5 (ae (.inl rfl)) (be (.inl rfl)) (s10 _) (s10 _) h;obtain⟨d3,d4,d5⟩:=d2 Od;exact⟨⟨rfl,j2 Od,cl2 Od,g1,n2 Od,i2 Od Od,d3,d4,d5⟩,by simpa using g2⟩
 by_cases q78:op=7∨op=8
 ·have h:liT (it.map itT)++10::r=liT (it'.map itT)++10::q:=by
   rcases q78 with rfl|rfl
   ·exact h
   ·exact h
  obtain⟨g1,g2⟩:=li_uq ai bi h;obtain⟨d3,d4,d5⟩:=d2 Oa;exact⟨⟨rfl,j2 q2,cl2 q5,e2 q6 Oa,n2 Oa,g1,d3,d4,d5⟩,g2⟩
 by_cases q10:op=10
 ·subst q10;have h:liT (od.map odT)++bdU sk lm r=liT (od'.map odT)++bdU sk' lm' q:=h;obtain⟨g1,g2,g3,g4⟩:=sr_uq ad bd as1 as2 bs1 bs2 h;exact⟨⟨rfl,j2 Od,cl2 Od,e2 Od Od,n2 Od,i2 Od Od,g1,g2,g3⟩,g4⟩
 by_cases q11:op=11
 ·subst q11;have h:32::(txE e++ [32,65,83,32]++bl nm++10::r)=32::(txE e'++ [32,65,83,32]++bl nm'++10::q):=h;simp only[List.cons.injEq,true_and]at h;obtain⟨g1,g2,g3⟩:=fq1 (ae (.inr rfl)) (be (.inr rfl)) (an rfl) (bn rfl) (d10 _) (d10 _) h;obtain⟨d3,d4,d5⟩:=d2 Od;exact⟨⟨rfl,j2 Od,cl2 Od,g1,g2,i2 Od Od,d3,d4,d5⟩,by simpa using g3⟩
 ·have hr:∀(b:PB) (r:List UInt8),b.op=op→tOp b r=r:=fun b r hb=>by
   have f:∀j:Int,op≠j→(op==j)=false:=fun j hj=>by rw[beq_eq_false_iff_ne];exact hj
   unfold tOp;rw[hb,f 2 q2,f 5 q5,f 6 q6,f 7 Oa,f 8 Oa,f 10 q10,f 11 q11];rfl
  rw[hr _ _ rfl,hr _ _ rfl]at h;obtain⟨d3,d4,d5⟩:=d2 q10;exact⟨⟨rfl,j2 q2,cl2 q5,e2 q6 q11,n2 q11,i2 Oa Oa,d3,d4,d5⟩,by simpa using h⟩
def fr6(p:PA):Bool:=(p.ns.any fun n=>n.ps.any fun q=>fj6 q.e)||p.es.any fun e=>e.ps.any fun q=>fj6 q.e
def negB(b:PB):Bool:=fj6 b.e||((b.it.any fun x=>fj6 x.e)||((b.od.any fun x=>fj6 x.e)||(b.cl.ps.any fr6||b.cl.wh.any fj6)))
theorem fr7{s:ByteArray}(h:s0B s=true):s=⟨#[]⟩:=dc2 (by simpa[s0B,isS]using h)
theorem zx_of{e:Ex}(h:cw0 e=true):e=zeX:=by
 obtain⟨op,v,nm,ds,ks⟩:=e;unfold cw0 at h;simp only[fz4]at h;obtain⟨h1,h2,h3,h4,h5⟩:=h;have h1:op=0:=by simpa[Ex.op]using h1
 have h2:v=bq3:=fk0 h2;have h3:nm=⟨#[]⟩:=fr7 h3;have h4:ds=false:=by simpa[Ex.ds]using h4
 have h5:ks=[]:=gf1 (by simpa[Ex.ks]using h5);rw[h1,h2,h3,h4,h5];rfl
theorem fr8{s:ByteArray}(h:ca2 s=true):WC s∧bl s≠ []:=by
 unfold ca2 at h;simp only[fz4,decide_eq_true_eq]at h;obtain⟨h1,h2,h3,h4⟩:=h;have hsz:(bl s).length=s.size:=el9 s;refine⟨fun x hx=>?_,fun e=>by rw[e]at hsz;simp at hsz;omega⟩;obtain⟨i,hi⟩:=List.mem_iff_getElem?.1 hx;have hlt:i<s.size:=by rw[←hsz];exact(fy9.1 hi).1
 have:=ga6.1 h4 i (gd5.2 hlt)
 have hb:ag5 s i=(x.toNat:Int):=by
  unfold ag5;rw[gd6,show s.data.toList[i]? =some x from hi];rfl
 rw[hb]at this;exact this
theorem cn_of{s:ByteArray}(h:(cs4 s||dp6 s)=true):CN s:=by
 rw[gb0]at h;rcases h with h|h
 ·exact fl0 h
 ·unfold dp6 at h;have key:∀c:Fin 256,(decide ((48:UInt8)≤UInt8.ofFin c) &&decide (UInt8.ofFin c≤57))=true→wC (UInt8.ofFin c)=true:=by decide+kernel
  have dg:∀c:UInt8,(decide (48≤c) &&decide (c≤57))=true→wC c=true:=fun c hc=>by
   have:=key c.toFin;rw[fh6]at this;exact this hc
  unfold CN WC bl
  cases e:s.data.toList with
  |nil=>rw[e]at h;cases h
  |cons a t=>
   cases t with
   |nil=>rw[e]at h;cases h
   |cons b r=>
    rw[e]at h;have h:(a==95&&(b !=48&&(b::r).all fun c=>decide (48≤c) &&decide (c≤57)))=true:=h;rw[fz4,fz4]at h;refine⟨fun x hx=>?_,by simp⟩;rcases fz0.1 hx with rfl|hx
    ·rw[show x=95 by simpa using h.1];decide+kernel
    ·exact dg x (ga6.1 h.2.2 x hx)
theorem fr9{a:AT}(h1:dl6 a=true)(h2:dm4 a=true):CAT a:=by
 unfold dm4 at h2;rw[fz4]at h2;obtain⟨n1,n2⟩:=h2;rw[Bool.not_eq_true',gb9]at n2;have ht:∀s∈a.ty,WC s:=fun s hs=>(fr8 (by simpa using n2 s hs)).1
 unfold dl6 at h1
 cases c1:dk7 a.k==0||a.vs.length !=dk7 a.k with
 |true=>rw[c1]at h1;cases h1
 |false=>
 cases c2:a.vs.any fun v=>decide (v<0)with
 |true=>rw[c1,c2]at h1;cases h1
 |false=>
 cases c3:(a.k !=3&&decide (a.ty.length>0))||((a.k !=1&&a.k !=2) && !nmE a.nm)with
 |true=>rw[c1,c2,c3]at h1;cases h1
 |false=>
  rw[c1,c2,c3]at h1;have h1:(bif a.k==2 then bq9 a.v else dl3 a.ty&&dj5 a.v bq3==0)=true:=h1;rw[gb3]at c1 c3;have pos:∀v∈a.vs,0≤v:=fun v hv=>by have:=gb9.1 c2 v hv;simp at this;omega
  have nn:a.k≠2→a.v=bq3:=fun hk=>by
   have:(a.k==2)=false:=by rw[beq_eq_false_iff_ne];exact hk
   rw[this,cond_false,fz4,beq_iff_eq]at h1;have h2:=h1.2;unfold dj5 at h2
   cases d1:Val.okV a.v with
   |false=>rw[d1]at h2;exact absurd (show(1:Int)=0 from h2) Od
   |true=>
    cases d2:a.v.k==0 with
    |false=>rw[d1,d2]at h2;exact absurd (show(1:Int)=0 from h2) Od
    |true=>exact dj6 d1 (by simpa using d2)
  have ty0:a.k≠3→a.ty=[]:=fun hk=>by
   have:(a.k !=3)=true:=by simpa using hk
   rw[this]at c3;exact gf1 (by have:=c3.1;simp at this;simpa using this)
  have nm0:a.k≠1→a.k≠2→a.nm=⟨#[]⟩:=fun h h'=>by
   have e1:(a.k !=1)=true:=by simpa using h
   have e2:(a.k !=2)=true:=by simpa using h'
   rw[e1,e2]at c3;exact dc2 (by have:=c3.2;simpa[nmE]using this)
  have nm1:a.k=1∨a.k=2→WC a.nm:=fun hk=>(fr8 (by rcases hk with hk|hk<;>rw[hk]at n1<;>simpa using n1)).1
  have wc0:WC ⟨#[]⟩:=fun x hx=>by cases hx
  have hl:a.vs.length=dk7 a.k:=by simpa using c1.2
  have hk:a.k=1∨a.k=2∨a.k=3∨a.k=4:=by
   have:=c1.1;unfold dk7 at this
   by_cases k1:a.k=1;exact .inl k1
   by_cases k2:a.k=2;exact .inr (.inl k2)
   by_cases k3:a.k=3;exact .inr (.inr (.inl k3))
   by_cases k4:a.k=4;exact .inr (.inr (.inr k4))
   simp[k1,k2,k3,k4,gd9]at this
  obtain⟨k,vs,nm,ty,v⟩:=a;dsimp only at*
  have one:vs.length=1→∃x,0≤x∧vs=[x]:=fun h=>by
   obtain⟨x,rfl⟩:=List.length_eq_one_iff.1 h;exact⟨x,pos x Oc,rfl⟩
  rcases hk with rfl|rfl|rfl|rfl
  ·obtain⟨x,hx,rfl⟩:=one hl;obtain rfl:=ty0 Od;obtain rfl:=nn Od;exact⟨.inl ⟨rfl,x,hx,rfl⟩,nm1 (.inl rfl),ht⟩
  ·obtain⟨x,hx,rfl⟩:=one hl;obtain rfl:=ty0 Od;exact⟨.inr (.inl ⟨rfl,h1,x,hx,rfl⟩),nm1 (.inr rfl),ht⟩
  ·have hl:vs.length=3:=hl;obtain rfl:=nm0 Od Od;obtain rfl:=nn Od
   match vs,hl with
   |[x,y,z],_=>exact⟨.inr (.inr (.inl ⟨rfl,x,y,z,⟨pos x Oc,pos y Oc,pos z Oc⟩,rfl⟩)),wc0,ht⟩
  ·obtain⟨x,hx,rfl⟩:=one hl;obtain rfl:=ty0 Od;obtain rfl:=nn Od;obtain rfl:=nm0 Od Od;exact⟨.inr (.inr (.inr ⟨rfl,x,hx,rfl⟩)),wc0,ht⟩
theorem fs0{c:CJ}(h:(dq2 c).2=0):(∀s∈c.vs,CN s)∧∀a∈c.as,CAT a:=by
 unfold dq2 at h
 cases c1:dn8 c !=0 with
 |true=>rw[c1,cond_true]at h;rw[show dn8 c=0 from h]at c1;cases c1
 |false=>
 cases c2:c.vs.all fun s=>cs4 s||dp6 s with
 |false=>rw[c1,c2]at h;exact absurd (show(6:Int)=0 from h) Od
 |true=>
 have h0:dn8 c=0:=by simpa using c1
 unfold dn8 at h0
 cases d1:decide (c.vs.length>24)||decide (c.as.length>12)with
 |true=>rw[d1]at h0;exact absurd (show(4:Int)=0 from h0) Od
 |false=>
 cases d2:c.as.any (dn6 c.vs.length)with
 |true=>rw[d1,d2]at h0;exact absurd (show(1:Int)=0 from h0) Od
 |false=>
 cases d3:twF c.vs with
 |true=>rw[d1,d2,d3]at h0;exact absurd (show(7:Int)=0 from h0) Od
 |false=>
 cases d4:c.as.any (fun a=> !dm4 a)with
 |true=>rw[d1,d2,d3,d4]at h0;exact absurd (show(6:Int)=0 from h0) Od
 |false=>
  refine⟨fun s hs=>cn_of (ga6.1 c2 s hs),fun a ha=>?_⟩;have e1:=gb9.1 d2 a ha;have e2:=gb9.1 d4 a ha;unfold dn6 at e1;simp only[gb0,not_or,ge5,Bool.not_eq_false']at e1;exact fr9 e1.1 (by simpa using e2)
theorem fs1{p:PA}{cr:Bool}(h:cv9 p cr=0)(hn:fr6 p=false):CPA p:=by
 obtain⟨-,h2,h3,h4,h5,h6⟩:=er7 h;unfold fr6 at hn;rw[gb3,gb9,gb9]at hn
 have bad:∀x∈cv3 p.ns p.es,cv4 x.nm=true∧(∀s∈x.ns,cs4 s=true)∧∀q∈x.ps,cs4 q.key=true:=fun x hx=>by
  have:=h5 x hx;unfold cv5 at this;simp only[gb3,Bool.not_eq_false']at this;exact⟨this.1,fun s hs=>ga6.1 this.2.1 s hs,fun q hq=>ga6.1 this.2.2 q.key (ga1.2 ⟨q,hq,rfl⟩)⟩
 have pp:∀x∈cv3 p.ns p.es,(∀q∈x.ps,fj6 q.e=false)→∀q∈x.ps,CPP q:=fun x hx hg q hq=>⟨(bad x hx).2.2 q hq,fk7 q.e (h6 x hx q hq) (hg q hq)⟩
 refine⟨h4,h2,fun n hm=>?_,fun e he=>?_⟩
 ·have hx:=er4 p.ns p.es n hm;obtain⟨b1,b2,-⟩:=bad _ hx;have hg:=hn.1 n hm;exact⟨b1,b2,pp _ hx fun q hq=>by have:=hg;simp only[ge5,gb9]at this;simpa using this q hq⟩
 ·have hx:=er5 p.ns p.es Oa e he;obtain⟨b1,b2,-⟩:=bad _ hx;have hg:=hn.2 e he;have hh:=h3 e he;unfold cv0 at hh
  cases k1:((decide (e.dir<1)||decide (e.dir>3))||(decide (e.mode<0)||decide (e.mode>5)))with
  |true=>rw[k1]at hh;simp at hh
  |false=>
   rw[k1,cond_false]at hh;simp only[gb3,decide_eq_false_iff_not]at k1;refine⟨b1,b2,by omega,?_,pp _ hx fun q hq=>by have:=hg;simp only[ge5,gb9]at this;simpa using this q hq⟩
   cases k2:e.mode==0 with
   |true=>rw[k2,cond_true]at hh;simp at hh k2;exact .inl ⟨k2,hh.1,hh.2⟩
   |false=>
    rw[k2,cond_false]at hh;simp only[fz4,decide_eq_true_eq,beq_iff_eq]at hh;have k2:e.mode≠0:=by simpa using k2
    exact .inr ⟨by omega,by omega,by omega,gf1 Oa⟩
theorem fs2{c:CL}(h:cw7 c=0)(hk:c.k=1)(hn:(c.ps.any fr6||c.wh.any fj6)=false):CCL c:=by
 rw[gb3,gb9,gb9]at hn;unfold cw7 at h
 cases c1:((decide (c.k<1)||decide (c.k>8))||cw2 c)with
 |true=>rw[c1]at h;simp at h
 |false=>
  rw[c1,cond_false]at h
  cases c2:cw3 c with
  |true=>rw[c2]at h;simp at h
  |false=>
   rw[c2,cond_false]at h;have hz:=er8 h;unfold cw3 inN at c2;rw[hk]at c2;have c2:((!(decide (1≤c.ps.length) &&decide (c.ps.length≤6)))||decide (c.wh.length>1))=false:=c2;simp at c2;refine⟨hk,fun e=>by rw[e]at c2;simp at c2,fun p hp=>fs1 (hz (cv9 p (c.k==5)) (by simp only[gb2];refine .inl (.inl (.inl (.inl (.inl (.inl ?_)))));exact ga1.2 ⟨p,hp,rfl⟩)) (by simpa using hn.1 p hp),by omega,fun e he=>fk7 e (hz (ct5 e) (by simp only[gb2];refine .inl (.inl (.inl (.inl (.inl (.inr ?_)))));exact ga1.2 ⟨e,he,rfl⟩)) (by simpa using hn.2 e he)⟩
theorem cb_of{b:PB}{cols:List (List ByteArray)}(h0:(dr0 b cols).2=0)(hn:negB b=false):CB b∧dp2 b.op=cols.length:=by
 unfold negB at hn;simp only[gb3,gb9]at hn;obtain⟨n1,n2,n3,n4⟩:=hn;unfold dr0 at h0
 cases c0:dp5 b cols.length with
 |false=>rw[c0]at h0;exact absurd (show(25:Int)=0 from h0) Od
 |true=>
 rw[c0,gg0,cond_false]at h0;have hk:=ds1 c0;refine⟨?_,hk⟩;have hop:1≤b.op∧b.op≤11:=by rcases ed0 hk with h|h|h|h|h|h|h|h|h|h|h<;>(have:=h.1;omega)
 unfold dp5 fldF at c0;simp only[fz4,gb0,beq_iff_eq]at c0;obtain⟨-,⟨f1,f2,f3,f4,f5⟩,f6⟩:=c0
 have cj0:b.op≠2→b.cj=⟨[],[]⟩:=fun h=>by
  have f:=f1.resolve_left h;show(⟨b.cj.vs,b.cj.as⟩:CJ)=_;rw[gf1 f.1,gf1 f.2]
 have cl5:b.op=5→b.cl.k=1:=fun h=>by rw[h]at f2;simpa using f2
 have cl0:b.op≠5→b.cl.opt=false∧b.cl.ps=[]∧b.cl.wh=[]:=fun h=>by
  have:(b.op==5)=false:=by rw[beq_eq_false_iff_ne];exact h
  rw[this,cond_false]at f2;unfold dp3 at f2;simp only[fz4,Bool.not_eq_true',beq_iff_eq]at f2;exact⟨f2.2.1,gf1 f2.2.2.2.1,gf1 f2.2.2.2.2.1⟩
 have e0:b.op≠6→b.op≠11→b.e=zeX:=fun h h'=>zx_of ((f3.resolve_left h).resolve_left h')
 have nm0:b.op≠11→b.nm=⟨#[]⟩:=fun h=>fr7 (f4.resolve_left h)
 have it0:b.op≠7→b.op≠8→b.it=[]:=fun h h'=>gf1 ((f5.resolve_left h).resolve_left h')
 have en:b.op≠10→b.od=[]∧b.sk=0∧b.lm=0:=fun h=>by
  have:(b.op==10)=false:=by rw[beq_eq_false_iff_ne];exact h
  unfold dp4 at f6;rw[this,cond_false]at f6;simp only[fz4,beq_iff_eq]at f6;exact⟨gf1 f6.1,f6.2.1,f6.2.2⟩
 have sl: -1≤b.sk∧ -1≤b.lm:=by
  by_cases h:b.op=10
  ·unfold dp4 at f6;rw[h]at f6;simp at f6;omega
  ·obtain⟨-,h1,h2⟩:=en h;omega
 refine⟨hop,fun s hs=>?_,fun a ha=>?_,cj0,fun h=>?_,cl0,fun h=>?_,e0,fun h=>?_,nm0,fun x hx=>?_,it0,fun x hx=>?_,en,sl⟩
 ·by_cases h:b.op=2
  ·rw[h]at h0;exact(fs0 h0).1 s hs
  ·rw[cj0 h]at hs;cases hs
 ·by_cases h:b.op=2
  ·rw[h]at h0;exact(fs0 h0).2 a ha
  ·rw[cj0 h]at ha;cases ha
 ·rw[h]at h0;have h0:(dq4 b.cl (cols.getD 0 [])).2=0:=h0;unfold dq4 at h0
  cases c1:cw7 b.cl !=0 with
  |true=>rw[c1,cond_true]at h0;rw[show cw7 b.cl=0 from h0]at c1;cases c1
  |false=>exact fs2 (by simpa using c1) (cl5 h) (by rw[gb3,gb9,gb9];exact n4)
 ·rcases h with h|h
  ·rw[h]at h0;have h0:(dq9 (di8 b.e (cols.getD 0 [])) (cols.getD 0 [])).2=0:=h0;exact fk7 _ (ds3 (ds4 h0).1).1 n1
  ·rw[h]at h0;have h0:(dq9 (dq8 b (cols.getD 0 [])) (cols.getD 0 []++ [b.nm])).2=0:=h0;exact fk7 _ (ep8 (ds4 h0).1).1 n1
 ·rw[h]at h0;have h0:(dq9 (dq8 b (cols.getD 0 [])) (cols.getD 0 []++ [b.nm])).2=0:=h0;exact(fl0 (ep8 (ds4 h0).1).2).1
 ·have key:∀g:Bool,(bif decide (b.it.length>24)then erR 4 else dq6 g (cols.getD 0 []) b.it []).2=0→CIT x:=by
   intro g h0
   cases l:decide (b.it.length>24)with
   |true=>rw[l]at h0;exact absurd (show(4:Int)=0 from h0) Od
   |false=>
    rw[l,cond_false]at h0;have:=ep6 _ _ _ _ h0 x hx;exact⟨fk7 _ this.1 (by simpa using n2 x hx),(fl0 this.2).1⟩
  by_cases h7:b.op=7
  ·rw[h7]at h0;exact key _ h0
  ·by_cases h8:b.op=8
   ·rw[h8]at h0;exact key _ h0
   ·rw[it0 h7 h8]at hx;cases hx
 ·by_cases h:b.op=10
  ·rw[h]at h0;have h0:(dq9 (dq7 (cols.getD 0 []) b.od) (cols.getD 0 [])).2=0:=h0;exact fk7 _ (ep7 _ _ (ds4 h0).1 x hx) (by simpa using n3 x hx)
  ·rw[(en h).1]at hx;cases hx
mutual
def CPl:Pl→Prop
 |.mk b ks=>(CB b∧dp2 b.op=ks.length)∧fs3 ks
def fs3:List Pl→Prop
 |[]=>True
 |p::r=>CPl p∧fs3 r
end
mutual
def fs4:Pl→Bool
 |.mk b ks=>negB b||fs5 ks
def fs5:List Pl→Bool
 |[]=>false
 |p::r=>fs4 p||fs5 r
end
mutual
def EqP:Pl→Pl→Prop
 |.mk a ks,.mk b ls=>EqB a b∧fs6 ks ls
def fs6:List Pl→List Pl→Prop
 |[],[]=>True
 |p::r,q::s=>EqP p q∧fs6 r s
 |_,_=>False
end
theorem fs7:∀{l:List Pl},fs5 l=false→∀x∈l,fs4 x=false
 |[],_,x,h=>by cases h
 |a::r,h,x,hx=>by
  rw[fs5,gb3]at h;rcases fz0.1 hx with rfl|hx
  ·exact h.1
  ·exact fs7 h.2 x hx
theorem fs8:∀{l:List Pl},(∀x∈l,CPl x)→fs3 l
 |[],_=>trivial
 |a::r,h=>⟨h a Oc,fs8 fun x hx=>h x (gc2 _ hx)⟩
theorem fs9:∀{l:List Pl},fs3 l→∀x∈l,CPl x
 |[],_,x,h=>by cases h
 |a::r,h,x,hx=>by
  rcases fz0.1 hx with rfl|hx
  ·exact h.1
  ·exact fs9 h.2 x hx
theorem ft0(p:Pl):(dr1 p).2=0→fs4 p=false→CPl p:=by
 refine do6 (P:=fun p=>(dr1 p).2=0→fs4 p=false→CPl p) (fun b ks ih h hn=>?_) p;obtain⟨h1,h2,-⟩:=ds0 h;rw[h2]at h;rw[fs4,gb3]at hn;obtain⟨g1,g2⟩:=cb_of h hn.1;rw[fz3]at g2;exact⟨⟨g1,g2⟩,fs8 fun x hx=>ih x hx (h1 x hx) (fs7 hn.2 x hx)⟩
theorem pl_uq(p:Pl):∀(q:Pl) (d:Nat) (r s:List UInt8),CPl p→CPl q→plT d p++r=plT d q++s→EqP p q∧r=s:=by
 refine do6 (P:=fun p=>∀(q:Pl) (d:Nat) (r s:List UInt8),CPl p→CPl q→plT d p++r=plT d q++s→EqP p q∧r=s) (fun a ks ih q d r s hp hq h=>?_) p;obtain⟨b,ls⟩:=q;rw[plT,plT,fz5,fz5,fz5,fz5,fz5,fz5]at h;have h:=gc9 h;obtain⟨e1,h2⟩:=ln_uq hp.1.1 hq.1.1 h
 have hl:ks.length=ls.length:=by
  have h1:=hp.1.2;have h2:=hq.1.2;rw[e1.o]at h1;omega
 have key:∀(K L:List Pl),(∀x∈K,x∈ks)→K.length=L.length→fs3 K→fs3 L→∀r s,ep5 d K++r=ep5 d L++s→fs6 K L∧r=s:=by
  intro K
  induction K with
  |nil=>
   intro L _ hl _ _ r s h
   match L,hl with
   |[],_=>exact⟨trivial,h⟩
  |cons x K ihK=>
   intro L hK hl hc hd r s h
   match L,hl with
   |y::L,hl=>
    rw[ep5,ep5,fz5,fz5]at h;obtain⟨g1,g2⟩:=ih x (hK x Oc) y (d+1) _ _ hc.1 hd.1 h;obtain⟨g3,g4⟩:=ihK L (fun z hz=>hK z (gc2 _ hz)) (by simpa using hl) hc.2 hd.2 r s g2;exact⟨⟨g1,g3⟩,g4⟩
 obtain⟨g1,g2⟩:=key ks ls (fun _ h=>h) hl hp.2 hq.2 r s h2;exact⟨⟨e1,g1⟩,g2⟩
end Go.Proofs.YtndgolmgaenlfaaGreatDoor
