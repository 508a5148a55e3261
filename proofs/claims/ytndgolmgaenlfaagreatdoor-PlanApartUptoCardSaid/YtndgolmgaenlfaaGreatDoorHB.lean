/- Path patterns and MATCH clauses with the same text are the same; Nodes, edges, paths and MATCH clauses with the same text are the same; Edges, paths a. Conditions: each part's own, as it says. -/
import Derived.Test.YtndgolmgaenlfaaGreatDoorGC
import Derived.Test.YtndgolmgaenlfaaGreatDoorHA
import Derived.Test.YtndgolmgaenlfaaGreatDoorDA
set_option linter.unusedVariables false
set_option linter.unusedSimpArgs false
namespace Go.Proofs.YtndgolmgaenlfaaGreatDoor
set_option maxRecDepth 4000
open Go Go.Abs Go.Val Go.RowKit
theorem fk8:∀c:Fin 256,fg0 (UInt8.ofFin c)=true→wC (UInt8.ofFin c)=true:=Oe
theorem let_w(c:UInt8):fg0 c=true→wC c=true:=by
 have:=fk8 c.toFin;rw[fh6]at this;exact this
theorem fk9{s t:ByteArray}(h:bl s=bl t):s=t:=by rw[←em0 s,h,em0]
theorem fl0{s:ByteArray}(h:cs4 s=true):(∀x∈bl s,wC x=true)∧bl s≠ []:=by
 obtain⟨c,t,e,hc,ht,-⟩:=fi2 h;rw[e];exact⟨fun x hx=>(fz0.1 hx).elim (fun e=>e ▸ let_w c hc) (ht x),by simp⟩
theorem fl1{s:ByteArray}(h:cv4 s=true):∀x∈bl s,wC x=true:=by
 unfold cv4 at h;rw[gb0,em2]at h;rcases h with h|h
 ·rw[List.isEmpty_iff.1 h];intro x hx;cases hx
 ·exact(fl0 h).1
theorem w_tk{a r:List UInt8}(ha:∀x∈a,wC x=true)(hr:dlm r):(a++r).takeWhile wC=a:=(fh4 ha fun c q e=>(hr c q e).1).1
theorem w_uq{a b r q:List UInt8}(ha:∀x∈a,wC x=true)(hb:∀x∈b,wC x=true)(hr:dlm r)(hq:dlm q)(h:a++r=b++q):a=b:=by
 have:=congrArg (List.takeWhile wC) h;rwa[w_tk ha hr,w_tk hb hq]at this
theorem fl2{s t:ByteArray}{r q:List UInt8}(hs:cs4 s=true)(ht:cs4 t=true)(hr:dlm r)(hq:dlm q)(h:bl s++r=bl t++q):s=t∧r=q:=by
 obtain rfl:=fk9 (w_uq (fl0 hs).1 (fl0 ht).1 hr hq h);exact⟨rfl,gc9 h⟩
theorem fl3{s t:ByteArray}{r q:List UInt8}(hs:cv4 s=true)(ht:cv4 t=true)(hr:dlm r)(hq:dlm q)(h:bl s++r=bl t++q):s=t∧r=q:=by
 obtain rfl:=fk9 (w_uq (fl1 hs) (fl1 ht) hr hq h);exact⟨rfl,gc9 h⟩
def SX(r:List UInt8):Prop:=dlm r∧stE (lex r)
def CE(e:Ex):Prop:=CX e∧alE nmX e
theorem fl4{c:UInt8}(h:(c==44||(c==125||(c==10||(c==41||c==93))))=true)(r:List UInt8):SX (c::r):=by
 simp only[gb0,beq_iff_eq]at h;rcases h with rfl|rfl|rfl|rfl|rfl<;>exact⟨fi6 Oe r,by rw[fi7 Oe];exact⟨⟨rfl,rfl,rfl⟩,rfl,fun t q h=>by cases h;rfl⟩⟩
theorem sx_w{c:UInt8}{t:List UInt8}(h:(fg0 c&&(t.all wC&&cr0 (bs (c::t))))=true)(h2:(TK.eq (.wd (c::t)) fd7|| !(fe5 (.wd (c::t))==0))=false){r:List UInt8}(hr:dlm r):SX (32::(c::t++r)):=by
 rw[gb3,Bool.not_eq_false',beq_iff_eq]at h2;refine⟨fi6 Oe _,?_⟩;rw[fh3,fi4 h hr];exact⟨⟨rfl,rfl,rfl⟩,h2.1,fun t q h=>by cases h;exact h2.2⟩
theorem fl5{a b:Ex}(ha:CE a)(hb:CE b){r q:List UInt8}(hr:SX r)(hq:SX q)(h:txE a++r=txE b++q):a=b∧r=q:=by
 obtain⟨rfl,-⟩:=fj5 ha.1 hb.1 ha.2 hb.2 hr.1 hq.1 hr.2 hq.2 h;exact⟨rfl,gc9 h⟩
theorem fl6(a b:List UInt8)(l:List (List UInt8))(r:List UInt8):Lib.join (a::b::l) [44,32]++r=a++(44::32::(Lib.join (b::l) [44,32]++r)):=by
 rw[Lib.join_cons,Lib.join_cons];show(a++(([44,32]++b)++Lib.joinTail [44,32] l))++r=_;simp
def UQ{α:Type}(C:α→Prop)(S:List UInt8→Prop)(T:α→List UInt8):Prop:=∀a b r q,C a→C b→S r→S q→T a++r=T b++q→a=b
def n44(r:List UInt8):Prop:=∀t,r≠44::t
theorem fl7{α:Type}{C:α→Prop}{S:List UInt8→Prop}{T:α→List UInt8}(hS:∀r,S (44::32::r))(hu:UQ C S T):∀(l m:List α),l≠ []→m≠ []→(∀x∈l,C x)→(∀x∈m,C x)→∀r q,S r→S q→n44 r→n44 q→Lib.join (l.map T) [44,32]++r=Lib.join (m.map T) [44,32]++q→l=m
 |[],_,h,_,_,_,_,_,_,_,_,_,_=>absurd rfl h
 |_,[],_,h,_,_,_,_,_,_,_,_,_=>absurd rfl h
 |[a],[b],_,_,hl,hm,r,q,sr,sq,_,_,h=>by
  rw[fz7,gd8,fz7,gd8,Lib.join_one,Lib.join_one]at h;rw[hu a b r q (hl a Oc) (hm b Oc) sr sq h]
 |[a],b::c::m,_,_,hl,hm,r,q,sr,sq,nr,_,h=>by
  rw[fz7,gd8,Lib.join_one,fz7,fz7,fl6]at h;obtain rfl:=hu a b _ _ (hl a Oc) (hm b Oc) sr (hS _) h;exact absurd (gc9 h) (nr _)
 |a::c::l,[b],_,_,hl,hm,r,q,sr,sq,_,nq,h=>by
  rw[fz7,fz7,fl6,fz7,gd8,Lib.join_one]at h;obtain rfl:=hu a b _ _ (hl a Oc) (hm b Oc) (hS _) sq h;exact absurd (gc9 h).symm (nq _)
 |a::c::l,b::d::m,_,_,hl,hm,r,q,sr,sq,nr,nq,h=>by
  rw[fz7,fz7,fl6,fz7,fz7,fl6]at h;obtain rfl:=hu a b _ _ (hl a Oc) (hm b Oc) (hS _) (hS _) h;have h:=gc9 h;simp only[List.cons.injEq,true_and]at h;have:=fl7 hS hu (c::l) (d::m) Oc Oc (fun x hx=>hl x (gc2 _ hx)) (fun x hx=>hm x (gc2 _ hx)) r q sr sq nr nq (by simpa using h);rw[this]
def CPP(p:PP):Prop:=cs4 p.key=true∧CE p.e
theorem pp_uq:UQ CPP SX ppT:=fun a b r q ha hb hr hq h=>by
 obtain⟨k,e⟩:=a;obtain⟨k',e'⟩:=b;have h1:bl k++(58::32::(txE e++r))=bl k'++(58::32::(txE e'++q)):=by simpa[ppT]using h
 clear h;obtain⟨e1,h2⟩:=fl2 ha.1 hb.1 (fi6 Oe _) (fi6 Oe _) h1;have e1:k=k':=e1;simp only[List.cons.injEq,true_and]at h2;have e2:e=e':=(fl5 ha.2 hb.2 hr hq h2).1;rw[e1,e2]
theorem fl8{c:UInt8}(h:(c==44)=false)(r:List UInt8):n44 (c::r):=fun t e=>by cases e;cases h
theorem pr_uq{l m:List PP}(hl:∀x∈l,CPP x)(hm:∀x∈m,CPP x){r q:List UInt8}(hr:∀t,r≠123::t)(hq:∀t,q≠123::t)(h:prT l++r=prT m++q):l=m∧r=q:=by
 have key:l=m:=by
  match l,m with
  |[],[]=>rfl
  |[],b::m=>exact absurd h (by show []++r≠prJ (b::m)++q;unfold prJ;simpa using hr _)
  |a::l,[]=>exact absurd h.symm (by show []++q≠prJ (a::l)++r;unfold prJ;simpa using hq _)
  |a::l,b::m=>
   have h:prJ (a::l)++r=prJ (b::m)++q:=h;unfold prJ at h;simp only[gb4,gb7,fz5,List.cons.injEq,true_and]at h;exact fl7 (fun r=>fl4 Od _) pp_uq (a::l) (b::m) Oc Oc hl hm _ _ (fl4 Od _) (fl4 Od _) (fl8 Od _) (fl8 Od _) h
 subst key;exact⟨rfl,gc9 h⟩
def spB(a b:List UInt8):List UInt8:=bif a.isEmpty||b.isEmpty then b else 32::b
theorem fl9(a b:List UInt8):spT a b=a++spB a b:=by
 unfold spT spB
 cases a.isEmpty||b.isEmpty with
 |true=>rfl
 |false=>simp
theorem fm0(a:List UInt8):spB a []=[]:=by unfold spB;simp
theorem fm1(b:List UInt8):spB [] b=b:=rfl
theorem fm2{a:List UInt8}(h:a≠ [])(c:UInt8)(b:List UInt8):spB a (c::b)=32::c::b:=by
 unfold spB;have:a.isEmpty=false:=by simpa using h
 rw[this];rfl
theorem fm3(b:PP)(m:List PP):∃u,prT (b::m)=123::u:=⟨_,rfl⟩
def fm4(c:UInt8)(r:List UInt8):Prop:=∀t,r≠c::t
theorem fm5{c d:UInt8}(h:(d==c)=false)(r:List UInt8):fm4 c (d::r):=fun t e=>by cases e;simp at h
theorem fm6(a:List UInt8)(l:List PP)(c:UInt8)(r:List UInt8):∃d u,spB a (prT l)++c::r=d::u∧(d=c∨d=123∨d=32):=by
 match l with
 |[]=>exact⟨c,r,by rw[show prT []=[]from rfl,fm0];rfl,.inl rfl⟩
 |b::m=>
  obtain⟨u,e⟩:=fm3 b m;rw[e]
  cases a with
  |nil=>exact⟨123,u++c::r,by rw[fm1];rfl,.inr (.inl rfl)⟩
  |cons x y=>exact⟨32,123::u++c::r,by rw[fm2 Oc];rfl,.inr (.inr rfl)⟩
theorem fm7{a:List UInt8}{l m:List PP}(hl:∀x∈l,CPP x)(hm:∀x∈m,CPP x){c:UInt8}(hc:(c==123||c==32)=false){r q:List UInt8}(h:spB a (prT l)++c::r=spB a (prT m)++c::q):l=m∧r=q:=by
 rw[gb3]at hc;have n1:∀r,fm4 123 (c::r):=fm5 hc.1;have n2:∀r,fm4 32 (c::r):=fm5 hc.2
 have fin:prT l++c::r=prT m++c::q→l=m∧r=q:=fun h=>by
  obtain⟨e,h⟩:=pr_uq hl hm (n1 r) (n1 q) h;exact⟨e,by simpa using h⟩
 cases a with
 |nil=>exact fin h
 |cons x y=>
  match l,m,fin with
  |[],[],fin=>exact fin h
  |[],b::m,_=>
   obtain⟨u,e⟩:=fm3 b m;rw[e,fm2 Oc,show prT []=[]from rfl,fm0]at h;exact absurd h (n2 r _)
  |b::l,[],_=>
   obtain⟨u,e⟩:=fm3 b l;rw[e,fm2 Oc,show prT []=[]from rfl,fm0]at h;exact absurd h.symm (n2 q _)
  |b::l,d::m,fin=>
   obtain⟨u,e⟩:=fm3 b l;obtain⟨v,f⟩:=fm3 d m;rw[e,f]at fin;rw[e,f,fm2 Oc,fm2 Oc]at h;exact fin (by simpa using h)
structure CNP(n:NP):Prop where
 v:cv4 n.vr=true
 l:∀s∈n.lb,cs4 s=true
 p:∀x∈n.ps,CPP x
theorem fm8:∀(l m:List ByteArray),(∀s∈l,cs4 s=true)→(∀s∈m,cs4 s=true)→∀{r q:List UInt8},dlm r→dlm q→fm4 58 r→fm4 58 q→(lbL l).flatten++r=(lbL m).flatten++q→l=m∧r=q
 |[],[],_,_,r,q,_,_,_,_,h=>⟨rfl,h⟩
 |[],b::m,_,_,r,q,_,_,nr,_,h=>absurd (show r=58::(bl b++(lbL m).flatten++q) by simpa[lbL]using h) (nr _)
 |a::l,[],_,_,r,q,_,_,_,nq,h=>absurd (show q=58::(bl a++(lbL l).flatten++r) by simpa[lbL]using h.symm) (nq _)
 |a::l,b::m,hl,hm,r,q,dr,dq,nr,nq,h=>by
  have dl:∀(l:List ByteArray) {r:List UInt8},dlm r→dlm ((lbL l).flatten++r):=fun l r dr=>by
   cases l with
   |nil=>exact dr
   |cons a l=>exact fi6 (c:=58) Oe _
  have h1:bl a++((lbL l).flatten++r)=bl b++((lbL m).flatten++q):=by simpa[lbL]using h
  obtain⟨e,h2⟩:=fl2 (hl a Oc) (hm b Oc) (dl l dr) (dl m dq) h1;obtain⟨e3,h3⟩:=fm8 l m (fun s hs=>hl s (gc2 _ hs)) (fun s hs=>hm s (gc2 _ hs)) dr dq nr nq h2;exact⟨by rw[e,e3],h3⟩
theorem fm9(a:List UInt8)(l:List PP){c:UInt8}(hc:c=41∨c=93)(r:List UInt8):dlm (spB a (prT l)++c::r)∧fm4 58 (spB a (prT l)++c::r):=by
 obtain⟨d,u,e,h⟩:=fm6 a l c r;rw[e];rcases hc with rfl|rfl<;>rcases h with rfl|rfl|rfl<;>exact⟨fi6 Oe u,fm5 Od u⟩
theorem fn0{a b:NP}(ha:CNP a)(hb:CNP b){r q:List UInt8}(h:ndT a++r=ndT b++q):a=b∧r=q:=by
 obtain⟨v,lb,ps⟩:=a;obtain⟨v',lb',ps'⟩:=b
 have dl:∀(l:List ByteArray) {r:List UInt8},dlm r→dlm ((lbL l).flatten++r):=fun l r dr=>by
  cases l with
  |nil=>exact dr
  |cons a l=>exact fi6 (c:=58) Oe _
 have h1:bl v++((lbL lb).flatten++(spB (nsT ⟨v,lb,ps⟩) (prT ps)++41::r))=bl v'++((lbL lb').flatten++(spB (nsT ⟨v',lb',ps'⟩) (prT ps')++41::q)):=by
  simpa[ndT,fl9,nsT]using h
 have s1:=fm9 (nsT ⟨v,lb,ps⟩) ps (.inl rfl) r;have s2:=fm9 (nsT ⟨v',lb',ps'⟩) ps' (.inl rfl) q;obtain⟨e1,h2⟩:=fl3 ha.v hb.v (dl lb s1.1) (dl lb' s2.1) h1;obtain⟨e2,h3⟩:=fm8 lb lb' ha.l hb.l s1.1 s2.1 s1.2 s2.2 h2;have e1:v=v':=e1;subst e1 e2;obtain⟨e3,h4⟩:=fm7 (a:=nsT ⟨v,lb,[]⟩) ha.p hb.p (c:=41) Od h3;have e3:ps=ps':=e3;exact⟨by rw[e3],h4⟩
structure CEP(e:EP):Prop where
 v:cv4 e.vr=true
 t:∀s∈e.ty,cs4 s=true
 d:1≤e.dir∧e.dir≤3
 m:(e.mode=0∧e.mn=0∧e.mx=0)∨((1≤e.mode∧e.mode≤5)∧0≤e.mn∧0≤e.mx∧e.ps=[])
 p:∀x∈e.ps,CPP x
theorem fn1{n m:Int}(hn:0≤n)(hm:0≤m){r q:List UInt8}(hr:dlm r)(hq:dlm q)(h:Lib.itoa n++r=Lib.itoa m++q):n=m∧r=q:=by
 have e:=congrArg lex h;rw[fi5 hn hr,fi5 hm hq]at e;simp only[List.cons.injEq,TK.num.injEq]at e;obtain rfl:=e.1;exact⟨rfl,gc9 h⟩
theorem mw_uq{m n:Int}(hm:1≤m∧m≤5)(hn:1≤n∧n≤5){r q:List UInt8}(h:mwT m++42::r=mwT n++42::q):m=n:=by
 have k1:m=1∨m=2∨m=3∨m=4∨m=5:=Oa
 have k2:n=1∨n=2∨n=3∨n=4∨n=5:=Oa
 rcases k1 with rfl|rfl|rfl|rfl|rfl<;>rcases k2 with rfl|rfl|rfl|rfl|rfl<;>first|rfl|(exfalso;simp[mwT]at h)
def moB(m mn mx:Int):List UInt8:=mwT m++([42]++Lib.itoa mn++ [46,46]++Lib.itoa mx)
theorem mo_uq{m n a b c d:Int}(hm:1≤m∧m≤5)(hn:1≤n∧n≤5)(h0:0≤a)(h1:0≤b)(h2:0≤c)(h3:0≤d){r q:List UInt8}(h:moB m a b++93::r=moB n c d++93::q):m=n∧a=c∧b=d∧r=q:=by
 have h4:mwT m++42::(Lib.itoa a++46::46::(Lib.itoa b++93::r))=mwT n++42::(Lib.itoa c++46::46::(Lib.itoa d++93::q)):=by simpa[moB]using h
 clear h;obtain rfl:=mw_uq hm hn h4;have h5:=gc9 h4;simp only[List.cons.injEq,true_and]at h5;obtain⟨e1,h6⟩:=fn1 h0 h2 (fi6 Oe _) (fi6 Oe _) h5;simp only[List.cons.injEq,true_and]at h6;obtain⟨e2,h7⟩:=fn1 h1 h3 (fi6 Oe _) (fi6 Oe _) h6;simp only[List.cons.injEq,true_and]at h7;exact⟨rfl,e1,e2,h7⟩
def mwL:List (List UInt8):=[[],[84,82,65,73,76],[83,73,77,80,76,69],[83,72,79,82,84,69,83,84],[65,78,89]]
theorem fn2{s:ByteArray}(h:bl s∈mwL)(hw:cs4 s=true):False:=by
 rw[show s=bs (bl s)from(em0 s).symm]at hw;unfold mwL at h;simp only[fz0,gf8,or_false]at h;rcases h with h|h|h|h|h<;>rw[h]at hw<;>exact absurd hw Oe
theorem fn3{m:Int}(hm:1≤m∧m≤5)(a b:Int)(r:List UInt8):(moB m a b++r).takeWhile wC∈mwL∧∃c u,moB m a b++r=c::u∧c≠123∧c≠93∧c≠58∧c≠32:=by
 have k1:m=1∨m=2∨m=3∨m=4∨m=5:=Oa
 have tk:∀(w:List UInt8) {c:UInt8} {u:List UInt8},w.all wC=true→wC c=false→(w++c::u).takeWhile wC=w:=fun w c u h1 h2=>
  (fh4 (ga6.1 h1) fun d q e=>by cases e;exact h2).1
 rcases k1 with rfl|rfl|rfl|rfl|rfl
 ·exact⟨by rw[show(moB 1 a b++r).takeWhile wC=[]from tk [] Oe (c:=42) Oe];decide,42,_,rfl,by decide,by decide,by decide,by decide⟩
 ·exact⟨by rw[show(moB 2 a b++r).takeWhile wC=[84,82,65,73,76]from tk [84,82,65,73,76] Oe (c:=32) Oe];decide,84,_,rfl,by decide,by decide,by decide,by decide⟩
 ·exact⟨by rw[show(moB 3 a b++r).takeWhile wC=[83,73,77,80,76,69]from tk [83,73,77,80,76,69] Oe (c:=32) Oe];decide,83,_,rfl,by decide,by decide,by decide,by decide⟩
 ·exact⟨by rw[show(moB 4 a b++r).takeWhile wC=[83,72,79,82,84,69,83,84]from tk [83,72,79,82,84,69,83,84] Oe (c:=32) Oe];decide,83,_,rfl,by decide,by decide,by decide,by decide⟩
 ·exact⟨by rw[show(moB 5 a b++r).takeWhile wC=[65,78,89]from tk [65,78,89] Oe (c:=32) Oe];decide,65,_,rfl,by decide,by decide,by decide,by decide⟩
theorem fn4(e:EP):moT e=bif e.mode==0 then []else moB e.mode e.mn e.mx:=rfl
theorem fn5{c d:UInt8}(h:d≠c)(r:List UInt8):fm4 c (d::r):=fun t e=>by cases e;exact h rfl
def zE(X:List UInt8)(m a b:Int)(ps:List PP)(r:List UInt8):List UInt8:=spB X (bif m==0 then []else moB m a b)++(spB (X++spB X (bif m==0 then []else moB m a b)) (prT ps)++93::r)
theorem fn6(e:EP)(r:List UInt8):esT e++93::r=bl e.vr++(tyT e.ty++zE (bl e.vr++tyT e.ty) e.mode e.mn e.mx e.ps r):=by
 unfold esT zE;rw[fl9,fl9,fn4];simp only[fz5]
theorem fn7(X:List UInt8)(a b:Int)(ps:List PP)(r:List UInt8):zE X 0 a b ps r=spB X (prT ps)++93::r:=by
 unfold zE;rw[show(bif (0:Int)==0 then []else moB 0 a b)=([]:List UInt8)from rfl,fm0];simp
theorem fn8{m:Int}(hm:1≤m)(X:List UInt8)(a b:Int)(r:List UInt8):zE X m a b [] r=spB X (moB m a b)++93::r:=by
 unfold zE;have:(m==0)=false:=by rw[beq_eq_false_iff_ne];omega
 rw[this,show prT []=[]from rfl,fm0];simp
theorem fn9(m a b:Int):∃c u,moB m a b=c::u:=by
 cases hq:moB m a b with
 |nil=>
  have:=congrArg List.length hq;simp[moB]at this
 |cons c u=>exact⟨c,u,rfl⟩
theorem fo0(X:List UInt8){m:Int}(hm:1≤m∧m≤5)(a b:Int)(ps:List PP)(r q:List UInt8):spB X (prT ps)++93::r≠spB X (moB m a b)++93::q:=by
 intro h;obtain⟨-,c,u,e,n1,n2,-,n4⟩:=fn3 hm a b (93::q)
 cases X with
 |nil=>
  rw[fm1 (moB m a b),e]at h;obtain⟨d,v,f,k⟩:=fm6 [] ps 93 r;rw[f]at h
  cases h
  rcases k with k|k|k
  ·exact n2 k
  ·exact n1 k
  ·exact n4 k
 |cons x y=>
  obtain⟨c',u',e'⟩:=fn9 m a b;rw[e',gb4]at e
  cases e
  rw[e',fm2 Oc]at h
  match ps with
  |[]=>
   rw[show prT []=[]from rfl,fm0]at h
   cases h
  |b::l=>
   obtain⟨w,f⟩:=fm3 b l;rw[f,fm2 Oc]at h;simp only[gb4,List.cons.injEq,true_and]at h;exact n1 h.1.symm
theorem fo1(X:List UInt8){m a b:Int}{ps:List PP}(h:(m=0∧a=0∧b=0)∨((1≤m∧m≤5)∧0≤a∧0≤b∧ps=[]))(r:List UInt8):fm4 58 (zE X m a b ps r)∧(X≠ []→dlm (zE X m a b ps r)∧fm4 124 (zE X m a b ps r))∧(zE X m a b ps r).takeWhile wC∈mwL:=by
 have tk0:∀{c:UInt8} {u:List UInt8},wC c=false→(c::u).takeWhile wC∈mwL:=fun{c u} h=>by
  rw[List.takeWhile_cons,h];show([]:List UInt8)∈mwL;decide
 rcases h with⟨rfl,-,-⟩|⟨hm,-,-,rfl⟩
 ·rw[fn7];obtain⟨h1,h2⟩:=fm9 X ps (.inr rfl) r;obtain⟨d,u,e,h⟩:=fm6 X ps 93 r;rw[e]at h1 h2 ⊢;exact⟨h2,fun _=>⟨h1,by rcases h with rfl|rfl|rfl<;>exact fm5 Od _⟩,tk0 (by rcases h with rfl|rfl|rfl<;>decide+kernel)⟩
 ·rw[fn8 hm.1];obtain⟨h1,c,u,e,n1,n2,n3,n4⟩:=fn3 hm a b (93::r)
  cases X with
  |nil=>
   rw[fm1];exact⟨by rw[e];exact fn5 n3 _,fun h=>absurd rfl h,h1⟩
  |cons x y=>
   obtain⟨c',u',e'⟩:=fn9 m a b;rw[e',fm2 Oc];exact⟨fm5 Od _,fun _=>⟨fi6 Oe _,fm5 Od _⟩,tk0 Oe⟩
theorem fo2(a:ByteArray)(l:List ByteArray):tyT (a::l)=58::Lib.join ((a::l).map bl) [124]:=rfl
theorem fo3(a b:List UInt8)(l:List (List UInt8))(r:List UInt8):Lib.join (a::b::l) [124]++r=a++(124::(Lib.join (b::l) [124]++r)):=by
 rw[Lib.join_cons,Lib.join_cons];show(a++(([124]++b)++Lib.joinTail [124] l))++r=_;simp
def WC(s:ByteArray):Prop:=∀x∈bl s,wC x=true
theorem fo4{s t:ByteArray}{r q:List UInt8}(hs:WC s)(ht:WC t)(hr:dlm r)(hq:dlm q)(h:bl s++r=bl t++q):s=t∧r=q:=by
 obtain rfl:=fk9 (w_uq hs ht hr hq h);exact⟨rfl,gc9 h⟩
theorem fo5:∀(l m:List ByteArray),l≠ []→m≠ []→(∀s∈l,WC s)→(∀s∈m,WC s)→∀{r q:List UInt8},dlm r→dlm q→fm4 124 r→fm4 124 q→Lib.join (l.map bl) [124]++r=Lib.join (m.map bl) [124]++q→l=m
 |[],_,h,_,_,_,_,_,_,_,_,_,_=>absurd rfl h
 |_,[],_,h,_,_,_,_,_,_,_,_,_=>absurd rfl h
 |[a],[b],_,_,hl,hm,r,q,dr,dq,_,_,h=>by
  rw[fz7,gd8,fz7,gd8,Lib.join_one,Lib.join_one]at h;rw[(fo4 (hl a Oc) (hm b Oc) dr dq h).1]
 |[a],b::c::m,_,_,hl,hm,r,q,dr,_,nr,_,h=>by
  rw[fz7,gd8,Lib.join_one,fz7,fz7,fo3]at h;exact absurd (fo4 (hl a Oc) (hm b Oc) dr (fi6 Oe _) h).2 (nr _)
 |a::c::l,[b],_,_,hl,hm,r,q,_,dq,_,nq,h=>by
  rw[fz7,fz7,fo3,fz7,gd8,Lib.join_one]at h;exact absurd (fo4 (hl a Oc) (hm b Oc) (fi6 Oe _) dq h).2.symm (nq _)
 |a::c::l,b::d::m,_,_,hl,hm,r,q,dr,dq,nr,nq,h=>by
  rw[fz7,fz7,fo3,fz7,fz7,fo3]at h;obtain⟨e1,h2⟩:=fo4 (hl a Oc) (hm b Oc) (fi6 Oe _) (fi6 Oe _) h;simp only[List.cons.injEq,true_and]at h2;rw[e1,fo5 (c::l) (d::m) Oc Oc (fun x hx=>hl x (gc2 _ hx)) (fun x hx=>hm x (gc2 _ hx)) dr dq nr nq h2]
theorem fo6{l m:List ByteArray}(hl:∀s∈l,WC s)(hm:∀s∈m,WC s){r q:List UInt8}(dr:l≠ []→dlm r∧fm4 124 r)(dq:m≠ []→dlm q∧fm4 124 q)(nr:fm4 58 r)(nq:fm4 58 q)(h:tyT l++r=tyT m++q):l=m∧r=q:=by
 have key:l=m:=by
  match l,m with
  |[],[]=>rfl
  |[],b::m=>rw[fo2]at h;exact absurd h (nr _)
  |a::l,[]=>rw[fo2]at h;exact absurd h.symm (nq _)
  |a::l,b::m=>
   rw[fo2,fo2]at h;simp only[gb4,List.cons.injEq,true_and]at h;exact fo5 (a::l) (b::m) Oc Oc hl hm (dr Oc).1 (dq Oc).1 (dr Oc).2 (dq Oc).2 h
 subst key;exact⟨rfl,gc9 h⟩
theorem fo7{a b:EP}(ha:CEP a)(hb:CEP b){r q:List UInt8}(h:esT a++93::r=esT b++93::q):(a.vr=b.vr∧a.ty=b.ty∧a.mode=b.mode∧a.mn=b.mn∧a.mx=b.mx∧a.ps=b.ps)∧r=q:=by
 rw[fn6,fn6]at h;obtain⟨v,ty,d,m,x,y,ps⟩:=a;obtain⟨v',ty',d',m',x',y',ps'⟩:=b;obtain⟨hv,ht,-,hm,hp⟩:=ha;obtain⟨hv',ht',-,hm',hp'⟩:=hb;dsimp only at*;obtain⟨z1,z2,z3⟩:=fo1 (bl v++tyT ty) hm r;obtain⟨w1,w2,w3⟩:=fo1 (bl v'++tyT ty') hm' q
 have ne:∀{v:ByteArray} {ty:List ByteArray},ty≠ []→bl v++tyT ty≠ []:=fun{v ty} h=>by
  cases ty with
  |nil=>exact absurd rfl h
  |cons a l=>rw[fo2];simp
 have dy:∀{v:ByteArray} {ty:List ByteArray} {z:List UInt8},(bl v++tyT ty≠ []→dlm z)→bl v≠ []→dlm (tyT ty++z):=fun{v ty z} hz hv=>by
  cases ty with
  |nil=>exact hz (by simp[hv])
  |cons a l=>rw[fo2];exact fi6 Oe _
 have ty0:∀{ty:List ByteArray} {z:List UInt8},z.takeWhile wC∈mwL→(tyT ty++z).takeWhile wC∈mwL:=fun{ty z} hz=>by
  cases ty with
  |nil=>exact hz
  |cons a l=>
   rw[fo2,gb4,List.takeWhile_cons,show wC 58=false by decide+kernel];show([]:List UInt8)∈mwL;decide
 have wrd:∀{v:ByteArray},cv4 v=true→bl v≠ []→cs4 v=true:=fun{v} h hn=>by
  unfold cv4 at h;rw[gb0,em2]at h;exact h.elim (fun h=>absurd (List.isEmpty_iff.1 h) hn) id
 have n0:∀{v:ByteArray} {Z:List UInt8},bl v=[]→(bl v++Z).takeWhile wC=Z.takeWhile wC:=fun{v Z} e=>by rw[e];rfl
 have ev:v=v':=by
  by_cases n1:bl v=[]
  ·by_cases n2:bl v'=[]
   ·exact fk9 (n1.trans n2.symm)
   ·have:=congrArg (List.takeWhile wC) h;rw[n0 n1,w_tk (fl1 hv') (dy (fun h=>(w2 h).1) n2)]at this;exact(fn2 (this ▸ ty0 z3) (wrd hv' n2)).elim
  ·by_cases n2:bl v'=[]
   ·have:=congrArg (List.takeWhile wC) h;rw[n0 n2,w_tk (fl1 hv) (dy (fun h=>(z2 h).1) n1)]at this;exact(fn2 (this.symm ▸ ty0 w3) (wrd hv n1)).elim
   ·exact(fl3 hv hv' (dy (fun h=>(z2 h).1) n1) (dy (fun h=>(w2 h).1) n2) h).1
 subst ev;have h:=gc9 h;obtain⟨et,h2⟩:=fo6 (fun s hs=>(fl0 (ht s hs)).1) (fun s hs=>(fl0 (ht' s hs)).1) (fun h=>z2 (ne h)) (fun h=>w2 (ne h)) z1 w1 h;subst et;rcases hm with⟨rfl,rfl,rfl⟩|⟨m1,x1,y1,rfl⟩
 ·rcases hm' with⟨rfl,rfl,rfl⟩|⟨m2,x2,y2,rfl⟩
  ·rw[fn7,fn7]at h2;obtain⟨e1,e2⟩:=fm7 hp hp' Od h2;exact⟨⟨rfl,rfl,rfl,rfl,rfl,e1⟩,e2⟩
  ·rw[fn7,fn8 m2.1]at h2;exact absurd h2 (fo0 _ m2 _ _ _ _ _)
 ·rcases hm' with⟨rfl,rfl,rfl⟩|⟨m2,x2,y2,rfl⟩
  ·rw[fn7,fn8 m1.1]at h2;exact absurd h2.symm (fo0 _ m1 _ _ _ _ _)
  ·rw[fn8 m1.1,fn8 m2.1]at h2
   have h3:moB m x y++93::r=moB m' x' y'++93::q:=by
    generalize bl v++tyT ty=X at h2
    cases X with
    |nil=>exact h2
    |cons a l=>
     obtain⟨c,u,e⟩:=fn9 m x y;obtain⟨c',u',e'⟩:=fn9 m' x' y';rw[e,e',fm2 Oc,fm2 Oc]at h2;rw[e,e'];simpa using h2
   obtain⟨e1,e2,e3,e4⟩:=mo_uq m1 m2 x1 y1 x2 y2 h3;exact⟨⟨rfl,rfl,e1,e2,e3,rfl⟩,e4⟩
theorem ed_uq{a b:EP}(ha:CEP a)(hb:CEP b){r q:List UInt8}(h:edT a++40::r=edT b++40::q):a=b∧r=q:=by
 have e1:∀(e:EP) (r:List UInt8),e.dir=1→edT e++40::r=45::91::(esT e++93::(45::62::40::r)):=fun e r h=>by unfold edT;rw[h];simp
 have e2:∀(e:EP) (r:List UInt8),e.dir=2→edT e++40::r=60::45::91::(esT e++93::(45::40::r)):=fun e r h=>by unfold edT;rw[h];simp
 have e3:∀(e:EP) (r:List UInt8),e.dir=3→edT e++40::r=45::91::(esT e++93::(45::40::r)):=fun e r h=>by unfold edT;rw[h];simp
 have mk:∀{x y:List UInt8},a.dir=b.dir→esT a++93::x=esT b++93::y→a=b∧x=y:=fun{x y} hd h=>by
  obtain⟨⟨h1,h2,h3,h4,h5,h6⟩,h7⟩:=fo7 ha hb h;obtain⟨v,ty,d,m,x,y,ps⟩:=a;obtain⟨v',ty',d',m',x',y',ps'⟩:=b;dsimp only at*;subst h1 h2 h3 h4 h5 h6 hd;exact⟨rfl,h7⟩
 have ka:a.dir=1∨a.dir=2∨a.dir=3:=by have:=ha.d;omega
 have kb:b.dir=1∨b.dir=2∨b.dir=3:=by have:=hb.d;omega
 have s2:∀{x y:List UInt8} {c d:UInt8},c::x=d::y→c=d∧x=y:=fun h=>by simpa using h
 rcases ka with ka|ka|ka<;>rcases kb with kb|kb|kb
 ·rw[e1 a r ka,e1 b q kb]at h;obtain⟨e,h⟩:=mk (ka.trans kb.symm) (s2 (s2 h).2).2;exact⟨e,by simpa using h⟩
 ·rw[e1 a r ka,e2 b q kb]at h;cases h
 ·rw[e1 a r ka,e3 b q kb]at h;have:=(fo7 ha hb (s2 (s2 h).2).2).2
  cases this
 ·rw[e2 a r ka,e1 b q kb]at h;cases h
 ·rw[e2 a r ka,e2 b q kb]at h;obtain⟨e,h⟩:=mk (ka.trans kb.symm) (s2 (s2 (s2 h).2).2).2;exact⟨e,by simpa using h⟩
 ·rw[e2 a r ka,e3 b q kb]at h;cases h
 ·rw[e3 a r ka,e1 b q kb]at h;have:=(fo7 ha hb (s2 (s2 h).2).2).2
  cases this
 ·rw[e3 a r ka,e2 b q kb]at h;cases h
 ·rw[e3 a r ka,e3 b q kb]at h;obtain⟨e,h⟩:=mk (ka.trans kb.symm) (s2 (s2 h).2).2;exact⟨e,by simpa using h⟩
def SPp(r:List UInt8):Prop:=fm4 45 r∧fm4 60 r
structure CPA(p:PA):Prop where
 v:cv4 p.vr=true
 n:p.ns.length=p.es.length+1
 a:∀x∈p.ns,CNP x
 e:∀x∈p.es,CEP x
def tlT(es:List EP)(ns:List NP):List UInt8:=(List.zipWith (fun a n=>a++ndT n) (es.map edT) ns).flatten
theorem fo8(e:EP)(es:List EP)(n:NP)(ns:List NP)(r:List UInt8):tlT (e::es) (n::ns)++r=edT e++(ndT n++(tlT es ns++r)):=by
 unfold tlT;simp
theorem fo9(n:NP)(r:List UInt8):∃u,ndT n++r=40::u:=⟨_,by unfold ndT;rfl⟩
theorem fp0(e:EP)(he:CEP e)(r:List UInt8):∃c u,edT e++r=c::u∧(c=45∨c=60):=by
 unfold edT
 cases e.dir==1 with
 |true=>exact⟨45,_,rfl,.inl rfl⟩
 |false=>
  cases e.dir==2 with
  |true=>exact⟨60,_,rfl,.inr rfl⟩
  |false=>exact⟨45,_,rfl,.inl rfl⟩
theorem fp1:∀(es es':List EP) (ns ns':List NP),ns.length=es.length→ns'.length=es'.length→(∀x∈es,CEP x)→(∀x∈es',CEP x)→(∀x∈ns,CNP x)→(∀x∈ns',CNP x)→∀{r q:List UInt8},SPp r→SPp q→tlT es ns++r=tlT es' ns'++q→es=es'∧ns=ns'
 |[],[],[],[],_,_,_,_,_,_,_,_,_,_,_=>⟨rfl,rfl⟩
 |[],e::es',[],n::ns',_,_,_,he,_,_,r,q,sr,_,h=>by
  rw[fo8]at h;obtain⟨c,u,e1,hc⟩:=fp0 e (he e Oc) (ndT n++(tlT es' ns'++q));rw[e1]at h;have h:r=c::u:=h;rcases hc with rfl|rfl
  ·exact absurd h (sr.1 _)
  ·exact absurd h (sr.2 _)
 |e::es,[],n::ns,[],_,_,he,_,_,_,r,q,_,sq,h=>by
  rw[fo8]at h;obtain⟨c,u,e1,hc⟩:=fp0 e (he e Oc) (ndT n++(tlT es ns++r));rw[e1]at h;have h:q=c::u:=h.symm;rcases hc with rfl|rfl
  ·exact absurd h (sq.1 _)
  ·exact absurd h (sq.2 _)
 |e::es,f::fs,n::ns,m::ms,l1,l2,he,hf,hn,hm,r,q,sr,sq,h=>by
  rw[fo8,fo8]at h;obtain⟨u,e1⟩:=fo9 n (tlT es ns++r);obtain⟨v,e2⟩:=fo9 m (tlT fs ms++q);rw[e1,e2]at h;obtain⟨g1,g2⟩:=ed_uq (he e Oc) (hf f Oc) h;rw[←g2]at e2;obtain⟨g3,g4⟩:=fn0 (hn n Oc) (hm m Oc) (e1.trans e2.symm);obtain⟨g5,g6⟩:=fp1 es fs ns ms (by simpa using l1) (by simpa using l2) (fun x hx=>he x (gc2 _ hx)) (fun x hx=>hf x (gc2 _ hx)) (fun x hx=>hn x (gc2 _ hx)) (fun x hx=>hm x (gc2 _ hx)) sr sq g4;exact⟨by rw[g1,g5],by rw[g3,g6]⟩
theorem pa_uq:UQ CPA SPp paT:=fun a b r q ha hb hr hq h=>by
 obtain⟨v,ns,es⟩:=a;obtain⟨v',ns',es'⟩:=b;have n1:ns.length=es.length+1:=ha.n;have n2:ns'.length=es'.length+1:=hb.n
 match ns,ns',n1,n2,ha,hb,h with
 |n::ns,m::ms,n1,n2,ha,hb,h=>
  have eq:∀(v:ByteArray) (n:NP) (ns:List NP) (es:List EP) (r:List UInt8),∃u,ndT n++(tlT es ns++r)=40::u∧paT ⟨v,n::ns,es⟩++r=bl v++((bif s0B v then []else [32,61,32])++40::u):=fun v n ns es r=>by
   obtain⟨u,e⟩:=fo9 n (tlT es ns++r);refine⟨u,e,?_⟩;rw[←e];unfold paT pvT paL tlT;dsimp only
   cases c:s0B v with
   |true=>rw[em2]at c;rw[List.isEmpty_iff.1 c];simp
   |false=>simp
  obtain⟨u,e1,e2⟩:=eq v n ns es r;obtain⟨w,f1,f2⟩:=eq v' m ms es' q;rw[e2,f2]at h;have dl:∀(b:Bool) (u:List UInt8),dlm ((bif b then []else [32,61,32])++40::u):=fun b u=>by cases b<;>exact fi6 Oe _
  obtain⟨g1,g2⟩:=fl3 ha.v hb.v (dl _ _) (dl _ _) h;have g1:v=v':=g1;subst g1;have g3:=gc9 g2;simp only[List.cons.injEq,true_and]at g3;rw[←g3]at f1;obtain⟨g4,g5⟩:=fn0 (ha.a n Oc) (hb.a m Oc) (e1.trans f1.symm);obtain⟨g6,g7⟩:=fp1 es es' ns ms (by simpa using n1) (by simpa using n2) ha.e hb.e (fun x hx=>ha.a x (gc2 _ hx)) (fun x hx=>hb.a x (gc2 _ hx)) hr hq g5;rw[g4,g6,g7]
structure CCL(c:CL):Prop where
 k:c.k=1
 ps:c.ps≠ []
 p:∀x∈c.ps,CPA x
 wh:c.wh.length≤1
 w:∀x∈c.wh,CE x
theorem cl_uq{a b:CL}(ha:CCL a)(hb:CCL b){r q:List UInt8}(h:clT a++10::r=clT b++10::q):(a.opt=b.opt∧a.ps=b.ps∧a.wh=b.wh)∧r=q:=by
 have eq:∀{c:CL} (r:List UInt8),CCL c→clT c++r=(bif c.opt then [79,80,84,73,79,78,65,76,32]else [])++([77,65,84,67,72,32]++(Lib.join (c.ps.map paT) [44,32]++(whT c.wh++r))):=fun{c} r hc=>by
  unfold clT;rw[hc.k];simp
 rw[eq _ ha,eq _ hb]at h
 have eo:a.opt=b.opt:=by
  cases ca:a.opt<;>cases cb:b.opt<;>rw[ca,cb]at h<;>first|rfl|cases h
 rw[eo]at h;have h:=gc9 (gc9 h)
 have st:∀{l:List Ex} (r:List UInt8),l.length≤1→SPp (whT l++10::r)∧n44 (whT l++10::r):=fun{l} r hl=>by
  match l,hl with
  |[],_=>exact⟨⟨fm5 Od _,fm5 Od _⟩,fl8 Od _⟩
  |[e],_=>exact⟨⟨fm5 Od _,fm5 Od _⟩,fl8 Od _⟩
 obtain⟨s1,t1⟩:=st r ha.wh;obtain⟨s2,t2⟩:=st q hb.wh;have ep:=fl7 (fun r=>⟨fm5 Od _,fm5 Od _⟩) pa_uq a.ps b.ps ha.ps hb.ps ha.p hb.p _ _ s1 s2 t1 t2 h;rw[ep]at h;have h:=gc9 h
 have hw:a.wh=b.wh∧r=q:=by
  have w1:=ha.w;have w2:=hb.w;have l1:=ha.wh;have l2:=hb.wh;generalize a.wh=l at*;generalize b.wh=m at*
  match l,m,l1,l2 with
  |[],[],_,_=>exact⟨rfl,by simpa[whT]using h⟩
  |[],[e],_,_=>cases h
  |[e],[],_,_=>cases h
  |[e],[f],_,_=>
   have h2:txE e++10::r=txE f++10::q:=by simpa[whT]using h
   obtain⟨g1,g2⟩:=fl5 (w1 e Oc) (w2 f Oc) (fl4 Od _) (fl4 Od _) h2;exact⟨by rw[g1],by simpa using g2⟩
 exact⟨⟨eo,ep,hw.1⟩,hw.2⟩
theorem fp2{v:V}(h:bq9 v=true):Val.okV v=true∧((∃n,(n=0∨n=1)∧v=.mk 1 n 0 ⟨#[]⟩ [])∨(∃n,v=.mk 2 n 0 ⟨#[]⟩ [])∨∃s,v=.mk 4 0 0 s []):=by
 unfold bq9 at h;rw[fz4]at h;refine⟨h.2,?_⟩;obtain⟨k,n,d,s,l⟩:=v;obtain⟨hk,hok⟩:=h;simp only[V.k,gb0,beq_iff_eq]at hk;have hk:k=1∨k=2∨k=4:=Oa
 unfold Val.okV at hok;rw[bw2 8 k n d s l Oa Oa]at hok;rcases hk with rfl|rfl|rfl
 ·simp[bq5,V.k,V.n,V.d,V.s,V.l]at hok;obtain⟨⟨⟨h1,h2⟩,h3⟩,h4⟩:=hok;subst h1 h3;rw[fj9 h2];exact .inl ⟨n,h4,rfl⟩
 ·simp[bq5,V.k,V.n,V.d,V.s,V.l]at hok;obtain⟨⟨⟨h1,h2⟩,h3⟩,h4⟩:=hok;subst h1 h3;rw[fj9 h2];exact .inr (.inl ⟨n,rfl⟩)
 ·simp[bq5,V.k,V.n,V.d,V.s,V.l]at hok;obtain⟨⟨h1,h2⟩,h3,h4⟩:=hok;subst h1 h2 h3;exact .inr (.inr ⟨s,rfl⟩)
theorem fp3{n m:Int}{r q:List UInt8}(hr:dlm r)(hq:dlm q)(h:Lib.itoa n++r=Lib.itoa m++q):n=m:=by
 have neg:∀{n:Int},n<0→∀r,Lib.itoa n++r=45::(Lib.itoa (-n)++r):=fun{n} hn r=>by
  obtain⟨u,rfl⟩:∃u:Nat,n= -(u:Int):=⟨n.natAbs,by omega⟩;rw[Lib.itoa_neg u Oa,Int.neg_neg,Lib.itoa_nonneg];rfl
 have hd:∀{n:Int},0≤n→∀{r t:List UInt8},Lib.itoa n++r≠45::t:=fun{n} hn r t e=>by
  obtain⟨u,rfl⟩:=gh3 hn;rw[Lib.itoa_nonneg]at e;obtain⟨b,x,e1,h1⟩:=fd3 u;rw[e1]at e
  cases e
  exact absurd h1 Od
 by_cases hn:n<0
 ·by_cases hm:m<0
  ·rw[neg hn,neg hm]at h;simp only[List.cons.injEq,true_and]at h;have:=(fn1 Oa Oa hr hq h).1;omega
  ·rw[neg hn]at h;exact absurd h.symm (hd Oa)
 ·by_cases hm:m<0
  ·rw[neg hm]at h;exact absurd h (hd Oa)
  ·exact(fn1 Oa Oa hr hq h).1
theorem fp4(n:Int)(r:List UInt8):∃c t,Lib.itoa n++r=c::t∧(c=45∨fd0 c=true):=by
 by_cases hn:n<0
 ·obtain⟨u,rfl⟩:∃u:Nat,n= -(u:Int):=⟨n.natAbs,by omega⟩;rw[Lib.itoa_neg u Oa];exact⟨45,_,rfl,.inl rfl⟩
 ·obtain⟨u,rfl⟩:=gh3 (show 0≤n by omega);obtain⟨b,x,e1,h1⟩:=fd3 u;rw[Lib.itoa_nonneg,e1];exact⟨b,_,rfl,.inr h1⟩
theorem vl_uq{v w:V}(hv:bq9 v=true)(hw:bq9 w=true){r q:List UInt8}(hr:dlm r)(hq:dlm q)(h:txt v++r=txt w++q):v=w:=by
 obtain⟨ov,kv⟩:=fp2 hv;obtain⟨ow,kw⟩:=fp2 hw;have t1:∀{n:Int},(n=0∨n=1)→Val.okV (.mk 1 n 0 ⟨#[]⟩ [])=true→txt (.mk 1 n 0 ⟨#[]⟩ [])=bif n==1 then [116,114,117,101]else [102,97,108,115,101]:=fun{n} _ ho=>by rw[txt,ho];rfl
 have t2:∀{n:Int},Val.okV (.mk 2 n 0 ⟨#[]⟩ [])=true→txt (.mk 2 n 0 ⟨#[]⟩ [])=Lib.itoa n:=fun{n} ho=>by rw[txt,ho];rfl
 have bd:∀{n:Int},(n=0∨n=1)→∃c t,(bif n==1 then [116,114,117,101]else [102,97,108,115,101]:List UInt8)=c::t∧(c=116∨c=102):=fun{n} hn=>by
  rcases hn with rfl|rfl
  ·exact⟨102,_,rfl,.inr rfl⟩
  ·exact⟨116,_,rfl,.inl rfl⟩
 have ni:∀{n m:Int} {r q:List UInt8},(n=0∨n=1)→(bif n==1 then [116,114,117,101]else [102,97,108,115,101]:List UInt8)++r≠Lib.itoa m++q:=fun{n m r q} hn e=>by
  obtain⟨c,t,e1,h1⟩:=bd hn;obtain⟨d,u,e2,h2⟩:=fp4 m q;rw[e1,e2]at e
  cases e
  rcases h1 with rfl|rfl<;>rcases h2 with h2|h2<;>exact absurd h2 Od
 rcases kv with⟨n,hn,rfl⟩|⟨n,rfl⟩|⟨s,rfl⟩<;>rcases kw with⟨m,hm,rfl⟩|⟨m,rfl⟩|⟨t,rfl⟩
 ·rw[t1 hn ov,t1 hm ow]at h;rcases hn with rfl|rfl<;>rcases hm with rfl|rfl<;>first|rfl|cases h
 ·rw[t1 hn ov,t2 ow]at h;exact absurd h (ni hn)
 ·rw[t1 hn ov,fi8 ow]at h;obtain⟨c,u,e1,h1⟩:=bd hn;rw[e1]at h;rcases h1 with rfl|rfl<;>cases h
 ·rw[t2 ov,t1 hm ow]at h;exact absurd h.symm (ni hm)
 ·rw[t2 ov,t2 ow]at h;rw[fp3 hr hq h]
 ·rw[t2 ov,fi8 ow]at h;obtain⟨d,u,e2,h2⟩:=fp4 n r;rw[e2]at h
  cases h
  rcases h2 with h2|h2<;>exact absurd h2 Od
 ·rw[fi8 ov,t1 hm ow]at h;obtain⟨c,u,e1,h1⟩:=bd hm;rw[e1]at h;rcases h1 with rfl|rfl<;>cases h
 ·rw[fi8 ov,t2 ow]at h;obtain⟨d,u,e2,h2⟩:=fp4 m q;rw[e2]at h
  cases h
  rcases h2 with h2|h2<;>exact absurd h2 Od
 ·rw[fi8 ov,fi8 ow]at h;have e:∀(s:ByteArray) (r:List UInt8),[39]++dbl s.data.toList++ [39]++r=39::(dbl s.data.toList++39::r):=fun s r=>by simp
  rw[e,e]at h;have k:=congrArg lex h;rw[fh9 hr,fh9 hq]at k;simp only[List.cons.injEq,TK.st.injEq]at k;rw[fk9 k.1]
structure CAT(a:AT):Prop where
 k:(a.k=1∧∃x,0≤x∧a=⟨1,[x],a.nm,[],bq3⟩)∨(a.k=2∧bq9 a.v=true∧∃x,0≤x∧a=⟨2,[x],a.nm,[],a.v⟩)∨(a.k=3∧∃x y z,(0≤x∧0≤y∧0≤z)∧a=⟨3,[x,y,z],⟨#[]⟩,a.ty,bq3⟩)∨a.k=4∧∃x,0≤x∧a=⟨4,[x],⟨#[]⟩,[],bq3⟩
 n:WC a.nm
 t:∀s∈a.ty,WC s
def SAp(r:List UInt8):Prop:=∃c t,r=c::t∧(c=32∨c=10)
theorem fp5{r:List UInt8}(h:SAp r):dlm r:=by
 obtain⟨c,t,rfl,rfl|rfl⟩:=h<;>exact fi6 Oe t
theorem fp6(x:Int)(nm:ByteArray)(r:List UInt8):atT ⟨1,[x],nm,[],bq3⟩++r=91::(Lib.itoa x++93::58::(bl nm++r)):=by simp[atT,vtT]
theorem fp7(x:Int)(nm:ByteArray)(v:V)(r:List UInt8):atT ⟨2,[x],nm,[],v⟩++r=91::(Lib.itoa x++93::46::(bl nm++61::(txt v++r))):=by simp[atT,vtT]
theorem fp8(x y z:Int)(ty:List ByteArray)(r:List UInt8):atT ⟨3,[x,y,z],⟨#[]⟩,ty,bq3⟩++r=91::(Lib.itoa x++93::45::91::(Lib.itoa y++(tyT ty++93::45::62::91::(Lib.itoa z++93::r)))):=by simp[atT,vtT]
theorem fp9(x:Int)(r:List UInt8):atT ⟨4,[x],⟨#[]⟩,[],bq3⟩++r=91::(Lib.itoa x++93::r):=by simp[atT,vtT]
theorem at_uq:UQ CAT SAp atT:=fun a b r q ha hb hr hq h=>by
 have d93:∀u,dlm (93::u):=fun u=>fi6 Oe u
 have tl:∀{x y:Int} {u w:List UInt8},0≤x→0≤y→91::(Lib.itoa x++93::u)=91::(Lib.itoa y++93::w)→x=y∧u=w:=fun{x y u w} hx hy h=>by
  simp only[List.cons.injEq,true_and]at h;obtain⟨e1,e2⟩:=fn1 hx hy (d93 _) (d93 _) h;exact⟨e1,by simpa using e2⟩
 have sa:∀{r:List UInt8} {c:UInt8} {u:List UInt8},SAp r→r=c::u→c=32∨c=10:=fun{r c u} hr e=>by
  obtain⟨d,t,f,h⟩:=hr;rw[f]at e
  cases e
  exact h
 have dty:∀(l:List ByteArray) (u:List UInt8),dlm (tyT l++93::u):=fun l u=>by
  cases l with
  |nil=>exact d93 u
  |cons a l=>rw[fo2];exact fi6 Oe _
 rcases ha.k with⟨-,x,hx,ea⟩|⟨-,pa,x,hx,ea⟩|⟨-,x,y,z,hx,ea⟩|⟨-,x,hx,ea⟩<;>rcases hb.k with⟨-,x',hx',eb⟩|⟨-,pb,x',hx',eb⟩|⟨-,x',y',z',hx',eb⟩|⟨-,x',hx',eb⟩<;>rw[ea,eb]at h
 ·rw[fp6,fp6]at h;obtain⟨e1,e2⟩:=tl hx hx' h;simp only[List.cons.injEq,true_and]at e2;rw[ea,eb,e1,(fo4 ha.n hb.n (fp5 hr) (fp5 hq) e2).1]
 ·rw[fp6,fp7]at h;cases(tl hx hx' h).2
 ·rw[fp6,fp8]at h;cases(tl hx hx'.1 h).2
 ·rw[fp6,fp9]at h;exact absurd (sa hq (tl hx hx' h).2.symm) Od
 ·rw[fp7,fp6]at h;cases(tl hx hx' h).2
 ·rw[fp7,fp7]at h;obtain⟨e1,e2⟩:=tl hx hx' h;simp only[List.cons.injEq,true_and]at e2;obtain⟨e3,e4⟩:=fo4 ha.n hb.n (fi6 Oe _) (fi6 Oe _) e2;simp only[List.cons.injEq,true_and]at e4;rw[ea,eb,e1,e3,vl_uq pa pb (fp5 hr) (fp5 hq) e4]
 ·rw[fp7,fp8]at h;cases(tl hx hx'.1 h).2
 ·rw[fp7,fp9]at h;exact absurd (sa hq (tl hx hx' h).2.symm) Od
 ·rw[fp8,fp6]at h;cases(tl hx.1 hx' h).2
 ·rw[fp8,fp7]at h;cases(tl hx.1 hx' h).2
 ·rw[fp8,fp8]at h;obtain⟨e1,e2⟩:=tl hx.1 hx'.1 h;simp only[List.cons.injEq,true_and]at e2;obtain⟨e3,e4⟩:=fn1 hx.2.1 hx'.2.1 (dty _ _) (dty _ _) e2;obtain⟨e5,e6⟩:=fo6 ha.t hb.t (fun _=>⟨d93 _,fm5 Od _⟩) (fun _=>⟨d93 _,fm5 Od _⟩) (fm5 Od _) (fm5 Od _) e4;simp only[List.cons.injEq,true_and]at e6;obtain⟨e7,-⟩:=fn1 hx.2.2 hx'.2.2 (d93 _) (d93 _) e6;rw[ea,eb,e1,e3,e5,e7]
 ·rw[fp8,fp9]at h;exact absurd (sa hq (tl hx.1 hx' h).2.symm) Od
 ·rw[fp9,fp6]at h;exact absurd (sa hr (tl hx hx' h).2) Od
 ·rw[fp9,fp7]at h;exact absurd (sa hr (tl hx hx' h).2) Od
 ·rw[fp9,fp8]at h;exact absurd (sa hr (tl hx hx'.1 h).2) Od
 ·rw[fp9,fp9]at h;rw[ea,eb,(tl hx hx' h).1]
end Go.Proofs.YtndgolmgaenlfaaGreatDoor
