/- Clauses as canonical text: what both texts write, and how long it is; The text of a checked expression is one line; The text of a checked MATCH clause is one line; Plans as text: what is written, and that a checked plan has a line for each operator; Small clauses, and what the checks grant of them; Properties of a pattern as text, by both texts; Node and edge patterns as text, by both texts; Edge patterns as text, by both texts; Edge patterns as text, by the specification; Path patterns as text, by both texts; Conditions, bounds, names and columns as text, by both texts; A MATCH clause as text. Conditions: each part's own, as it says. -/
import Derived.Test.YtndgolmgaenlfaaGreatDoorGC
import Derived.Test.YtndgolmgaenlfaaGreatDoorCA
import Derived.Test.YtndgolmgaenlfaaGreatDoorFB
set_option linter.unusedVariables false
set_option linter.unusedSimpArgs false
namespace Go.Proofs.YtndgolmgaenlfaaGreatDoor
set_option maxRecDepth 4000
open Go Go.Abs Go.Val Go.RowKit Go.Proofs.Tryz
def bl(s:ByteArray):List UInt8:=s.data.toList
theorem ec5(s:ByteArray):(bl s).length=s.size:=by simp[bl]
theorem ec6(s:ByteArray):bs (bl s)=s:=bw7 s
theorem ec7(x:List UInt8):((bs x).toList==(⟨#[]⟩:ByteArray).toList)=x.isEmpty:=by
 rw[ByteArray.toList_eq,ByteArray.toList_eq];show(x.toArray.toList==([]:List UInt8))=x.isEmpty
 cases x<;>rfl
theorem em_s0(s:ByteArray):s0B s=(bl s).isEmpty:=by
 have h:=ec7 (bl s);rw[ec6]at h;exact h
theorem ec8{x:List UInt8}:x.isEmpty=decide (x.length=0):=by cases x<;>simp
theorem ec9(B:Nat):∀xs:List (List UInt8),(∀x∈xs,x.length≤B)→xs.flatten.length≤xs.length*B
 |[],_=>by simp
 |a::r,h=>by
  have h1:=h a Oc;have h2:=ec9 B r fun x hx=>h x (by simp[hx])
  rw[List.flatten_cons,ex8,ex9,fd7];omega
theorem ed0(B:Nat)(sep:List UInt8)(hs:sep.length≤2)(xs:List (List UInt8))(h:∀x∈xs,x.length≤B):(Lib.join xs sep).length≤xs.length*(B+2):=by
 refine fb4 (cn1 sep hs xs) ?_
 induction xs with
 |nil=>simp
 |cons a r ih=>
  have h1:=h a Oc;have h2:=ih fun x hx=>h x (by simp[hx])
  rw[fa1,List.sum_cons,ex9,fd7];omega
def ppT(p:PP):List UInt8:=bl p.key++ [58,32]++txE p.e
def prJ(l:List PP):List UInt8:=[123]++Lib.join (l.map ppT) [44,32]++ [125]
def prT(l:List PP):List UInt8:=bif l.length==0 then []else prJ l
def spT(a b:List UInt8):List UInt8:=bif a.isEmpty||b.isEmpty then a++b else a++ [32]++b
def lbL(l:List ByteArray):List (List UInt8):=l.map fun s=>[58]++bl s
def nsT(n:NP):List UInt8:=bl n.vr++(lbL n.lb).flatten
def ndT(n:NP):List UInt8:=[40]++spT (nsT n) (prT n.ps)++ [41]
def tyT(l:List ByteArray):List UInt8:=bif l.length==0 then []else [58]++Lib.join (l.map bl) [124]
def mwT(m:Int):List UInt8:=
 bif m==2 then [84,82,65,73,76,32]else
 bif m==3 then [83,73,77,80,76,69,32]else
 bif m==4 then [83,72,79,82,84,69,83,84,32]else
 bif m==5 then [65,78,89,32,83,72,79,82,84,69,83,84,32]else []
def moT(e:EP):List UInt8:=bif e.mode==0 then []else mwT e.mode++([42]++Lib.itoa e.mn++ [46,46]++Lib.itoa e.mx)
def esT(e:EP):List UInt8:=spT (spT (bl e.vr++tyT e.ty) (moT e)) (prT e.ps)
def edT(e:EP):List UInt8:=
 bif e.dir==1 then [45,91]++esT e++ [93,45,62]else
 bif e.dir==2 then [60,45,91]++esT e++ [93,45]else [45,91]++esT e++ [93,45]
def pvT(p:PA):List UInt8:=bif s0B p.vr then []else bl p.vr++ [32,61,32]
def paL(p:PA):List (List UInt8):=List.zipWith (fun a n=>a++ndT n) ([]::p.es.map edT) p.ns
def paT(p:PA):List UInt8:=pvT p++(paL p).flatten
def whT(l:List Ex):List UInt8:=match l with|[]=>[]|e::_=>[32,87,72,69,82,69,32]++txE e
def bdT(w:List UInt8)(n:Int):List UInt8:=bif decide (n<0)then []else [32]++w++ [32]++Lib.itoa n
def skT:List UInt8:=[83,75,73,80]
def lmT:List UInt8:=[76,73,77,73,84]
def itT(x:IT):List UInt8:=txE x.e++ [32,65,83,32]++bl x.asn
def odT(x:SK):List UInt8:=bif x.dc then txE x.e++ [32,68,69,83,67]else txE x.e
def obT(l:List SK):List UInt8:=bif l.length==0 then []else [32,79,82,68,69,82,32,66,89,32]++Lib.join (l.map odT) [44,32]
def dsT(b:Bool):List UInt8:=bif b then [68,73,83,84,73,78,67,84,32]else []
def pjT(c:CL):List UInt8:=dsT c.ds++Lib.join (c.it.map itT) [44,32]++obT c.od++bdT skT c.sk++bdT lmT c.lm++whT c.wh
def rmF(x:SIt):Bool:=bif !(s0B x.lb)then x.off else x.e.op==1&&x.e.v.k==0
def asT(x:SIt):List UInt8:=
 bif !(s0B x.lb)then bl x.vr++ [58]++bl x.lb else
 bif rmF x then bl x.vr++ [46]++bl x.key else bl x.vr++ [46]++bl x.key++ [32,61,32]++txE x.e
def sepT(p:Option SIt)(x:SIt):List UInt8:=
 bif (match p with|none=>false|some y=>rmF y==rmF x)then [44,32]else
 (bif p.isSome then [32]else [])++(bif rmF x then [82,69,77,79,86,69,32]else [83,69,84,32])
def seL:Option SIt→List SIt→List (List UInt8)
 |_,[]=>[]
 |p,x::r=>(sepT p x++asT x)::seL (some x) r
def seT(l:List SIt):List UInt8:=(seL none l).flatten
def clT(c:CL):List UInt8:=
 bif c.k==1 then(bif c.opt then [79,80,84,73,79,78,65,76,32]else [])++([77,65,84,67,72,32]++Lib.join (c.ps.map paT) [44,32]++whT c.wh)else
 bif c.k==2 then [85,78,87,73,78,68,32]++txE c.e++ [32,65,83,32]++bl c.nm else
 bif c.k==3 then [87,73,84,72,32]++pjT c else
 bif c.k==4 then [82,69,84,85,82,78,32]++pjT c else
 bif c.k==5 then [67,82,69,65,84,69,32]++Lib.join (c.ps.map paT) [44,32]else
 bif c.k==6 then [77,69,82,71,69,32]++Lib.join (c.ps.map paT) [44,32]else
 bif c.k==7 then seT c.st else
 (bif c.opt then [68,69,84,65,67,72,32]else [])++([68,69,76,69,84,69,32]++Lib.join (c.ns.map bl) [44,32])
def TxX(e:Ex):Prop:=alE smN e∧nd e≤400
structure TxP(l:List PP):Prop where
 n:l.length≤1500
 k:∀p∈l,p.key.size≤20
 e:∀p∈l,TxX p.e
structure TxN(x:NP):Prop where
 v:x.vr.size≤20
 n:x.lb.length≤1500
 l:∀s∈x.lb,s.size≤20
 p:TxP x.ps
structure TxG(x:EP):Prop where
 v:x.vr.size≤20
 n:x.ty.length≤1500
 l:∀s∈x.ty,s.size≤20
 mn:0≤x.mn∧x.mn≤6
 mx:0≤x.mx∧x.mx≤6
 p:TxP x.ps
structure TxA(p:PA):Prop where
 v:p.vr.size≤20
 n:p.ns.length=p.es.length+1
 m:p.es.length≤6
 ns:∀n∈p.ns,TxN n
 es:∀e∈p.es,TxG e
structure TxI(x:SIt):Prop where
 v:x.vr.size≤20
 l:x.lb.size≤20
 k:x.key.size≤20
 e:s0B x.lb=true→TxX x.e
structure TxC(c:CL):Prop where
 pn:c.ps.length≤8
 p:∀p∈c.ps,TxA p
 w:∀e∈c.wh,TxX e
 e:c.k=2→TxX c.e∧c.nm.size≤20
 im:c.it.length≤20
 i:∀x∈c.it,TxX x.e∧x.asn.size≤20
 om:c.od.length≤20
 o:∀x∈c.od,TxX x.e
 sk: -1≤c.sk∧c.sk≤1000000000000000
 lm: -1≤c.lm∧c.lm≤1000000000000000
 sm:c.st.length≤20
 s:∀x∈c.st,TxI x
 nm:c.ns.length≤20
 n:∀s∈c.ns,s.size≤20
theorem ed1{e:Ex}(h:TxX e):(txE e).length≤400000:=by
 have:=cn3 e h.1;have:=h.2;omega
theorem pp_le{p:PP}(hk:p.key.size≤20)(h:TxX p.e):(ppT p).length≤400022:=by
 have:=ed1 h;have:=ec5 p.key;simp only[ppT,ex8,ex9,ey5];omega
theorem ed2{l:List PP}(h:TxP l):(Lib.join (l.map ppT) [44,32]).length≤600036000:=by
 have h1:=ed0 400022 [44,32] Oc (l.map ppT) (by
  intro x hx;obtain⟨p,hp,rfl⟩:=ey6.1 hx;exact pp_le (h.k p hp) (h.e p hp))
 have:=h.n;rw[ey4]at h1;omega
theorem ed3{l:List PP}(h:TxP l):(prT l).length≤600036002:=by
 have:=ed2 h;unfold prT prJ
 cases l.length==0<;>simp only[cond_true,cond_false,ex8,ex9,ey5]<;>omega
theorem ed4(a b:List UInt8):(spT a b).length≤a.length+b.length+1:=by
 unfold spT
 cases a.isEmpty||b.isEmpty<;>simp only[cond_true,cond_false,ex8,ex9,ey5]<;>omega
theorem ed5{n:NP}(h:TxN n):(nsT n).length≤31520:=by
 have h1:=ec9 21 (lbL n.lb) (by
  intro x hx;obtain⟨s,hs,rfl⟩:=ey6.1 hx;have:=h.l s hs;have:=ec5 s;simp only[ex8,ex9,ey5];omega)
 have h2:(lbL n.lb).length=n.lb.length:=by simp[lbL]
 have:=h.n;have:=h.v;have:=ec5 n.vr;simp only[nsT,ex8];rw[h2]at h1;omega
theorem ed6{n:NP}(h:TxN n):(ndT n).length≤600068000:=by
 have:=ed4 (nsT n) (prT n.ps);have:=ed5 h;have:=ed3 h.p;simp only[ndT,ex8,ex9,ey5];omega
theorem ed7{l:List ByteArray}(hn:l.length≤1500)(h:∀s∈l,s.size≤20):(Lib.join (l.map bl) [124]).length≤33000:=by
 have h1:=ed0 20 [124] Oc (l.map bl) (by
  intro x hx;obtain⟨s,hs,rfl⟩:=ey6.1 hx;have:=h s hs;have:=ec5 s;omega)
 rw[ey4]at h1;omega
theorem ed8{l:List ByteArray}(hn:l.length≤1500)(h:∀s∈l,s.size≤20):(tyT l).length≤33001:=by
 have:=ed7 hn h;unfold tyT
 cases l.length==0<;>simp only[cond_true,cond_false,ex8,ex9,ey5]<;>omega
theorem ed9(m:Int):(mwT m).length≤13:=by
 unfold mwT
 repeat'(rw[fc3];split)
 all_goals simp
theorem ee0{n:Int}(h: -1≤n∧n≤1000000000000000):(Lib.itoa n).length≤21:=bx5 (by simp only[inR];omega)
theorem ee1{e:EP}(h:TxG e):(moT e).length≤100:=by
 have:=ed9 e.mode;have:=h.mn;have:=h.mx;have:=ee0 (n:=e.mn) Oa;have:=ee0 (n:=e.mx) Oa;unfold moT
 cases e.mode==0<;>simp only[cond_true,cond_false,ex8,ex9,ey5]<;>omega
theorem ee2{e:EP}(h:TxG e):(esT e).length≤600070000:=by
 have:=ed4 (spT (bl e.vr++tyT e.ty) (moT e)) (prT e.ps);have:=ed4 (bl e.vr++tyT e.ty) (moT e);have:=ed8 h.n h.l;have:=ee1 h;have:=ed3 h.p;have:=h.v;have:=ec5 e.vr;unfold esT;rw[ex8]at*;omega
theorem ee3{e:EP}(h:TxG e):(edT e).length≤600070100:=by
 have:=ee2 h;unfold edT
 repeat'(rw[fc3];split)
 all_goals(simp only[ex8,ex9,ey5];omega)
theorem ee4{p:PA}{i:Nat}{n:NP}{a:List UInt8}(h1:([]::p.es.map edT)[i]? =some a)(h2:p.ns[i]? =some n):(paL p)[i]? =some (a++ndT n):=by
 unfold paL;rw[List.getElem?_zipWith,h1,h2]
theorem ee5{p:PA}(h:p.ns.length=p.es.length+1):(paL p).length=p.ns.length:=by
 unfold paL;rw[List.length_zipWith,ex9,ey4];omega
theorem ee6{α β γ:Type}(f:α→β→γ):∀(a:List α) (b:List β) (x:γ),x∈List.zipWith f a b→∃u∈a,∃v∈b,x=f u v
 |[],b,x,h=>by simp at h
 |u::a,[],x,h=>by simp at h
 |u::a,v::b,x,h=>by
  rw[List.zipWith_cons_cons]at h;rcases ey2.1 h with rfl|h
  ·exact⟨u,by simp,v,by simp,rfl⟩
  ·obtain⟨u',h1,v',h2,e⟩:=ee6 f a b x h;exact⟨u',by simp[h1],v',by simp[h2],e⟩
theorem ee7{p:PA}(h:TxA p):∀x∈paL p,x.length≤1200138100:=by
 intro x hx;obtain⟨a,ha,n,hn,rfl⟩:=ee6 _ _ _ _ hx;have h1:=ed6 (h.ns n hn);rw[ex8];rcases ey2.1 ha with rfl|ha
 ·rw[ey5];omega
 ·obtain⟨e,he,rfl⟩:=ey6.1 ha;have:=ee3 (h.es e he);omega
theorem ee8(L:List (List UInt8))(i:Nat):(L.take i).flatten.length≤L.flatten.length:=by
 conv=>rhs;rw[←fd9 i L,List.flatten_append,ex8]
 omega
theorem ee9{p:PA}(h:TxA p):(paL p).flatten.length≤8400966700:=by
 have h1:=ec9 1200138100 (paL p) (ee7 h);have h2:=ee5 h.n;have:=h.n;have:=h.m;omega
theorem ef0{p:PA}(h:TxA p):(paT p).length≤8400967000:=by
 have:=ee9 h;have:=h.v;have:=ec5 p.vr;unfold paT pvT
 cases s0B p.vr<;>simp only[cond_true,cond_false,ex8,ex9,ey5]<;>omega
theorem ef1{l:List PA}(hn:l.length≤8)(h:∀p∈l,TxA p):(Lib.join (l.map paT) [44,32]).length≤67207736016:=by
 have h1:=ed0 8400967000 [44,32] Oc (l.map paT) (by
  intro x hx;obtain⟨p,hp,rfl⟩:=ey6.1 hx;exact ef0 (h p hp))
 rw[ey4]at h1;omega
theorem ef2{l:List Ex}(h:∀e∈l,TxX e):(whT l).length≤400007:=by
 match l,h with
 |[],_=>simp[whT]
 |e::r,h=>
  have:=ed1 (h e Oc);simp only[whT,ex8,ex9,ey5];omega
theorem ef3{w:List UInt8}(hw:w.length≤5){n:Int}(h: -1≤n∧n≤1000000000000000):(bdT w n).length≤28:=by
 have:=ee0 h;unfold bdT
 cases decide (n<0)<;>simp only[cond_true,cond_false,ex8,ex9,ey5]<;>omega
theorem it_le{l:List IT}(hn:l.length≤20)(h:∀x∈l,TxX x.e∧x.asn.size≤20):(Lib.join (l.map itT) [44,32]).length≤8000600:=by
 have h1:=ed0 400024 [44,32] Oc (l.map itT) (by
  intro x hx;obtain⟨p,hp,rfl⟩:=ey6.1 hx;have:=ed1 (h p hp).1;have:=(h p hp).2;have:=ec5 p.asn;simp only[itT,ex8,ex9,ey5];omega)
 rw[ey4]at h1;omega
theorem ef4{x:SK}(h:TxX x.e):(odT x).length≤400005:=by
 have:=ed1 h;unfold odT
 cases x.dc<;>simp only[cond_true,cond_false,ex8,ex9,ey5]<;>omega
theorem od_le{l:List SK}(hn:l.length≤20)(h:∀x∈l,TxX x.e):(Lib.join (l.map odT) [44,32]).length≤8000600:=by
 have h1:=ed0 400005 [44,32] Oc (l.map odT) (by
  intro x hx;obtain⟨p,hp,rfl⟩:=ey6.1 hx;exact ef4 (h p hp))
 rw[ey4]at h1;omega
theorem ob_le{l:List SK}(hn:l.length≤20)(h:∀x∈l,TxX x.e):(obT l).length≤8000610:=by
 have:=od_le hn h;unfold obT
 cases l.length==0<;>simp only[cond_true,cond_false,ex8,ex9,ey5]<;>omega
theorem ds_le(b:Bool):(dsT b).length≤9:=by cases b<;>simp[dsT]
theorem pj_le{c:CL}(h:TxC c):(pjT c).length≤17000000:=by
 have:=ds_le c.ds;have:=it_le h.im h.i;have:=ob_le h.om h.o;have:=ef3 (w:=skT) (by simp[skT]) h.sk;have:=ef3 (w:=lmT) (by simp[lmT]) h.lm;have:=ef2 h.w;simp only[pjT,ex8];omega
theorem as_le{x:SIt}(h:TxI x):(asT x).length≤400044:=by
 have:=h.v;have:=h.l;have:=h.k;have:=ec5 x.vr;have:=ec5 x.lb;have:=ec5 x.key;have he:=h.e;unfold asT
 cases hl:s0B x.lb with
 |false=>simp only[fe8,cond_true,ex8,ex9,ey5];omega
 |true=>
  have:=ed1 (he hl)
  cases rmF x<;>simp only[fd3,cond_true,cond_false,ex8,ex9,ey5]<;>omega
theorem ef5(p:Option SIt)(x:SIt):(sepT p x).length≤8:=by
 unfold sepT
 cases p with
 |none=>cases rmF x<;>simp
 |some y=>
  dsimp only[Option.isSome_some]
  cases rmF x<;>cases rmF y<;>simp
theorem ef6:∀(p:Option SIt) (l:List SIt),(∀x∈l,TxI x)→∀y∈seL p l,y.length≤400052
 |_,[],_,y,h=>by simp[seL]at h
 |p,x::r,hx,y,h=>by
  rw[seL]at h;rcases ey2.1 h with rfl|h
  ·have:=ef5 p x;have:=as_le (hx x Oc);rw[ex8];omega
  ·exact ef6 (some x) r (fun z hz=>hx z (by simp[hz])) y h
theorem ef7:∀(p:Option SIt) (l:List SIt),(seL p l).length=l.length
 |_,[]=>rfl
 |p,x::r=>by rw[seL,ex9,ef7,ex9]
theorem se_le{l:List SIt}(hn:l.length≤20)(h:∀x∈l,TxI x):(seT l).length≤8001040:=by
 have h1:=ec9 400052 (seL none l) (ef6 none l h);rw[ef7]at h1;unfold seT;omega
theorem ef8{l:List ByteArray}(hn:l.length≤20)(h:∀s∈l,s.size≤20):(Lib.join (l.map bl) [44,32]).length≤440:=by
 have h1:=ed0 20 [44,32] Oc (l.map bl) (by
  intro x hx;obtain⟨s,hs,rfl⟩:=ey6.1 hx;have:=h s hs;have:=ec5 s;omega)
 rw[ey4]at h1;omega
theorem ef9{c:CL}(h:TxC c):(clT c).length≤68000000000:=by
 have:=ef1 h.pn h.p;have:=ef2 h.w;have:=pj_le h;have:=se_le h.sm h.s;have:=ef8 h.nm h.n;have he:c.k=2→(txE c.e).length≤400000:=fun e=>ed1 (h.e e).1
 have hb:c.k=2→(bl c.nm).length≤20:=fun e=>by rw[ec5];exact(h.e e).2
 unfold clT
 cases hk:c.k==2 with
 |true=>
  have hk':c.k=2:=by simpa using hk
  have:=he hk';have:=hb hk';have e1:(c.k==1)=false:=by rw[hk'];rfl
  rw[e1];simp only[cond_true,cond_false,ex8,ex9,ey5];omega
 |false=>
  cases c.opt<;>cases c.k==1<;>cases c.k==3<;>cases c.k==4<;>cases c.k==5<;>cases c.k==6<;>cases c.k==7<;>simp only[cond_true,cond_false,ex8,ex9,ey5]<;>omega
abbrev nnQ(l:List UInt8):Prop:=∀b∈l,b≠10
theorem eg0{a b:List UInt8}(ha:nnQ a)(hb:nnQ b):nnQ (a++b):=fun x hx=>(fa0.1 hx).elim (ha x) (hb x)
theorem eg1:nnQ []:=fun _ h=>by cases h
theorem eg2{l:List UInt8}(h:(l.all fun b=>b !=10)=true):nnQ l:=fun b hb=>by simpa using ez8.1 h b hb
theorem eg3{L:List (List UInt8)}(h:∀l∈L,nnQ l):nnQ L.flatten:=fun b hb=>by
 obtain⟨l,hl,hb⟩:=List.mem_flatten.1 hb;exact h l hl b hb
theorem eg4{L:List (List UInt8)}{sep:List UInt8}(h:∀l∈L,nnQ l)(hs:nnQ sep):nnQ (Lib.join L sep):=by
 cases L with
 |nil=>exact eg1
 |cons x r=>
  rw[Lib.join_cons];refine eg0 (h x Oc) ?_;unfold Lib.joinTail;refine eg3 fun l hl=>?_
  obtain⟨y,hy,rfl⟩:=ey6.1 hl;exact eg0 hs (h y (by simp[hy]))
theorem eg5(u:Nat):nnQ (Lib.decDigits u):=by
 induction u using Nat.strongRecOn with
 |_ u ih=>
  rw[Lib.decDigits];have dig:∀n:Nat,n<10→(UInt8.ofNat (48+n))≠10:=Od
  split
  ·rename_i h
   intro b hb;rw[ez3]at hb;rw[hb];exact dig u h
  ·rename_i h
   refine eg0 (ih (u/10) Oa) fun b hb=>?_
   rw[ez3]at hb;rw[hb];exact dig (u % 10) Oa
theorem eg6(n:Int):nnQ (Lib.itoa n):=by
 by_cases h:n<0
 ·obtain⟨u,rfl⟩:∃u:Nat,n= -(u:Int):=⟨n.natAbs,by omega⟩;rw[Lib.itoa_neg u Oa];exact eg0 (a:=[45]) (eg2 rfl) (eg5 u)
 ·obtain⟨u,rfl⟩:∃u:Nat,n=(u:Int):=⟨n.natAbs,by omega⟩;rw[Lib.itoa_nonneg];exact eg5 u
theorem eg7:∀{l:List UInt8},nnQ l→nnQ (dbl l)
 |[],_=>eg1
 |b::r,h=>by
  have e:dbl (b::r)=(bif b==39 then [39,39]else [b])++dbl r:=rfl;rw[e];refine eg0 ?_ (eg7 fun x hx=>h x (by simp[hx]))
  cases b==39 with
  |true=>exact eg2 rfl
  |false=>exact fun x hx=>by rw[ez3.1 hx];exact h b Oc
theorem eg8{s t:ByteArray}(h:isS s t=true)(ht:nnQ t.data.toList):nnQ s.data.toList:=by
 obtain rfl:=cr0 (by simpa[isS]using h:s.toList=t.toList);exact ht
theorem eg9{s:ByteArray}(h:bv6 s=true):nnQ s.data.toList:=by
 unfold bv6 at h;simp only[ey9,ez8,fb5]at h;intro b hb e;obtain⟨i,hi,hg⟩:=List.getElem_of_mem hb;have hi':i<s.size:=by simpa using hi
 have h1:=h.2.2.2 i hi';obtain⟨c,hc,hv⟩:=br1 hi';rw[ex6 hi,hg]at hc
 cases hc
 rw[hv,e]at h1;exact absurd h1 Od
theorem eh0{s:ByteArray}(h:ch2 s=true):nnQ s.data.toList:=by
 unfold ch2 at h;rw[ey9]at h;exact eg9 h.1
theorem eh1{s:ByteArray}(h:bo0 s=true):nnQ s.data.toList:=by
 unfold bo0 at h;rw[ey9,ez8]at h;intro b hb e;have:=h.1 b hb;rw[e]at this;exact absurd this Od
theorem eh2{v:V}(h:cd6 v=true):nnQ (cl6 v):=by
 unfold cl6
 cases k1:v.k==1 with
 |true=>rw[cond_true];cases v.n==1<;>exact eg2 rfl
 |false=>
 cases k2:v.k==2 with
 |true=>
  rw[cond_false,cond_true]
  cases decide (v.n<0)with
  |true=>exact eg0 (eg0 (eg2 rfl) (eg6 _)) (eg2 rfl)
  |false=>exact eg6 _
 |false=>
 cases k4:v.k==4 with
 |false=>exact eg2 rfl
 |true=>
  rw[cond_false,cond_false,cond_true];obtain⟨k,n,d,s,l⟩:=v;obtain rfl:k=4:=by simpa[V.k]using k4
  have hok:Val.okV (.mk 4 n d s l)=true:=by simpa[cd6,cc9,V.k]using h
  have hs:bo0 s=true:=by
   have h0:=hok;unfold Val.okV at h0;rw[br9 8 4 n d s l Oa Oa]at h0;simp[bo1,V.k,V.n,V.d,V.s,V.l]at h0;exact h0.2.2
  rw[txt,hok];exact eg0 (eg0 (eg2 rfl) (eg7 (eh1 hs))) (eg2 rfl)
theorem nn_sg(op:Int):nnQ (sgT op):=by
 unfold sgT
 cases op==7<;>cases op==8<;>cases op==9<;>cases op==10<;>cases op==11<;>cases op==12<;>cases op==13<;>cases op==14<;>
  cases op==15<;>cases op==16<;>cases op==17<;>cases op==18<;>cases op==19<;>exact eg2 rfl
theorem eh3{L:List (List UInt8)}(h:∀l∈L,nnQ l)(i:Nat):nnQ (L.getD i []):=by
 rw[fb6]
 cases e:L[i]? with
 |none=>exact eg1
 |some x=>exact h x (ey0 e)
theorem eh4{s:ByteArray}(h:cc6 s=true):nnQ s.data.toList:=by
 unfold cc6 at h;simp only[fa2]at h;rcases h with h|h|h|h|h|h<;>exact eg8 h (eg2 rfl)
theorem eh5{s:ByteArray}(h:cc4 s≠0):nnQ s.data.toList:=by
 unfold cc4 at h
 cases c1:cc2 s with
 |true=>
  unfold cc2 at c1;simp only[fa2]at c1;rcases c1 with h|h|h|h|h|h|h|h|h|h|h|h|h<;>exact eg8 h (eg2 rfl)
 |false=>
  cases c2:cc3 s with
  |true=>exact eg8 c2 (eg2 rfl)
  |false=>rw[c1,c2]at h;exact absurd rfl h
theorem eh6{op:Int}{v:V}{s:ByteArray}{ds:Bool}{ts os:List (List UInt8)}(h1:op=1→cd6 v=true)(h2:op=2∨op=3∨op=4→ch2 s=true)(h3:op=23→cc4 s≠0)
  (h4:op=24→cc6 s=true)(ht:∀l∈ts,nnQ l)(ho:∀l∈os,nnQ l):nnQ (txN op v s.data.toList ds ts os):=by
 have o0:=eh3 ho 0;have o1:=eh3 ho 1;have t0:=eh3 ht 0;unfold txN
 cases c1:op==1 with
 |true=>exact eh2 (h1 (by simpa using c1))
 |false=>
 cases c2:op==2 with
 |true=>exact eh0 (h2 (.inl (by simpa using c2)))
 |false=>
 cases c3:op==3 with
 |true=>exact eg0 (eg0 o0 (eg2 rfl)) (eh0 (h2 (.inr (.inl (by simpa using c3)))))
 |false=>
 cases c4:op==4 with
 |true=>exact eg0 (eg0 o0 (eg2 rfl)) (eh0 (h2 (.inr (.inr (by simpa using c4)))))
 |false=>
 cases op==5 with
 |true=>exact eg0 (eg2 rfl) o0
 |false=>
 cases op==6 with
 |true=>exact eg0 (eg2 rfl) o0
 |false=>
 cases op==21 with
 |true=>exact eg0 o0 (eg2 rfl)
 |false=>
 cases op==22 with
 |true=>exact eg0 (eg0 (eg2 rfl) (eg4 ht (eg2 rfl))) (eg2 rfl)
 |false=>
 cases c5:op==23 with
 |true=>exact eg0 (eg0 (eg0 (eh5 (h3 (by simpa using c5))) (eg2 rfl)) (eg4 ht (eg2 rfl))) (eg2 rfl)
 |false=>
 cases c6:op==24 with
 |true=>
  have hg:=eh4 (h4 (by simpa using c6))
  cases ts.isEmpty with
  |true=>exact eg0 hg (eg2 rfl)
  |false=>
   cases ds with
   |true=>exact eg0 (eg0 (eg0 hg (eg2 rfl)) t0) (eg2 rfl)
   |false=>exact eg0 (eg0 (eg0 hg (eg2 rfl)) t0) (eg2 rfl)
 |false=>exact eg0 (eg0 (eg0 (eg0 o0 (eg2 rfl)) (nn_sg op)) (eg2 rfl)) o1
theorem eh7(e:Ex):ci3 e=0→nnQ (txE e):=by
 refine bv4 (P:=fun e=>ci3 e=0→nnQ (txE e)) (fun op v nm ds ks ih h=>?_) e;have hk:∀x∈ks,nnQ (txE x):=fun x hx=>ih x hx (cw5 h x hx)
 have hs:=cv6 (cv8 h).2.2;unfold ch6 at hs;rw[show(Ex.mk op v nm ds ks).op=op from rfl,show(Ex.mk op v nm ds ks).v=v from rfl]at hs
 cases c1:(decide (op<1)||decide (op>24))||(!cd1 (.mk op v nm ds ks)|| !cd4 (.mk op v nm ds ks))with
 |true=>rw[c1]at hs;exact absurd (show(1:Int)=0 from hs) Od
 |false=>
 cases c2:op==1&& !cd6 v with
 |true=>rw[c1,c2]at hs;exact absurd (show(8:Int)=0 from hs) Od
 |false=>
 cases c3:nlF (.mk op v nm ds ks)with
 |true=>rw[c1,c2,c3]at hs;exact absurd (show(6:Int)=0 from hs) Od
 |false=>
  unfold nlF at c3;rw[show(Ex.mk op v nm ds ks).op=op from rfl,show(Ex.mk op v nm ds ks).nm=nm from rfl]at c3;rw[txE];refine eh6 (fun ho=>?_) (fun ho=>?_) (fun ho=>?_) (fun ho=>?_) (fun l hl=>?_) fun l hl=>?_
  ·rw[ho]at c2;simpa using c2
  ·rcases ho with ho|ho|ho<;>rw[ho]at c3<;>simpa using c3
  ·rw[ho]at c3;simpa using c3
  ·rw[ho]at c3;simpa using c3
  ·rw[cm3]at hl;obtain⟨x,hx,rfl⟩:=ey6.1 hl;exact hk x hx
  ·rw[cm4]at hl;obtain⟨x,hx,rfl⟩:=ey6.1 hl;unfold opT
   cases cl7 x.op with
   |true=>exact eg0 (eg0 (eg2 rfl) (hk x hx)) (eg2 rfl)
   |false=>exact hk x hx
theorem eh8:∀{l:List Int},cl3 l=0→∀x∈l,x=0
 |[],_,_,h=>by cases h
 |a::r,h,x,hx=>by
  rw[cl3]at h
  cases c:a !=0 with
  |true=>rw[c,cond_true]at h;rw[h]at c;cases c
  |false=>
   rw[c,cond_false]at h;rcases ey2.1 hx with rfl|hx
   ·simpa using c
   ·exact eh8 h x hx
theorem eh9:∀{l:List Ex},ck5 l=0→∀x∈l,ci3 x=0
 |[],_,_,h=>by cases h
 |a::r,h,x,hx=>by
  rw[ck5]at h
  cases c:ci3 a !=0 with
  |true=>rw[c,cond_true]at h;rw[h]at c;cases c
  |false=>
   rw[c,cond_false]at h;rcases ey2.1 hx with rfl|hx
   ·simpa using c
   ·exact eh9 h x hx
theorem ei0:∀(ns:List NP) (es:List EP) {n:NP},n∈ns→ptN n∈ck1 ns es
 |[],_,_,h=>by cases h
 |a::r,[],n,h=>by
  rw[ck1];rcases ey2.1 h with rfl|h
  ·simp
  ·exact fe2 _ (ei0 r [] h)
 |a::r,e::q,n,h=>by
  rw[ck1];rcases ey2.1 h with rfl|h
  ·simp
  ·exact fe2 _ (fe2 _ (ei0 r q h))
theorem ei1:∀(ns:List NP) (es:List EP) {e:EP},es.length≤ns.length→e∈es→ptE e∈ck1 ns es
 |_,[],_,_,h=>by cases h
 |[],e::q,_,hl,_=>by simp at hl
 |a::r,e::q,x,hl,h=>by
  rw[ck1];rcases ey2.1 h with rfl|h
  ·simp
  ·exact fe2 _ (fe2 _ (ei1 r q (by simpa using hl) h))
structure ei2(p:PA):Prop where
 vr:ck2 p.vr=true
 pt:∀x∈ck1 p.ns p.es,ck3 x=false∧∀q∈x.ps,ci3 q.e=0
 len:p.es.length≤p.ns.length
theorem ei3{p:PA}{b:Bool}(h:ck7 p b=0):ei2 p:=by
 unfold ck7 at h
 cases c1:cj7 p with
 |true=>rw[c1]at h;exact absurd (show(4:Int)=0 from h) Od
 |false=>
 cases c2:p.ns.length !=p.es.length+1||p.es.any fun e=> !cj8 e with
 |true=>rw[c1,c2]at h;exact absurd (show(1:Int)=0 from h) Od
 |false=>
 cases c3: !(ck2 p.vr)||(ck1 p.ns p.es).any ck3 with
 |true=>rw[c1,c2,c3]at h;exact absurd (show(6:Int)=0 from h) Od
 |false=>
 cases c4:(ck1 p.ns p.es).any ck4 with
 |true=>rw[c1,c2,c3,c4]at h;exact absurd (show(26:Int)=0 from h) Od
 |false=>
 cases c5:ck5 (ck6 (ck1 p.ns p.es)) !=0 with
 |true=>rw[c1,c2,c3,c4,c5]at h;rw[show ck5 (ck6 (ck1 p.ns p.es))=0 from h]at c5;cases c5
 |false=>
  rw[fa9]at c2 c3;have hl:p.ns.length=p.es.length+1:=by simpa using c2.1
  have he:=eh9 (by simpa using c5);refine⟨by simpa using c3.1,fun x hx=>⟨?_,fun q hq=>?_⟩,by omega⟩
  ·have:=fc2.1 c3.2 x hx;simpa using this
  ·refine he q.e ?_;unfold ck6;exact ff1.2 ⟨x,hx,ey6.2 ⟨q,hq,rfl⟩⟩
theorem ei4{s:ByteArray}(h:ck2 s=true):nnQ (bl s):=by
 unfold ck2 at h;rw[fa2]at h;rcases h with h|h
 ·unfold s0B at h;exact eg8 h (eg2 rfl)
 ·exact eh0 h
theorem ei5{a b:List UInt8}(ha:nnQ a)(hb:nnQ b):nnQ (spT a b):=by
 unfold spT
 cases a.isEmpty||b.isEmpty with
 |true=>exact eg0 ha hb
 |false=>exact eg0 (eg0 ha (eg2 rfl)) hb
theorem ei6{l:List PP}(h:∀q∈l,ch2 q.key=true∧ci3 q.e=0):nnQ (prT l):=by
 unfold prT
 cases l.length==0 with
 |true=>exact eg1
 |false=>
  refine eg0 (eg0 (eg2 rfl) (eg4 (fun x hx=>?_) (eg2 rfl))) (eg2 rfl);obtain⟨q,hq,rfl⟩:=ey6.1 hx;exact eg0 (eg0 (eh0 (h q hq).1) (eg2 rfl)) (eh7 q.e (h q hq).2)
theorem ei7{x:PT}(h:ck3 x=false):ck2 x.nm=true∧(∀s∈x.ns,ch2 s=true)∧∀q∈x.ps,ch2 q.key=true:=by
 unfold ck3 cj4 at h;simp only[fa9,Bool.not_eq_false',ez8]at h;exact⟨h.1,h.2.1,fun q hq=>h.2.2 q.key (ey6.2 ⟨q,hq,rfl⟩)⟩
theorem nn_nd{n:NP}(h1:ck3 (ptN n)=false)(h2:∀q∈n.ps,ci3 q.e=0):nnQ (ndT n):=by
 obtain⟨a,b,c⟩:=ei7 h1;unfold ndT nsT lbL;refine eg0 (eg0 (eg2 rfl) (ei5 (eg0 (ei4 a) (eg3 fun l hl=>?_)) (ei6 fun q hq=>⟨c q hq,h2 q hq⟩))) (eg2 rfl);obtain⟨s,hs,rfl⟩:=ey6.1 hl;exact eg0 (eg2 rfl) (eh0 (b s hs))
theorem nn_mw(m:Int):nnQ (mwT m):=by
 unfold mwT
 cases m==2<;>cases m==3<;>cases m==4<;>cases m==5<;>exact eg2 rfl
theorem nn_ed{e:EP}(h1:ck3 (ptE e)=false)(h2:∀q∈e.ps,ci3 q.e=0):nnQ (edT e):=by
 obtain⟨a,b,c⟩:=ei7 h1
 have hs:nnQ (esT e):=by
  unfold esT;refine ei5 (ei5 (eg0 (ei4 a) ?_) ?_) (ei6 fun q hq=>⟨c q hq,h2 q hq⟩)
  ·unfold tyT
   cases e.ty.length==0 with
   |true=>exact eg1
   |false=>
    refine eg0 (eg2 rfl) (eg4 (fun x hx=>?_) (eg2 rfl));obtain⟨s,hs,rfl⟩:=ey6.1 hx;exact eh0 (b s hs)
  ·unfold moT
   cases e.mode==0 with
   |true=>exact eg1
   |false=>exact eg0 (nn_mw _) (eg0 (eg0 (eg0 (eg2 rfl) (eg6 _)) (eg2 rfl)) (eg6 _))
 unfold edT
 cases e.dir==1 with
 |true=>exact eg0 (eg0 (eg2 rfl) hs) (eg2 rfl)
 |false=>
  cases e.dir==2 with
  |true=>exact eg0 (eg0 (eg2 rfl) hs) (eg2 rfl)
  |false=>exact eg0 (eg0 (eg2 rfl) hs) (eg2 rfl)
theorem ei8:∀{A:List (List UInt8)} {N:List NP},(∀a∈A,nnQ a)→(∀n∈N,nnQ (ndT n))→∀l∈List.zipWith (fun a n=>a++ndT n) A N,nnQ l
 |[],_,_,_,_,h=>by cases h
 |_::_,[],_,_,_,h=>by cases h
 |a::r,n::q,ha,hn,l,h=>by
  rw[List.zipWith_cons_cons]at h;rcases ey2.1 h with rfl|h
  ·exact eg0 (ha a Oc) (hn n Oc)
  ·exact ei8 (fun x hx=>ha x (by simp[hx])) (fun x hx=>hn x (by simp[hx])) l h
theorem nn_pa{p:PA}(h:ei2 p):nnQ (paT p):=by
 unfold paT;refine eg0 ?_ (eg3 fun l hl=>?_)
 ·unfold pvT
  cases s0B p.vr with
  |true=>exact eg1
  |false=>exact eg0 (ei4 h.vr) (eg2 rfl)
 ·unfold paL at hl;refine ei8 (fun a ha=>?_) (fun n hn=>?_) l hl
  ·rcases ey2.1 ha with rfl|ha
   ·exact eg1
   ·obtain⟨e,he,rfl⟩:=ey6.1 ha;have:=h.pt _ (ei1 p.ns p.es h.len he);exact nn_ed this.1 this.2
  ·have:=h.pt _ (ei0 p.ns p.es hn);exact nn_nd this.1 this.2
theorem nn_wh{l:List Ex}(h:∀e∈l,ci3 e=0):nnQ (whT l):=by
 cases l with
 |nil=>exact eg1
 |cons e r=>exact eg0 (eg2 rfl) (eh7 e (h e Oc))
theorem ei9{c:CL}(h:cl5 c=0):(∀p∈c.ps,ei2 p)∧∀e∈c.wh,ci3 e=0:=by
 unfold cl5 at h
 cases c1:(decide (c.k<1)||decide (c.k>8))||cl0 c with
 |true=>rw[c1]at h;exact absurd (show(1:Int)=0 from h) Od
 |false=>
 cases c2:cl1 c with
 |true=>rw[c1,c2]at h;exact absurd (show(4:Int)=0 from h) Od
 |false=>
  rw[c1,c2]at h;have ha:=eh8 h;constructor
  ·intro p hp;exact ei3 (ha (ck7 p (c.k==5)) (by simp only[fa0,ey6];exact .inl (.inl (.inl (.inl (.inl (.inl ⟨p,hp,rfl⟩)))))))
  ·intro e he;exact ha (ci3 e) (by simp only[fa0,ey6];exact .inl (.inl (.inl (.inl (.inl (.inr ⟨e,he,rfl⟩))))))
theorem ej0{c:CL}(h:cl5 c=0)(hk:c.k=1):nnQ (clT c):=by
 obtain⟨h1,h2⟩:=ei9 h;unfold clT;rw[hk];show nnQ ((bif c.opt then [79,80,84,73,79,78,65,76,32]else [])++([77,65,84,67,72,32]++Lib.join (c.ps.map paT) [44,32]++whT c.wh));refine eg0 ?_ (eg0 (eg0 (eg2 rfl) (eg4 (fun l hl=>?_) (eg2 rfl))) (nn_wh h2))
 ·cases c.opt<;>exact eg2 rfl
 ·obtain⟨p,hp,rfl⟩:=ey6.1 hl;exact nn_pa (h1 p hp)
def vtT(a:AT)(i:Nat):List UInt8:=Lib.itoa (a.vs.getD i 0)
def atT(a:AT):List UInt8:=
 bif a.k==1 then [91]++vtT a 0++ [93,58]++bl a.nm else
 bif a.k==2 then [91]++vtT a 0++ [93,46]++bl a.nm++ [61]++txt a.v else
 bif a.k==3 then [91]++vtT a 0++ [93,45,91]++vtT a 1++tyT a.ty++ [93,45,62,91]++vtT a 2++ [93]else [91]++vtT a 0++ [93]
def liT(L:List (List UInt8)):List UInt8:=bif L.isEmpty then []else [32]++Lib.join L [44,32]
def mlT(c:CJ):List UInt8:=[109,117,108,116,105,32,40]++Lib.join (c.vs.map bl) [44,32]++ [41]++(c.as.map fun a=>[32]++atT a).flatten
def srT(b:PB):List UInt8:=liT (b.od.map odT)++bdT skT b.sk++bdT lmT b.lm
def lnT(b:PB):List UInt8:=
 bif b.op==1 then [117,110,105,116]else
 bif b.op==2 then mlT b.cj else
 bif b.op==3 then [106,111,105,110]else
 bif b.op==4 then [108,101,102,116]else
 bif b.op==5 then [97,112,112,108,121,32]++clT b.cl else
 bif b.op==6 then [102,105,108,116,101,114,32]++txE b.e else
 bif b.op==7 then [112,114,111,106,101,99,116]++liT (b.it.map itT)else
 bif b.op==8 then [103,114,111,117,112]++liT (b.it.map itT)else
 bif b.op==9 then [117,110,105,113,117,101]else
 bif b.op==10 then [115,111,114,116]++srT b else [117,110,119,105,110,100,32]++txE b.e++ [32,65,83,32]++bl b.nm
mutual
def plT(d:Nat):Pl→List UInt8
 |.mk b ks=>List.replicate (2*d) 32++lnT b++ [10]++ej1 d ks
def ej1(d:Nat):List Pl→List UInt8
 |[]=>[]
 |p::r=>plT (d+1) p++ej1 d r
end
theorem ej2{L:List (List UInt8)}(h:∀l∈L,nnQ l):nnQ (liT L):=by
 unfold liT
 cases L.isEmpty with
 |true=>exact eg1
 |false=>exact eg0 (eg2 rfl) (eg4 h (eg2 rfl))
theorem ej3(w:List UInt8)(n:Int)(h:nnQ w):nnQ (bdT w n):=by
 unfold bdT
 cases decide (n<0)with
 |true=>exact eg1
 |false=>exact eg0 (eg0 (eg0 (eg2 rfl) h) (eg2 rfl)) (eg6 n)
theorem ej4{v:V}(h:bo5 v=true):nnQ (txt v):=by
 unfold bo5 at h;obtain⟨k,n,d,s,l⟩:=v;have hok:Val.okV (.mk k n d s l)=true:=by simp_all
 rw[txt,hok]
 cases c1:k==1 with
 |true=>
  show nnQ (bif n==1 then [116,114,117,101]else [102,97,108,115,101])
  cases n==1<;>exact eg2 rfl
 |false=>
 cases c2:k==2 with
 |true=>exact eg6 n
 |false=>
  have hk:k=4:=by simp_all [V.k]
  subst hk
  have hs:bo0 s=true:=by
   have h0:=hok;unfold Val.okV at h0;rw[br9 8 4 n d s l Oa Oa]at h0;simp[bo1,V.k,V.n,V.d,V.s,V.l]at h0;exact h0.2.2
  exact eg0 (eg0 (eg2 rfl) (eg7 (eh1 hs))) (eg2 rfl)
theorem ej5{s:ByteArray}(h:de4 s=true):nnQ (bl s):=by
 unfold de4 at h;unfold bl
 cases e:s.data.toList with
 |nil=>exact eg1
 |cons a t=>
  cases t with
  |nil=>rw[e]at h;cases h
  |cons b r=>
   rw[e]at h;simp only[ey9,ez8,beq_iff_eq,decide_eq_true_eq]at h;intro x hx ex;rcases ey2.1 hx with rfl|hx
   ·rw[h.1]at ex;exact absurd ex Od
   ·have:=(h.2.2 x hx).1;rw[ex]at this;exact absurd this Od
theorem nn_at{a:AT}(h1:da4 a=true)(h2:db2 a=true):nnQ (atT a):=by
 have v0:∀i,nnQ (vtT a i):=fun i=>eg6 _
 unfold db2 at h2;rw[ey9]at h2;obtain⟨n1,n2⟩:=h2;unfold atT
 cases c1:a.k==1 with
 |true=>
  have hn:bv6 a.nm=true:=by rw[c1]at n1;simpa using n1
  exact eg0 (eg0 (eg0 (eg2 rfl) (v0 0)) (eg2 rfl)) (eg9 hn)
 |false=>
 cases c2:a.k==2 with
 |true=>
  have hn:bv6 a.nm=true:=by rw[c1,c2]at n1;simpa using n1
  have hp:bo5 a.v=true:=by
   unfold da4 at h1;rw[c2]at h1;revert h1
   cases cz5 a.k==0||a.vs.length !=cz5 a.k with
   |true=>intro h;cases h
   |false=>
    cases a.vs.any fun v=>decide (v<0)with
    |true=>intro h;cases h
    |false=>
     cases(a.k !=3&&decide (a.ty.length>0))||((a.k !=1&&a.k !=2) && !nmE a.nm)with
     |true=>intro h;cases h
     |false=>exact id
  exact eg0 (eg0 (eg0 (eg0 (eg0 (eg2 rfl) (v0 0)) (eg2 rfl)) (eg9 hn)) (eg2 rfl)) (ej4 hp)
 |false=>
 cases a.k==3 with
 |true=>
  have ht:nnQ (tyT a.ty):=by
   unfold tyT
   cases a.ty.length==0 with
   |true=>exact eg1
   |false=>
    refine eg0 (eg2 rfl) (eg4 (fun x hx=>?_) (eg2 rfl));obtain⟨s,hs,rfl⟩:=ey6.1 hx;rw[Bool.not_eq_true',fc2]at n2;exact eg9 (by simpa using n2 s hs)
  exact eg0 (eg0 (eg0 (eg0 (eg0 (eg0 (eg0 (eg2 rfl) (v0 0)) (eg2 rfl)) (v0 1)) ht) (eg2 rfl)) (v0 2)) (eg2 rfl)
 |false=>exact eg0 (eg0 (eg2 rfl) (v0 0)) (eg2 rfl)
theorem nn_ml{c:CJ}(h:(df0 c).2=0):nnQ (mlT c):=by
 unfold df0 at h
 cases c1:dc6 c !=0 with
 |true=>rw[c1,cond_true]at h;rw[show dc6 c=0 from h]at c1;cases c1
 |false=>
 cases c2:c.vs.all fun s=>ch2 s||de4 s with
 |false=>rw[c1,c2]at h;exact absurd (show(6:Int)=0 from h) Od
 |true=>
  have h0:dc6 c=0:=by simpa using c1
  unfold dc6 at h0
  cases d1:decide (c.vs.length>24)||decide (c.as.length>12)with
  |true=>rw[d1]at h0;exact absurd (show(4:Int)=0 from h0) Od
  |false=>
  cases d2:c.as.any (dc4 c.vs.length)with
  |true=>rw[d1,d2]at h0;exact absurd (show(1:Int)=0 from h0) Od
  |false=>
  cases d3:twF c.vs with
  |true=>rw[d1,d2,d3]at h0;exact absurd (show(7:Int)=0 from h0) Od
  |false=>
  cases d4:c.as.any (fun a=> !db2 a)with
  |true=>rw[d1,d2,d3,d4]at h0;exact absurd (show(6:Int)=0 from h0) Od
  |false=>
   unfold mlT;refine eg0 (eg0 (eg0 (eg2 rfl) (eg4 (fun l hl=>?_) (eg2 rfl))) (eg2 rfl)) (eg3 fun l hl=>?_)
   ·obtain⟨s,hs,rfl⟩:=ey6.1 hl;have:=ez8.1 c2 s hs;rw[fa2]at this;rcases this with h|h
    ·exact eh0 h
    ·exact ej5 h
   ·obtain⟨a,ha,rfl⟩:=ey6.1 hl;have e1:=fc2.1 d2 a ha;have e2:=fc2.1 d4 a ha;unfold dc4 at e1;exact eg0 (eg2 rfl) (nn_at (by simp at e1;exact e1.1) (by simpa using e2))
theorem ej6(g:Bool)(cols:List ByteArray):∀(l:List IT) (out:List ByteArray),(df4 g cols l out).2=0→∀x∈l,ci3 x.e=0∧ch2 x.asn=true
 |[],_,_,_,h=>by cases h
 |x::r,out,h0,y,hy=>by
  rw[df4]at h0
  cases c:df3 g x cols out !=0 with
  |true=>rw[c,cond_true]at h0;rw[show df3 g x cols out=0 from h0]at c;cases c
  |false=>
   rw[c,cond_false]at h0;rcases ey2.1 hy with rfl|hy
   ·have hi:df3 g y cols out=0:=by simpa using c
    unfold df3 at hi
    cases c1:ci3 y.e !=0 with
    |true=>rw[c1,cond_true]at hi;rw[hi]at c1;cases c1
    |false=>
    cases c2: !(ch2 y.asn)|| !(cx5 y.e cols)with
    |true=>rw[c1,c2]at hi;exact absurd (show(6:Int)=0 from hi) Od
    |false=>
     rw[fa9]at c2;exact⟨by simpa using c1,by simpa using c2.1⟩
   ·exact ej6 g cols r _ h0 y hy
theorem ej7(cols:List ByteArray):∀(l:List SK),df5 cols l=0→∀x∈l,ci3 x.e=0
 |[],_,_,h=>by cases h
 |x::r,h0,y,hy=>by
  rw[df5]at h0
  cases c:cx6 x.e cols !=0 with
  |true=>rw[c,cond_true]at h0;rw[h0]at c;cases c
  |false=>
   rw[c,cond_false]at h0;rcases ey2.1 hy with rfl|hy
   ·exact(dh1 (by simpa using c)).1
   ·exact ej7 cols r h0 y hy
theorem ej8{b:PB}{cols:List ByteArray}(h:df6 b cols=0):ci3 b.e=0∧ch2 b.nm=true:=by
 unfold df6 at h
 cases c1:ci3 b.e !=0 with
 |true=>rw[c1,cond_true]at h;rw[h]at c1;cases c1
 |false=>
 cases c2: !(ch2 b.nm)|| !(cx5 b.e cols)with
 |true=>rw[c1,c2]at h;exact absurd (show(6:Int)=0 from h) Od
 |false=>
  rw[fa9]at c2;exact⟨by simpa using c1,by simpa using c2.1⟩
theorem ej9{l:List IT}(h:∀x∈l,ci3 x.e=0∧ch2 x.asn=true):nnQ (liT (l.map itT)):=by
 refine ej2 fun t ht=>?_
 obtain⟨x,hx,rfl⟩:=ey6.1 ht;exact eg0 (eg0 (eh7 x.e (h x hx).1) (eg2 rfl)) (eh0 (h x hx).2)
theorem nn_ln{b:PB}{cols:List (List ByteArray)}(h0:(df8 b cols).2=0):nnQ (lnT b):=by
 unfold df8 at h0;unfold lnT
 cases c0:de2 b cols.length with
 |false=>rw[c0]at h0;exact absurd (show(25:Int)=0 from h0) Od
 |true=>
 rw[c0,fd3,cond_false]at h0
 cases o1:b.op==1 with
 |true=>exact eg2 rfl
 |false=>
 rw[o1,cond_false]at h0
 cases o2:b.op==2 with
 |true=>rw[o2,cond_true]at h0;exact nn_ml h0
 |false=>
 rw[o2,cond_false]at h0
 cases o3:b.op==3 with
 |true=>exact eg2 rfl
 |false=>
 cases o4:b.op==4 with
 |true=>exact eg2 rfl
 |false=>
 rw[o3,o4,fe0,cond_false]at h0
 cases o5:b.op==5 with
 |true=>
  rw[o5,cond_true]at h0
  have hk:b.cl.k=1:=by
   unfold de2 fldF at c0;rw[o5]at c0;simp only[ey9,cond_true,beq_iff_eq]at c0;exact c0.2.1.2.1
  unfold df2 at h0
  cases c1:cl5 b.cl !=0 with
  |true=>rw[c1,cond_true]at h0;rw[show cl5 b.cl=0 from h0]at c1;cases c1
  |false=>exact eg0 (eg2 rfl) (ej0 (by simpa using c1) hk)
 |false=>
 rw[o5,cond_false]at h0
 cases o6:b.op==6 with
 |true=>rw[o6,cond_true]at h0;exact eg0 (eg2 rfl) (eh7 _ (dh1 (di0 h0).1).1)
 |false=>
 rw[o6,cond_false]at h0
 have its:((b.op==7||b.op==8)=true)→nnQ (liT (b.it.map itT)):=by
  intro o7;rw[o7,cond_true]at h0
  cases l:decide (b.it.length>24)with
  |true=>rw[l]at h0;exact absurd (show(4:Int)=0 from h0) Od
  |false=>rw[l,cond_false]at h0;exact ej9 (ej6 _ _ _ _ h0)
 cases o7:b.op==7 with
 |true=>exact eg0 (eg2 rfl) (its (by rw[o7];rfl))
 |false=>
 cases o8:b.op==8 with
 |true=>exact eg0 (eg2 rfl) (its (by rw[o8,Bool.or_true]))
 |false=>
 rw[o7,o8,fe0,cond_false]at h0
 cases o9:b.op==9 with
 |true=>exact eg2 rfl
 |false=>
 rw[o9,cond_false]at h0
 cases o10:b.op==10 with
 |true=>
  rw[o10,cond_true]at h0;refine eg0 (eg2 rfl) (eg0 (eg0 (ej2 fun t ht=>?_) (ej3 _ _ (eg2 rfl))) (ej3 _ _ (eg2 rfl)));obtain⟨x,hx,rfl⟩:=ey6.1 ht;have hx:=eh7 x.e (ej7 _ _ (di0 h0).1 x hx);unfold odT
  cases x.dc with
  |true=>exact eg0 hx (eg2 rfl)
  |false=>exact hx
 |false=>
  rw[o10,cond_false]at h0;have:=ej8 (di0 h0).1;exact eg0 (eg0 (eg0 (eg2 rfl) (eh7 _ this.1)) (eg2 rfl)) (eh0 this.2)
theorem ek0{l:List UInt8}(h:nnQ l):l.count 10=0:=List.count_eq_zero.2 fun hm=>h 10 hm rfl
theorem ek1(p:Pl):∀d,(df9 p).2=0→(plT d p).count 10=szP p:=by
 refine dd4 (P:=fun p=>∀d,(df9 p).2=0→(plT d p).count 10=szP p) (fun b ks ih d h=>?_) p;obtain⟨h1,h2,-⟩:=dg8 h;rw[h2]at h
 have key:∀l:List Pl,(∀x∈l,∀d,(plT d x).count 10=szP x)→(ej1 d l).count 10=dg2 l:=by
  intro l
  induction l with
  |nil=>intro _;rfl
  |cons a r ihr=>
   intro hl;rw[ej1,List.count_append,hl a Oc,ihr fun x hx=>hl x (by simp[hx]),dg2]
 rw[plT,szP,List.count_append,List.count_append,List.count_append,key ks fun x hx d=>ih x hx d (h1 x hx),ek0 (nn_ln h),List.count_replicate];simp;omega
end Go.Proofs.YtndgolmgaenlfaaGreatDoor
namespace Go.Proofs.YtndgolmgaenlfaaGreatDoor
set_option maxRecDepth 4000
open Go Go.Abs Go.Val Go.RowKit Go.Proofs.Tryz
theorem ek2:∀e:Ex,Fit (bu5 e)→alE (fun e=>inR .i64 e.v.n) e:=by
 refine bv4 (P:=fun e=>Fit (bu5 e)→alE (fun e=>inR .i64 e.v.n) e) fun op v nm ds ks ih h=>?_
 obtain⟨-,h2,-,-,h5⟩:=bv2 h;exact⟨(bn4 h2).2.1,cm6 fun x hx=>ih x hx (h5 x hx)⟩
theorem ek3{e:Ex}(h:ci3 e=0):alE okN e:=by
 unfold ci3 at h
 cases g1:decide (dp e>24)with
 |true=>rw[g1]at h;simp at h
 |false=>
  rw[g1]at h
  cases g2:decide (nd e>300)with
  |true=>rw[g2]at h;simp at h
  |false=>rw[g2]at h;exact cn0 e false h
theorem ek4{s:ByteArray}(h:ch2 s=true):s.size≤20:=by
 unfold ch2 bv6 at h;simp only[ey9,decide_eq_true_eq]at h;exact h.1.2.1
theorem ek5{s:ByteArray}(h:s0B s=true):s.size=0:=by
 rw[em_s0,ec8,ec5]at h;exact of_decide_eq_true h
theorem ek6{s:ByteArray}(h:ck2 s=true):s.size≤20:=by
 unfold ck2 at h;rcases Bool.or_eq_true_iff.1 h with h|h
 ·have:=ek5 h;omega
 ·exact ek4 h
def cE(e:Ex):List D:=[.int e.op,.int e.v.k,.int e.v.n,.int e.v.d,.str e.v.s,.sl (kids e.v),.str e.nm,.bool e.ds,.sl (bu3 e)]
theorem ek7{l:List D}{e:Ex}(h:Fit (.agg l))(hm:∀c∈cE e,c∈l):Fit (bu5 e):=Fit.agg _ fun c hc=>h.aggs c (hm c hc)
theorem ek8{p:PP}(h:Fit (ci5 p)):Fit (bu5 p.e):=ek7 h fun c hc=>fe2 _ hc
theorem ek9{l:List PP}(h:Fit (.sl (l.map ci5))):∀p∈l,Fit (bu5 p.e):=fun p hp=>ek8 ((co0 h).2 p hp)
theorem el0{n:NP}(h:Fit (ci6 n)):∀p∈n.ps,Fit (bu5 p.e):=ek9 (h.aggs _ Oc)
theorem el1{n:EP}(h:Fit (ci7 n)):∀p∈n.ps,Fit (bu5 p.e):=ek9 (h.aggs _ Oc)
structure FxA(p:PA):Prop where
 n:∀n∈p.ns,∀q∈n.ps,Fit (bu5 q.e)
 e:∀n∈p.es,∀q∈n.ps,Fit (bu5 q.e)
theorem el2{p:PA}(h:Fit (ci8 p)):FxA p:=
 ⟨fun n hn=>el0 ((co0 (h.aggs (.sl (p.ns.map ci6)) Oc)).2 n hn),fun n hn=>el1 ((co0 (h.aggs (.sl (p.es.map ci7)) Oc)).2 n hn)⟩
theorem el3{x:IT}(h:Fit (ci9 x)):Fit (bu5 x.e):=ek7 h fun c hc=>by
 simp only[cE,ey2,fe9,or_false]at hc ⊢;rcases hc with h|h|h|h|h|h|h|h|h<;>simp[h]
theorem el4{x:SK}(h:Fit (cj0 x)):Fit (bu5 x.e):=ek7 h fun c hc=>by
 simp only[cE,ey2,fe9,or_false]at hc ⊢;rcases hc with h|h|h|h|h|h|h|h|h<;>simp[h]
theorem el5{x:SIt}(h:Fit (cj1 x)):Fit (bu5 x.e):=ek7 h fun c hc=>by
 simp only[cE,ey2,fe9,or_false]at hc ⊢;rcases hc with h|h|h|h|h|h|h|h|h<;>simp[h]
structure FxC(c:CL):Prop where
 p:∀p∈c.ps,FxA p
 w:∀e∈c.wh,Fit (bu5 e)
 e:Fit (bu5 c.e)
 i:∀x∈c.it,Fit (bu5 x.e)
 o:∀x∈c.od,Fit (bu5 x.e)
 s:∀x∈c.st,Fit (bu5 x.e)
theorem el6{c:CL}(h:Fit (cj2 c)):FxC c:=by
 refine⟨fun p hp=>el2 ((co0 (h.aggs (.sl (c.ps.map ci8)) Oc)).2 p hp),fun e he=>?_,ek7 h fun x hc=>?_,fun x hx=>el3 ((co0 (h.aggs (.sl (c.it.map ci9)) Oc)).2 x hx),fun x hx=>el4 ((co0 (h.aggs (.sl (c.od.map cj0)) Oc)).2 x hx),fun x hx=>el5 ((co0 (h.aggs (.sl (c.st.map cj1)) Oc)).2 x hx)⟩
 ·exact(bv3 (h.aggs (.sl (bu4 c.wh)) Oc)).2 e he
 ·simp only[cE,ey2,fe9,or_false]at hc ⊢;rcases hc with h|h|h|h|h|h|h|h|h<;>simp[h]
theorem el7:∀(ns:List NP) (es:List EP),∀n∈ns,ptN n∈ck1 ns es
 |[],_,n,h=>by simp at h
 |a::r,[],n,h=>by
  rw[ck1];rcases ey2.1 h with rfl|h
  ·exact fh1
  ·exact fe2 _ (el7 r [] n h)
 |a::r,e::q,n,h=>by
  rw[ck1];rcases ey2.1 h with rfl|h
  ·exact fh1
  ·exact fe2 _ (fe2 _ (el7 r q n h))
theorem el8:∀(ns:List NP) (es:List EP),es.length≤ns.length→∀e∈es,ptE e∈ck1 ns es
 |_,[],_,e,h=>by simp at h
 |[],a::q,hl,e,h=>by simp at hl
 |a::r,b::q,hl,e,h=>by
  rw[ck1];rcases ey2.1 h with rfl|h
  ·exact fe2 _ fh1
  ·exact fe2 _ (fe2 _ (el8 r q (by simpa using hl) e h))
theorem el9:∀{l:List Ex},ck5 l=0→∀e∈l,ci3 e=0
 |[],_,e,h=>by simp at h
 |a::r,h,e,he=>by
  rw[ck5]at h
  cases hz:ci3 a !=0 with
  |true=>rw[hz]at h;simp at hz;exact absurd h hz
  |false=>
   rw[hz]at h;rcases ey2.1 he with rfl|he
   ·simpa using hz
   ·exact el9 h e he
theorem em0{p:PA}{cr:Bool}(h:ck7 p cr=0):cj7 p=false∧p.ns.length=p.es.length+1∧(∀e∈p.es,cj8 e=true)∧ck2 p.vr=true∧(∀x∈ck1 p.ns p.es,ck3 x=false)∧∀x∈ck1 p.ns p.es,∀q∈x.ps,ci3 q.e=0:=by
 unfold ck7 at h
 cases c1:cj7 p with
 |true=>rw[c1]at h;simp at h
 |false=>
  rw[c1,cond_false]at h
  cases c2:(p.ns.length !=p.es.length+1||p.es.any fun e=> !cj8 e)with
  |true=>rw[c2]at h;simp at h
  |false=>
   rw[c2,cond_false]at h
   cases c3:(!(ck2 p.vr)||(ck1 p.ns p.es).any ck3)with
   |true=>rw[c3]at h;simp at h
   |false=>
    rw[c3,cond_false]at h
    cases c4:(ck1 p.ns p.es).any ck4 with
    |true=>rw[c4]at h;simp at h
    |false=>
     rw[c4,cond_false]at h
     cases c5:ck5 (ck6 (ck1 p.ns p.es)) !=0 with
     |true=>rw[c5,cond_true]at h;simp at c5;exact absurd h c5
     |false=>
      simp only[bne_eq_false_iff_eq]at c5;rw[fa9]at c2 c3;refine⟨rfl,by simpa using c2.1,fun e he=>?_,by simpa using c3.1,fun x hx=>?_,fun x hx q hq=>el9 c5 _ (dj3 hx hq)⟩
      ·have:=fc2.1 c2.2 e he;simpa using this
      ·have:=fc2.1 c3.2 x hx;simpa using this
theorem em1:∀{l:List Int},cl3 l=0→∀e∈l,e=0
 |[],_,e,h=>by simp at h
 |a::r,h,e,he=>by
  rw[cl3]at h
  cases hz:a !=0 with
  |true=>rw[hz]at h;simp at hz;exact absurd h hz
  |false=>
   rw[hz]at h;rcases ey2.1 he with rfl|he
   ·simpa using hz
   ·exact em1 h e he
attribute [local irreducible] Ev EvO EvS au7 an1 RGo SGo go
theorem em2{a b:ByteArray}(h:a.data.toList=b.data.toList):a=b:=ByteArray.ext (Array.toList_inj.1 h)
theorem em3{α:Type}{f:α→List UInt8}{l:List α}{i:Nat}{x:α}(h:l[i]? =some x):by3 ((l.take (i+1)).map f)=by3 ((l.take i).map f)++ [.str (bs (f x))]:=by
 rw[fc0,h];simp[by3]
structure SDx{α:Type}(l:List α) where
 i:Nat
 hi:i≤l.length
theorem em4(xs:List (List UInt8))(sep:List UInt8)(hN:xs.length≤1000000)(hlen:(Lib.join xs sep).length≤140737488355328):Ev E 84 [.sl (by3 xs),.str (bs sep)] (.d (.str (bs (Lib.join xs sep)))):=by
 have e1:(xs.map bs).map D.str=by3 xs:=by simp[by3]
 have e2:(xs.map bs).map (·.data.toList)=xs:=by
  rw[List.map_map]
  conv=>rhs;rw[←List.map_id xs]
  exact List.map_congr_left fun x _=>bw9 x
 have hj:=by2 (xs.map bs) (bs sep) Og (by rw[e2,bw9];omega);rw[e1,e2,bw9]at hj;exact hj
theorem em5{e:Ex}(h:TxX e):Ev E 231 [bu5 e] (.d (.str (bs (txE e)))):=cn7 e h.1 (by have:=h.2;omega)
def pbT(l:List PP)(b:Bool):List UInt8:=bif b&& !(l.length==0)then [32]++prT l else prT l
theorem bs_pp(x:PP):bs (ppT x)=x.key++⟨#[58,32]⟩++bs (txE x.e):=by
 apply em2;simp[bs,bl,ppT]
set_option maxHeartbeats 1000000 in
theorem em6(l:List PP)(b:Bool)(h:TxP l):Ev E 332 [.sl (l.map ci5),.bool b] (.d (.str (bs (pbT l b)))):=by
 have hle:(l.map ci5).length=l.length:=Oc
 have hn:=h.n
 cases hl:l.length==0 with
 |true=>
  have e:bs (pbT l b)=⟨#[]⟩:=by unfold pbT prT;rw[hl];cases b<;>rfl
  have g0:(((l.map ci5).length:Int)==0)=true:=by rw[hle];simpa using hl
  rw[e];refine ye2 func332 ntmps332 fun _ _ _=>?_
  exact Ok
 |false=>
  have g0:(((l.map ci5).length:Int)==0)=false:=by rw[hle];simpa using hl
  have hj:=em4 (l.map ppT) [44,32] (by have:=h.n;rw[ey4];omega) (by have:=ed2 h;omega);have zj:(bs (Lib.join (l.map ppT) [44,32])).size≤600036000:=by rw[bw8];exact ed2 h
  have e:bs (pbT l b)=bif b then⟨#[32]⟩++(⟨#[123]⟩++bs (Lib.join (l.map ppT) [44,32])++⟨#[125]⟩)else⟨#[123]⟩++bs (Lib.join (l.map ppT) [44,32])++⟨#[125]⟩:=by
   unfold pbT prT prJ;rw[hl]
   cases b<;>(apply em2;simp[bs])
  have y1:(⟨#[32]⟩:ByteArray).size=1:=rfl;have y2:(⟨#[123]⟩:ByteArray).size=1:=rfl;have y3:(⟨#[125]⟩:ByteArray).size=1:=rfl;have y4:(⟨#[58,32]⟩:ByteArray).size=2:=rfl;rw[e];refine ye2 func332 ntmps332 fun _ _ _=>?_
  repeat'(refine yz ?_)
  refine ac7 (α:=SDx l) (fun p=>⟨[(5,bf7 0 (by3 ((l.take p.i).map ppT))),(1,.d (.bool b)),(12,.d (.sl (l.map ci5))),(13,.d (.int (l.map ci5).length)),(14,.d (.int p.i))],aw6 9 1 (by3 ((l.take p.i).map ppT))⟩) (fun p=>l.length-p.i) ⟨0,by omega⟩ (zle 0) ?_;rintro⟨i,hi⟩;dsimp only;have hol:(by3 ((l.take i).map ppT)).length≤1000000:=by have:=h.n;simp[by3];omega
  rcases ex7 i l.length with hlt|hge
  ·have g1:decide ((i:Int)<((l.map ci5).length:Int))=true:=by rw[hle];simpa using hlt
   have hx0:=ex6 hlt;generalize l[i]=x at hx0;have hx:=cn9 (f:=ci5) hx0;have hm:=ey0 hx0;have ht:=em5 (h.e x hm);have zt:(bs (txE x.e)).size≤400000:=by rw[bw8];exact ed1 (h.e x hm)
   have zk:=h.k x hm;have hnx:=em3 (f:=ppT) hx0;rw[bs_pp]at hnx;generalize by3 ((l.take i).map ppT)=o at*
   match o,hol with
   |[],hol=>
    dsimp only[bf7,aw6]
    repeat'(first|refine yq 7 [9] ?_|refine yf 7 0 9 ?_|refine yf 7 10 1 ?_|refine rgN ?_|refine yz ?_|refine yi (ci5 x) hx ?_|refine yp bp7 ht ?_|refine rgS (id:=7) (i:=9) rfl rfl rfl rfl (⟨by simp,fun d hd=>by(obtain rfl:=ez3.1 hd;rfl),by(show(0+1)*16≤140737488355328;omega),by(show 0+1≤9223372036854775807;omega)⟩) Oj ?_)
    refine ac1 ?_;refine⟨⟨i+1,by omega⟩,by dsimp only;omega,?_⟩;dsimp only;rw[hnx];exact(bg8 [1])
   |a::q,hol=>
    dsimp only[bf7,aw6]
    repeat'(first|refine yq 7 [9] ?_|refine yf 7 0 9 ?_|refine yf 7 10 1 ?_|refine rgN ?_|refine yz ?_|refine yi (ci5 x) hx ?_|refine yp bp7 ht ?_|refine rgS (id:=7) (i:=9) rfl rfl rfl rfl (⟨by simp,fun d hd=>by(obtain rfl:=ez3.1 hd;rfl),by(show((a::q).length+1)*16≤140737488355328;omega),by(show(a::q).length+1≤9223372036854775807;omega)⟩) Oj ?_)
    refine ac1 ?_;refine⟨⟨i+1,by omega⟩,by dsimp only;omega,?_⟩;dsimp only;rw[hnx];exact(bg8 [2])
  ·have g1:decide ((i:Int)<((l.map ci5).length:Int))=false:=by rw[hle];simp;omega
   rw[ez9 hge];generalize by3 (l.map ppT)=o at*
   cases b with
   |true=>
    match o,hj with
    |[],hj=>
     dsimp only[bf7,aw6]
     repeat'(first|refine yz ?_|refine yp b84 hj ?_|exact zD)
    |a::q,hj=>
     dsimp only[bf7,aw6];refine qA ?_;refine au1 0 rfl ?_
     repeat'(first|refine yz ?_|refine yp b84 hj ?_|exact zD)
   |false=>
    match o,hj with
    |[],hj=>
     dsimp only[bf7,aw6]
     repeat'(first|refine yz ?_|refine yp b84 hj ?_|exact zD)
    |a::q,hj=>
     dsimp only[bf7,aw6];refine qA ?_;refine au1 0 rfl ?_
     repeat'(first|refine yz ?_|refine yp b84 hj ?_|exact zD)
end Go.Proofs.YtndgolmgaenlfaaGreatDoor
namespace Go.Abs
theorem em7{C:Cx}{r:List It}{s:St}{Q:Exit→St→Prop}{α:Type}(t:Nat){a b:Code}{c:Code}(S:α→St)(b0:α)(h1:go C (.code (.cond (.tmp t) a b):: .stop (fun s'=>∃b,b=b0∧Le C s' (S b)):: .code c::r) s Q)
  (h2:go C (.code c::r) (S b0) Q):go C (.code (.cond (.tmp t) a b):: .code c::r) s Q:=by
 refine bd0 _ h1 ?_;rintro s' ⟨b,rfl,hl⟩;exact ac6 hl h2
end Go.Abs
namespace Go.Proofs.YtndgolmgaenlfaaGreatDoor
set_option maxRecDepth 4000
open Go Go.Abs Go.Val Go.RowKit Go.Proofs.Tryz
attribute [local irreducible] go SGo an1 Ev au7 EvO EvS RGo
theorem em8{L:List (List UInt8)}{i:Nat}{y:List UInt8}(h:L[i]? =some y):(L.take (i+1)).flatten=(L.take i).flatten++y:=by
 rw[fc0,h];simp
theorem em9(l:List PP):(prT l).isEmpty=(l.length==0):=by
 unfold prT prJ
 cases l.length==0<;>simp
theorem en0(S:List UInt8)(l:List PP):S++pbT l (!S.isEmpty)=spT S (prT l):=by
 unfold spT pbT;rw[em9]
 cases hS:S.isEmpty
 ·cases hl:l.length==0
  ·simp
  ·simp
 ·simp
theorem en1{l:List PP}(h:TxP l)(b:Bool):(pbT l b).length≤600036083:=by
 have:=ed3 h;unfold pbT
 cases b&& !(l.length==0)<;>simp only[cond_true,cond_false,ex8,ex9,ey5]<;>omega
set_option maxHeartbeats 1000000 in
theorem en2(n:NP)(h:TxN n):Ev E 287 [ci6 n] (.d (.str (bs (ndT n)))):=by
 obtain⟨vr,lb,ps⟩:=n;have hle:(lb.map D.str).length=lb.length:=Oc
 have hlv:=h.v;have hln:=h.n;have hlb:=h.l;have hns:=ed5 h;have hp:=em6 ps (!((bs (nsT ⟨vr,lb,ps⟩)).toList==(⟨#[]⟩:ByteArray).toList)) h.p;have zp:=en1 h.p (!((bs (nsT ⟨vr,lb,ps⟩)).toList==(⟨#[]⟩:ByteArray).toList));dsimp only at hlv hln hlb hp zp;have y1:(⟨#[58]⟩:ByteArray).size=1:=rfl;have y2:(⟨#[40]⟩:ByteArray).size=1:=rfl;have y3:(⟨#[41]⟩:ByteArray).size=1:=rfl;have e0:bs (bl vr++((lbL lb).take 0).flatten)=vr:=by rw[fc7];apply em2;simp[bs,bl]
 refine ye1 func287 ntmps287 fun _ _ _=>?_
 repeat'(refine yz ?_)
 refine ac7 (α:=SDx lb) (fun p=>⟨[(3,.d (.str (bs (bl vr++((lbL lb).take p.i).flatten)))),(1,.ptr 0 0),(9,.d (.sl (lb.map .str))),(10,.d (.int (lb.map D.str).length)),(11,.d (.int p.i))],[oNP ⟨vr,lb,ps⟩]⟩) (fun p=>lb.length-p.i) ⟨0,by omega⟩ (by dsimp only;rw[e0];exact(zle 1)) ?_;rintro⟨i,hi⟩;dsimp only;rcases ex7 i lb.length with hlt|hge
 ·have g1:decide ((i:Int)<((lb.map D.str).length:Int))=true:=by rw[hle];simpa using hlt
  have hx0:=ex6 hlt;generalize lb[i]=x at hx0;have hx:=cn9 (f:=D.str) hx0;have zx:=hlb x (ey0 hx0);have hfl:=em8 (L:=lbL lb) (i:=i) (y:=[58]++bl x) (by rw[lbL,ey3,hx0];rfl)
  have zs:(bs (bl vr++((lbL lb).take i).flatten)).size≤31520:=by
   have:=ee8 (lbL lb) i;rw[bw8];simp only[nsT,ex8]at hns ⊢;omega
  have e1:bs (bl vr++((lbL lb).take (i+1)).flatten)=bs (bl vr++((lbL lb).take i).flatten)++(⟨#[58]⟩++x):=by
   rw[hfl];apply em2;simp[bs,bl]
  repeat'(first|refine yz ?_|refine yi (.str x) hx ?_)
  refine ac1 ?_;rw[←e1];exact⟨⟨i+1,by omega⟩,by dsimp only;omega,(zle 1)⟩
 ·have g1:decide ((i:Int)<((lb.map D.str).length:Int))=false:=by rw[hle];simp;omega
  have e1:bl vr++((lbL lb).take i).flatten=nsT ⟨vr,lb,ps⟩:=by rw[ez9 (by simp[lbL];omega)];rfl
  have e2:bs (ndT ⟨vr,lb,ps⟩)=⟨#[40]⟩++bs (nsT ⟨vr,lb,ps⟩)++bs (pbT ps (!((bs (nsT ⟨vr,lb,ps⟩)).toList==(⟨#[]⟩:ByteArray).toList)))++⟨#[41]⟩:=by
   rw[ec7];unfold ndT;rw[←en0];apply em2;simp[bs]
  rw[e1,e2];rw[←bw8]at hns zp
  repeat'(first|refine yz ?_|refine yp b332 hp ?_|exact zD)
theorem en3(m:Int):Ev E 331 [.int m] (.d (.str (bs (mwT m)))):=by
 refine ye1 func331 ntmps331 fun _ _ _=>?_
 repeat'(first|refine yz ?_|(refine qV rfl ?_ ?_<;>intro _))
 all_goals(refine congrArg D.str ?_;simp_all [mwT,fc3];rfl)
theorem en4(n:Int):Ev E 151 [.int n] (.d (.str (bs (Lib.itoa n)))):=bs9 n
def tyS(e:EP):List UInt8:=bl e.vr++tyT e.ty
def spS(s:List UInt8):List UInt8:=bif s.isEmpty then []else s++ [32]
def moS(e:EP):List UInt8:=spT (tyS e) (moT e)
theorem tys_le{e:EP}(h:TxG e):(tyS e).length≤33021:=by
 have:=ed8 h.n h.l;have:=h.v;have:=ec5 e.vr;unfold tyS;rw[ex8];omega
theorem en5{e:EP}(h:TxG e):(moS e).length≤33200:=by
 have:=tys_le h;have:=ee1 h;have:=ed4 (tyS e) (moT e);unfold moS;omega
theorem en6(e:EP)(h:(e.mode==0)=false):(moT e).isEmpty=false:=by
 unfold moT;rw[h]
 cases mwT e.mode<;>simp
theorem en7(s t:List UInt8)(h:t.isEmpty=false):spS s++t=spT s t:=by
 unfold spS spT;rw[h]
 cases hs:s.isEmpty with
 |true=>
  have:s=[]:=by cases s<;>simp_all
  subst this;rfl
 |false=>simp
set_option maxHeartbeats 4000000 in
theorem en8(e:EP)(h:TxG e):Ev E 286 [ci7 e] (.d (.str (bs (edT e)))):=by
 obtain⟨S1,hS1⟩:∃s,tyS e=s:=⟨_,rfl⟩;obtain⟨S2,hS2⟩:∃s,moS e=s:=⟨_,rfl⟩;obtain⟨S3,hS3⟩:∃s,esT e=s:=⟨_,rfl⟩;have z1:=tys_le h;have z2:=en5 h;have z3:=ee2 h;have zj:=ed7 h.n h.l;have zv:=h.v;have j1:=em4 (e.ty.map bl) [124] (by have:=h.n;rw[ey4];omega) Oa
 have ej:by3 (e.ty.map bl)=e.ty.map D.str:=by
  simp only[by3,List.map_map];refine List.map_congr_left fun s _=>?_
  show D.str (bs (bl s))=D.str s;rw[ec6]
 rw[ej]at j1;have hp:=em6 e.ps (!((bs S2).toList==(⟨#[]⟩:ByteArray).toList)) h.p;have zp:=en1 h.p (!((bs S2).toList==(⟨#[]⟩:ByteArray).toList));have hm:=en3 e.mode;have zm:=ed9 e.mode;have hmn:=h.mn;have hmx:=h.mx;have d1:=en4 e.mn;have d2:=en4 e.mx;have q1:=ee0 (n:=e.mn) Oa;have q2:=ee0 (n:=e.mx) Oa
 have l3:(!((bs S1).toList==(⟨#[]⟩:ByteArray).toList))=true→bs S1++⟨#[32]⟩=bs (spS S1):=by
  rw[ec7];intro he;unfold spS;rw[Bool.not_eq_true']at he;rw[he];apply em2;simp[bs]
 have l4:(!((bs S1).toList==(⟨#[]⟩:ByteArray).toList))=false→bs S1=bs (spS S1):=by
  rw[ec7];intro he;unfold spS;rw[Bool.not_eq_false']at he;rw[he];have:S1=[]:=by cases S1<;>simp_all
  rw[this];rfl
 have l5:(!(e.mode==0))=true→bs (spS S1)++(bs (mwT e.mode)++⟨#[42]⟩++bs (Lib.itoa e.mn)++⟨#[46,46]⟩++bs (Lib.itoa e.mx))=bs S2:=by
  intro he;rw[Bool.not_eq_true']at he;rw[←hS2,moS,←en7 _ _ (en6 e he),hS1];unfold moT;rw[he];apply em2;simp[bs]
 have l6:(!(e.mode==0))=false→bs S1=bs S2:=by
  intro he;rw[Bool.not_eq_false']at he;rw[←hS2,moS,hS1];unfold moT spT;rw[he];simp
 have l7:bs S2++bs (pbT e.ps (!((bs S2).toList==(⟨#[]⟩:ByteArray).toList)))=bs S3:=by
  rw[ec7,bw6,en0,←hS3,←hS2];rfl
 have l8:(e.dir==1)=true→⟨#[45,91]⟩++bs S3++⟨#[93,45,62]⟩=bs (edT e):=by
  intro he;unfold edT;rw[he,hS3];apply em2;simp[bs]
 have l9:(e.dir==1)=false→(e.dir==2)=true→⟨#[60,45,91]⟩++bs S3++⟨#[93,45]⟩=bs (edT e):=by
  intro he he2;unfold edT;rw[he,he2,hS3];apply em2;simp[bs]
 have l10:(e.dir==1)=false→(e.dir==2)=false→⟨#[45,91]⟩++bs S3++⟨#[93,45]⟩=bs (edT e):=by
  intro he he2;unfold edT;rw[he,he2,hS3];apply em2;simp[bs]
 have l1:decide (((e.ty.map D.str).length:Int)>0)=true→e.vr++(⟨#[58]⟩++bs (Lib.join (e.ty.map bl) [124]))=bs S1:=by
  intro he;have:(e.ty.length==0)=false:=by simp at he ⊢;intro h0;rw[h0]at he;simp at he
  rw[←hS1];unfold tyS tyT;rw[this];apply em2;simp[bs,bl]
 have l2:decide (((e.ty.map D.str).length:Int)>0)=false→e.vr=bs S1:=by
  intro he;have:(e.ty.length==0)=true:=by simp at he ⊢;exact he
  rw[←hS1];unfold tyS tyT;rw[this];apply em2;simp[bs,bl]
 rw[hS1]at z1;rw[hS2]at z2;rw[hS3]at z3;rw[←bw8]at z1 z2 z3 zj zp zm q1 q2
 have z4:(bs (spS S1)).size≤33030:=by
  have:(spS S1).length≤S1.length+1:=by unfold spS;cases S1.isEmpty<;>simp
  rw[bw8]at z1 ⊢;omega
 generalize bs (edT e)=R at*;obtain⟨vr,ty,dir,mode,mn,mx,ps⟩:=e;dsimp only at*;have y1:(⟨#[58]⟩:ByteArray).size=1:=rfl;have y2:(⟨#[32]⟩:ByteArray).size=1:=rfl;have y3:(⟨#[42]⟩:ByteArray).size=1:=rfl;have y4:(⟨#[46,46]⟩:ByteArray).size=2:=rfl;have y5:(⟨#[45,91]⟩:ByteArray).size=2:=rfl;have y6:(⟨#[93,45,62]⟩:ByteArray).size=3:=rfl;have y7:(⟨#[60,45,91]⟩:ByteArray).size=3:=rfl;have y8:(⟨#[93,45]⟩:ByteArray).size=2:=rfl;clear hS1 hS2 hS3 ej h hmn hmx;generalize bs (Lib.join (ty.map bl) [124])=J at*;generalize bs (pbT ps (!((bs S2).toList==(⟨#[]⟩:ByteArray).toList)))=PB at*;generalize bs (mwT mode)=MW at*;generalize bs (Lib.itoa mn)=I1 at*;generalize bs (Lib.itoa mx)=I2 at*;generalize bs (spS S1)=T1 at*;generalize bs S1=B1 at*;generalize bs S2=B2 at*;generalize bs S3=B3 at*;refine ye1 func286 ntmps286 fun _ _ _=>?_
 repeat'(first|(refine em7 9 (fun b=>⟨[(3,.d (.str b)),(1,.ptr 0 0)],[oEP ⟨vr,ty,dir,mode,mn,mx,ps⟩]⟩) B1 ?_ ?_)|(refine em7 18 (fun b=>⟨[(3,.d (.str b)),(1,.ptr 0 0)],[oEP ⟨vr,ty,dir,mode,mn,mx,ps⟩]⟩) B2 ?_ ?_)|(refine em7 20 (fun b=>⟨[(3,.d (.str b)),(1,.ptr 0 0)],[oEP ⟨vr,ty,dir,mode,mn,mx,ps⟩]⟩) T1 ?_ ?_)|refine bd1 8 (fun b=>⟨[(3,.d (.str b)),(1,.ptr 0 0)],[oEP ⟨vr,ty,dir,mode,mn,mx,ps⟩]⟩) (B3) ?_ ?_|refine yz ?_|refine yp b84 j1 ?_|refine yp b331 hm ?_|refine qP (d:=30) rfl rfl rfl rfl rfl rfl bo9 (d1) ?_|refine qP (d:=35) rfl rfl rfl rfl rfl rfl bo9 (d2) ?_|refine yp b332 hp ?_|refine ac1 ⟨_,?_,(zle 1)⟩|(refine qV rfl ?_ ?_<;>intro _))
 all_goals first|exact l1 Of|exact l2 Of|exact l3 Of|exact l4 Of|exact l5 Of|exact l6 Of|exact l7|exact congrArg D.str (l8 Of)|exact congrArg D.str (l9 Of Of)|exact congrArg D.str (l10 Of Of)|skip
theorem pv_bs(p:PA):bs (pvT p)=bif p.vr.toList==(⟨#[]⟩:ByteArray).toList then⟨#[]⟩else p.vr++⟨#[32,61,32]⟩:=by
 unfold pvT s0B isS
 cases p.vr.toList==(⟨#[]⟩:ByteArray).toList
 ·apply em2;simp[bs,bl]
 ·rfl
theorem en9{p:PA}(h:p.vr.size≤20):(pvT p).length≤23:=by
 have:=ec5 p.vr;unfold pvT
 cases s0B p.vr<;>simp only[cond_true,cond_false,ex8,ex9,ey5]<;>omega
theorem pat0(p:PA):bs (pvT p++((paL p).take 0).flatten)=bs (pvT p):=by rw[fc7];simp
theorem eo0{p:PA}{i:Nat}(h:(paL p).length≤i):bs (pvT p++((paL p).take i).flatten)=bs (paT p):=by rw[ez9 h];rfl
theorem pat_0{p:PA}{n:NP}(h:p.ns[0]? =some n):bs (pvT p++((paL p).take 0).flatten)++bs (ndT n)=bs (pvT p++((paL p).take 1).flatten):=by
 rw[em8 (ee4 (a:=[]) rfl h)];apply em2;simp[bs]
theorem pat_s{p:PA}{i:Nat}{n:NP}{e:EP}(h:p.ns[i]? =some n)(hi:0<i)(he:p.es[i-1]? =some e):bs (pvT p++((paL p).take i).flatten)++bs (edT e)++bs (ndT n)=bs (pvT p++((paL p).take (i+1)).flatten):=by
 have h1:([]::p.es.map edT)[i]? =some (edT e):=by
  obtain⟨j,rfl⟩:∃j,i=j+1:=⟨i-1,by omega⟩;rw[fh6,ey3];rw[Nat.add_sub_cancel]at he;rw[he];rfl
 rw[em8 (ee4 h1 h)];apply em2;simp[bs]
theorem eo1{p:PA}(h:TxA p)(i:Nat):(bs (pvT p++((paL p).take i).flatten)).size≤8400967000:=by
 have h1:=ee8 (paL p) i;have h2:=ee9 h;have h3:=en9 h.v;rw[bw8,ex8];omega
set_option maxHeartbeats 4000000 in
theorem eo2(l:List PA)(hn:l.length≤8)(h:∀p∈l,TxA p):Ev E 229 [.sl (l.map ci8)] (.d (.str (bs (Lib.join (l.map paT) [44,32])))):=by
 have hle:(l.map ci8).length=l.length:=Oc
 have hj:=em4 (l.map paT) [44,32] (by rw[ey4];omega) (by have:=ef1 hn h;omega);have y1:(⟨#[32,61,32]⟩:ByteArray).size=3:=rfl;refine ye1 func229 ntmps229 fun _ _ _=>?_
 repeat'(refine yz ?_)
 refine ac7 (α:=SDx l) (fun p=>⟨[(3,bf7 0 (by3 ((l.take p.i).map paT))),(9,.d (.sl (l.map ci8))),(10,.d (.int (l.map ci8).length)),(11,.d (.int p.i))],aw6 9 1 (by3 ((l.take p.i).map paT))⟩) (fun p=>l.length-p.i) ⟨0,by omega⟩ (zle 0) ?_;rintro⟨i,hi⟩;dsimp only;have hol:(by3 ((l.take i).map paT)).length≤1000000:=by simp[by3];omega
 rcases ex7 i l.length with hlt|hge
 ·have g1:decide ((i:Int)<((l.map ci8).length:Int))=true:=by rw[hle];simpa using hlt
  have hx0:=ex6 hlt;generalize l[i]=x at hx0;have hx:=cn9 (f:=ci8) hx0;have hm:=ey0 hx0;have hT:=h x hm;have hnx:=em3 (f:=paT) hx0;have zpa:=ef0 hT;rw[←bw8]at zpa;generalize by3 ((l.take i).map paT)=o at*;clear hx0;have hpv:=pv_bs x;have hzp:(bs (pvT x)).size≤23:=by rw[bw8];exact en9 hT.v
  have hp0:=pat0 x;have hvr:=hT.v;have hes:=hT.m;have hnn:=hT.n;have hall:=fun j=>eo0 (p:=x) (i:=j)
  have hlen:=ee5 hnn;have hs0:=fun n=>pat_0 (p:=x) (n:=n)
  have hss:=fun j n e=>pat_s (p:=x) (i:=j) (n:=n) (e:=e)
  have hle2:=eo1 hT;have hN:=hT.ns;have hE:=hT.es;obtain⟨vr,ns,es⟩:=x;dsimp only at hpv hvr hes hnn hs0 hss hlen hN hE;have hln:(ns.map ci6).length=ns.length:=Oc
  have hlee:(es.map ci7).length=es.length:=Oc
  have hfin:bs (pvT ⟨vr,ns,es⟩++((paL ⟨vr,ns,es⟩).take ns.length).flatten)=bs (paT ⟨vr,ns,es⟩):=hall _ Oa
  match o,hol with
  |[],hol=>
   dsimp only[bf7,aw6]
   cases hv:vr.toList==(⟨#[]⟩:ByteArray).toList with
   |true=>
    rw[hv]at hpv;simp only[cond_true,cond_false]at hpv;have hv2:(!(vr.toList==(⟨#[]⟩:ByteArray).toList))= !true:=by rw[hv]
    simp only[fd3,fe8]at hv2
    repeat'(first|refine yz ?_|refine yi (ci8 ⟨vr,ns,es⟩) hx ?_)
    refine ac7 (α:=SDx ns) (fun p=>⟨[(3,.nilS),(9,.d (.sl (l.map ci8))),(10,.d (.int (l.map ci8).length)),(11,.d (.int i)),(5,.ptr 0 0),(6,.d (.str (bs (pvT ⟨vr,ns,es⟩++((paL ⟨vr,ns,es⟩).take p.i).flatten)))),(22,.d (.sl (ns.map ci6))),(23,.d (.int (ns.map ci6).length)),(24,.d (.int p.i))],[oPA ⟨vr,ns,es⟩]⟩) (fun p=>ns.length-p.i) ⟨0,by omega⟩ (by dsimp only;rw[hp0,hpv];exact(zle 1)) ?_;rintro⟨j,hj⟩;dsimp only;rcases ex7 j ns.length with hlt2|hge2
    ·have k1:decide ((j:Int)<((ns.map ci6).length:Int))=true:=by rw[hln];simpa using hlt2
     have hy0:=ex6 hlt2;generalize ns[j]=n at hy0;have hy:=cn9 (f:=ci6) hy0;have hTn:=hN n (ey0 hy0);have hnd:=en2 n hTn;have znd:=ed6 hTn;rw[←bw8]at znd;have zs:=hle2 j
     by_cases hj0:j=0
     ·subst hj0;have k2:decide (((0:Nat):Int)>0)=false:=rfl;have e1:=hs0 n hy0
      repeat'(first|refine yz ?_|refine yi (ci6 n) hy ?_|refine yp bq0 hnd ?_)
      refine ac1 ?_;rw[e1];exact⟨⟨1,by omega⟩,by dsimp only;omega,(zle 1)⟩
     ·have k2:decide ((j:Int)>0)=true:=by simp;omega
      have hw0:=ex6 (l:=es) (i:=j-1) Oa;generalize es[j-1]=w at hw0
      have hw:(es.map ci7)[((j:Int) -1).toNat]? =some (ci7 w):=by
       have:=cn9 (f:=ci7) hw0;rw[show((j:Int) -1).toNat=j-1 by omega];rw[fb2]at this;exact this
      have hTe:=hE w (ey0 hw0);have hed:=en8 w hTe;have zed:=ee3 hTe;rw[←bw8]at zed;have e1:=hss j n w hy0 Oa hw0
      repeat'(first|refine yz ?_|refine yi (ci6 n) hy ?_|refine yi (ci7 w) hw ?_|refine yp bq0 hnd ?_|refine yp b286 hed ?_)
      refine ac1 ?_;rw[e1];exact⟨⟨j+1,by omega⟩,by dsimp only;omega,(zle 1)⟩
    ·have k1:decide ((j:Int)<((ns.map ci6).length:Int))=false:=by rw[hln];simp;omega
     obtain rfl:j=ns.length:=Oa
     rw[hfin]
     repeat'(first|refine yz ?_|(refine qS rfl ⟨by simp,fun d hd=>by(obtain rfl:=ez3.1 hd;rfl),by(show(0+1)*16≤140737488355328;omega),by(show 0+1≤9223372036854775807;omega)⟩ ?_))
     refine ac1 ?_;refine⟨⟨i+1,by omega⟩,by dsimp only;omega,?_⟩;dsimp only;rw[hnx];exact(bg8 [1])
   |false=>
    rw[hv]at hpv;simp only[cond_true,cond_false]at hpv;have hv2:(!(vr.toList==(⟨#[]⟩:ByteArray).toList))= !false:=by rw[hv]
    simp only[fd3,fe8]at hv2
    repeat'(first|refine yz ?_|refine yi (ci8 ⟨vr,ns,es⟩) hx ?_)
    refine ac7 (α:=SDx ns) (fun p=>⟨[(3,.nilS),(9,.d (.sl (l.map ci8))),(10,.d (.int (l.map ci8).length)),(11,.d (.int i)),(5,.ptr 0 0),(6,.d (.str (bs (pvT ⟨vr,ns,es⟩++((paL ⟨vr,ns,es⟩).take p.i).flatten)))),(22,.d (.sl (ns.map ci6))),(23,.d (.int (ns.map ci6).length)),(24,.d (.int p.i))],[oPA ⟨vr,ns,es⟩]⟩) (fun p=>ns.length-p.i) ⟨0,by omega⟩ (by dsimp only;rw[hp0,hpv];exact(zle 1)) ?_;rintro⟨j,hj⟩;dsimp only;rcases ex7 j ns.length with hlt2|hge2
    ·have k1:decide ((j:Int)<((ns.map ci6).length:Int))=true:=by rw[hln];simpa using hlt2
     have hy0:=ex6 hlt2;generalize ns[j]=n at hy0;have hy:=cn9 (f:=ci6) hy0;have hTn:=hN n (ey0 hy0);have hnd:=en2 n hTn;have znd:=ed6 hTn;rw[←bw8]at znd;have zs:=hle2 j
     by_cases hj0:j=0
     ·subst hj0;have k2:decide (((0:Nat):Int)>0)=false:=rfl;have e1:=hs0 n hy0
      repeat'(first|refine yz ?_|refine yi (ci6 n) hy ?_|refine yp bq0 hnd ?_)
      refine ac1 ?_;rw[e1];exact⟨⟨1,by omega⟩,by dsimp only;omega,(zle 1)⟩
     ·have k2:decide ((j:Int)>0)=true:=by simp;omega
      have hw0:=ex6 (l:=es) (i:=j-1) Oa;generalize es[j-1]=w at hw0
      have hw:(es.map ci7)[((j:Int) -1).toNat]? =some (ci7 w):=by
       have:=cn9 (f:=ci7) hw0;rw[show((j:Int) -1).toNat=j-1 by omega];rw[fb2]at this;exact this
      have hTe:=hE w (ey0 hw0);have hed:=en8 w hTe;have zed:=ee3 hTe;rw[←bw8]at zed;have e1:=hss j n w hy0 Oa hw0
      repeat'(first|refine yz ?_|refine yi (ci6 n) hy ?_|refine yi (ci7 w) hw ?_|refine yp bq0 hnd ?_|refine yp b286 hed ?_)
      refine ac1 ?_;rw[e1];exact⟨⟨j+1,by omega⟩,by dsimp only;omega,(zle 1)⟩
    ·have k1:decide ((j:Int)<((ns.map ci6).length:Int))=false:=by rw[hln];simp;omega
     obtain rfl:j=ns.length:=Oa
     rw[hfin]
     repeat'(first|refine yz ?_|(refine qS rfl ⟨by simp,fun d hd=>by(obtain rfl:=ez3.1 hd;rfl),by(show(0+1)*16≤140737488355328;omega),by(show 0+1≤9223372036854775807;omega)⟩ ?_))
     refine ac1 ?_;refine⟨⟨i+1,by omega⟩,by dsimp only;omega,?_⟩;dsimp only;rw[hnx];exact(bg8 [1])
  |a::q,hol=>
   dsimp only[bf7,aw6]
   cases hv:vr.toList==(⟨#[]⟩:ByteArray).toList with
   |true=>
    rw[hv]at hpv;simp only[cond_true,cond_false]at hpv;have hv2:(!(vr.toList==(⟨#[]⟩:ByteArray).toList))= !true:=by rw[hv]
    simp only[fd3,fe8]at hv2
    repeat'(first|refine yz ?_|refine yi (ci8 ⟨vr,ns,es⟩) hx ?_)
    refine ac7 (α:=SDx ns) (fun p=>⟨[(3,.own 0),(9,.d (.sl (l.map ci8))),(10,.d (.int (l.map ci8).length)),(11,.d (.int i)),(5,.ptr 1 0),(6,.d (.str (bs (pvT ⟨vr,ns,es⟩++((paL ⟨vr,ns,es⟩).take p.i).flatten)))),(22,.d (.sl (ns.map ci6))),(23,.d (.int (ns.map ci6).length)),(24,.d (.int p.i))],[.row 9 1 (a::q),oPA ⟨vr,ns,es⟩]⟩) (fun p=>ns.length-p.i) ⟨0,by omega⟩ (by dsimp only;rw[hp0,hpv];exact(zle 2)) ?_;rintro⟨j,hj⟩;dsimp only;rcases ex7 j ns.length with hlt2|hge2
    ·have k1:decide ((j:Int)<((ns.map ci6).length:Int))=true:=by rw[hln];simpa using hlt2
     have hy0:=ex6 hlt2;generalize ns[j]=n at hy0;have hy:=cn9 (f:=ci6) hy0;have hTn:=hN n (ey0 hy0);have hnd:=en2 n hTn;have znd:=ed6 hTn;rw[←bw8]at znd;have zs:=hle2 j
     by_cases hj0:j=0
     ·subst hj0;have k2:decide (((0:Nat):Int)>0)=false:=rfl;have e1:=hs0 n hy0
      repeat'(first|refine yz ?_|refine yi (ci6 n) hy ?_|refine yp bq0 hnd ?_)
      refine ac1 ?_;rw[e1];exact⟨⟨1,by omega⟩,by dsimp only;omega,(zle 2)⟩
     ·have k2:decide ((j:Int)>0)=true:=by simp;omega
      have hw0:=ex6 (l:=es) (i:=j-1) Oa;generalize es[j-1]=w at hw0
      have hw:(es.map ci7)[((j:Int) -1).toNat]? =some (ci7 w):=by
       have:=cn9 (f:=ci7) hw0;rw[show((j:Int) -1).toNat=j-1 by omega];rw[fb2]at this;exact this
      have hTe:=hE w (ey0 hw0);have hed:=en8 w hTe;have zed:=ee3 hTe;rw[←bw8]at zed;have e1:=hss j n w hy0 Oa hw0
      repeat'(first|refine yz ?_|refine yi (ci6 n) hy ?_|refine yi (ci7 w) hw ?_|refine yp bq0 hnd ?_|refine yp b286 hed ?_)
      refine ac1 ?_;rw[e1];exact⟨⟨j+1,by omega⟩,by dsimp only;omega,(zle 2)⟩
    ·have k1:decide ((j:Int)<((ns.map ci6).length:Int))=false:=by rw[hln];simp;omega
     obtain rfl:j=ns.length:=Oa
     rw[hfin]
     repeat'(first|refine yz ?_|(refine qS rfl ⟨by simp,fun d hd=>by(obtain rfl:=ez3.1 hd;rfl),by(show((a::q).length+1)*16≤140737488355328;omega),by(show(a::q).length+1≤9223372036854775807;omega)⟩ ?_))
     refine ac1 ?_;refine⟨⟨i+1,by omega⟩,by dsimp only;omega,?_⟩;dsimp only;rw[hnx];exact(bg8 [2])
   |false=>
    rw[hv]at hpv;simp only[cond_true,cond_false]at hpv;have hv2:(!(vr.toList==(⟨#[]⟩:ByteArray).toList))= !false:=by rw[hv]
    simp only[fd3,fe8]at hv2
    repeat'(first|refine yz ?_|refine yi (ci8 ⟨vr,ns,es⟩) hx ?_)
    refine ac7 (α:=SDx ns) (fun p=>⟨[(3,.own 0),(9,.d (.sl (l.map ci8))),(10,.d (.int (l.map ci8).length)),(11,.d (.int i)),(5,.ptr 1 0),(6,.d (.str (bs (pvT ⟨vr,ns,es⟩++((paL ⟨vr,ns,es⟩).take p.i).flatten)))),(22,.d (.sl (ns.map ci6))),(23,.d (.int (ns.map ci6).length)),(24,.d (.int p.i))],[.row 9 1 (a::q),oPA ⟨vr,ns,es⟩]⟩) (fun p=>ns.length-p.i) ⟨0,by omega⟩ (by dsimp only;rw[hp0,hpv];exact(zle 2)) ?_;rintro⟨j,hj⟩;dsimp only;rcases ex7 j ns.length with hlt2|hge2
    ·have k1:decide ((j:Int)<((ns.map ci6).length:Int))=true:=by rw[hln];simpa using hlt2
     have hy0:=ex6 hlt2;generalize ns[j]=n at hy0;have hy:=cn9 (f:=ci6) hy0;have hTn:=hN n (ey0 hy0);have hnd:=en2 n hTn;have znd:=ed6 hTn;rw[←bw8]at znd;have zs:=hle2 j
     by_cases hj0:j=0
     ·subst hj0;have k2:decide (((0:Nat):Int)>0)=false:=rfl;have e1:=hs0 n hy0
      repeat'(first|refine yz ?_|refine yi (ci6 n) hy ?_|refine yp bq0 hnd ?_)
      refine ac1 ?_;rw[e1];exact⟨⟨1,by omega⟩,by dsimp only;omega,(zle 2)⟩
     ·have k2:decide ((j:Int)>0)=true:=by simp;omega
      have hw0:=ex6 (l:=es) (i:=j-1) Oa;generalize es[j-1]=w at hw0
      have hw:(es.map ci7)[((j:Int) -1).toNat]? =some (ci7 w):=by
       have:=cn9 (f:=ci7) hw0;rw[show((j:Int) -1).toNat=j-1 by omega];rw[fb2]at this;exact this
      have hTe:=hE w (ey0 hw0);have hed:=en8 w hTe;have zed:=ee3 hTe;rw[←bw8]at zed;have e1:=hss j n w hy0 Oa hw0
      repeat'(first|refine yz ?_|refine yi (ci6 n) hy ?_|refine yi (ci7 w) hw ?_|refine yp bq0 hnd ?_|refine yp b286 hed ?_)
      refine ac1 ?_;rw[e1];exact⟨⟨j+1,by omega⟩,by dsimp only;omega,(zle 2)⟩
    ·have k1:decide ((j:Int)<((ns.map ci6).length:Int))=false:=by rw[hln];simp;omega
     obtain rfl:j=ns.length:=Oa
     rw[hfin]
     repeat'(first|refine yz ?_|(refine qS rfl ⟨by simp,fun d hd=>by(obtain rfl:=ez3.1 hd;rfl),by(show((a::q).length+1)*16≤140737488355328;omega),by(show(a::q).length+1≤9223372036854775807;omega)⟩ ?_))
     refine ac1 ?_;refine⟨⟨i+1,by omega⟩,by dsimp only;omega,?_⟩;dsimp only;rw[hnx];exact(bg8 [2])
 ·have g1:decide ((i:Int)<((l.map ci8).length:Int))=false:=by rw[hle];simp;omega
  rw[ez9 hge];generalize by3 (l.map paT)=o at*
  match o,hj with
  |[],hj=>
   dsimp only[bf7,aw6]
   repeat'(first|refine yz ?_|refine yp b84 hj ?_|exact zD)
  |a::q,hj=>
   dsimp only[bf7,aw6];refine qA ?_;refine au1 0 rfl ?_
   repeat'(first|refine yz ?_|refine yp b84 hj ?_|exact zD)
theorem wh_bs(x:Ex)(r:List Ex):bs (whT (x::r))=⟨#[32,87,72,69,82,69,32]⟩++bs (txE x):=by apply em2;simp[bs,whT]
theorem eo3(l:List Ex)(h:∀e∈l,TxX e):Ev E 230 [.sl (bu4 l)] (.d (.str (bs (whT l)))):=by
 have y1:(⟨#[32,87,72,69,82,69,32]⟩:ByteArray).size=7:=rfl
 match l,h with
 |[],h=>
  have e:bs (whT [])=⟨#[]⟩:=rfl;have g:(((bu4 []).length:Int)==0)=true:=rfl;rw[e];refine ye1 func230 ntmps230 fun _ _ _=>?_
  exact Ok
 |x::r,h=>
  have hx:(bu4 (x::r))[((0:Nat):Int).toNat]? =some (bu5 x):=rfl;have g:(((bu4 (x::r)).length:Int)==0)=false:=by rw[bv1];simp;omega
  have g1:(bu4 (x::r)).length=r.length+1:=by rw[bv1];rfl
  have ht:=em5 (h x Oc);have zt:=ed1 (h x Oc);rw[←bw8]at zt;rw[wh_bs];generalize bu4 (x::r)=L at*;refine ye1 func230 ntmps230 fun _ _ _=>?_
  repeat'(first|refine yz ?_|refine yi (bu5 x) hx ?_|refine yp bp7 ht ?_|exact zD)
theorem cm1t{c:CL}(h:(c.k==1)=true)(ho:c.opt=true):bs (clT c)=⟨#[79,80,84,73,79,78,65,76,32]⟩++(⟨#[77,65,84,67,72,32]⟩++bs (Lib.join (c.ps.map paT) [44,32])++bs (whT c.wh)):=by unfold clT;rw[h,ho];apply em2;simp[bs]
theorem cm1f{c:CL}(h:(c.k==1)=true)(ho:c.opt=false):bs (clT c)=⟨#[77,65,84,67,72,32]⟩++bs (Lib.join (c.ps.map paT) [44,32])++bs (whT c.wh):=by unfold clT;rw[h,ho];apply em2;simp[bs]
set_option maxHeartbeats 4000000 in
theorem eo4(c:CL)(h:TxC c)(h1:(c.k==1)=true):Ev E 153 [cj2 c] (.d (.str (bs (clT c)))):=by
 have hp:=eo2 c.ps h.pn h.p;have zp:=ef1 h.pn h.p;have hw:=eo3 c.wh h.w;have zw:=ef2 h.w;rw[←bw8]at zp zw;have y0:(⟨#[79,80,84,73,79,78,65,76,32]⟩:ByteArray).size=9:=rfl;have y1:(⟨#[77,65,84,67,72,32]⟩:ByteArray).size=6:=rfl
 cases ho:c.opt with
 |true=>
  rw[cm1t h1 ho];clear h;obtain⟨k,opt,ds,ps,wh,e,nm,it,od,sk,lm,st,ns⟩:=c;dsimp only at*;refine ye1 func153 ntmps153 fun _ _ _=>?_
  repeat'(first|refine yz ?_|refine yp b229 hp ?_|refine yp b230 hw ?_|exact zD)
 |false=>
  rw[cm1f h1 ho];clear h;obtain⟨k,opt,ds,ps,wh,e,nm,it,od,sk,lm,st,ns⟩:=c;dsimp only at*;refine ye1 func153 ntmps153 fun _ _ _=>?_
  repeat'(first|refine yz ?_|refine yp b229 hp ?_|refine yp b230 hw ?_|exact zD)
end Go.Proofs.YtndgolmgaenlfaaGreatDoor
