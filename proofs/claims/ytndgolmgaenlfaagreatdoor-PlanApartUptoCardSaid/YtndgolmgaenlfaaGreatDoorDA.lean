/- Clauses as canonical text: what both texts write, and how long it is; The text of a checked expression is one line; The text of a checked MATCH clause. Conditions: each part's own, as it says. -/
import Derived.Test.YtndgolmgaenlfaaGreatDoorCA
import Derived.Test.YtndgolmgaenlfaaGreatDoorFB
import Derived.Test.YtndgolmgaenlfaaGreatDoorGC
import Derived.Test.YtndgolmgaenlfaaGreatDoorCB
import Derived.Test.YtndgolmgaenlfaaGreatDoorPB
set_option linter.unusedVariables false
set_option linter.unusedSimpArgs false
namespace Go.Proofs.YtndgolmgaenlfaaGreatDoor
set_option maxRecDepth 4000
open Go Go.Abs Go.Val Go.RowKit Go.Proofs.Tryz
def bl(s:ByteArray):List UInt8:=s.data.toList
theorem el9(s:ByteArray):(bl s).length=s.size:=by simp[bl]
theorem em0(s:ByteArray):bs (bl s)=s:=cf6 s
theorem em1(x:List UInt8):((bs x).toList==(⟨#[]⟩:ByteArray).toList)=x.isEmpty:=by
 rw[ByteArray.toList_eq,ByteArray.toList_eq];show(x.toArray.toList==([]:List UInt8))=x.isEmpty
 cases x<;>rfl
theorem em2(s:ByteArray):s0B s=(bl s).isEmpty:=by
 have h:=em1 (bl s);rw[em0]at h;exact h
theorem em3{x:List UInt8}:x.isEmpty=decide (x.length=0):=by cases x<;>simp
theorem em4(B:Nat):∀xs:List (List UInt8),(∀x∈xs,x.length≤B)→xs.flatten.length≤xs.length*B
 |[],_=>by simp
 |a::r,h=>by
  have h1:=h a Oc;have h2:=em4 B r fun x hx=>h x (by simp[hx])
  rw[List.flatten_cons,fy8,fy7,gf5];omega
theorem em5(B:Nat)(sep:List UInt8)(hs:sep.length≤2)(xs:List (List UInt8))(h:∀x∈xs,x.length≤B):(Lib.join xs sep).length≤xs.length*(B+2):=by
 refine gb8 (cy3 sep hs xs) ?_
 induction xs with
 |nil=>simp
 |cons a r ih=>
  have h1:=h a Oc;have h2:=ih fun x hx=>h x (by simp[hx])
  rw[fz7,List.sum_cons,fy7,gf5];omega
def ppT(p:PP):List UInt8:=bl p.key++ [58,32]++txE p.e
def prJ(l:List PP):List UInt8:=[123]++Lib.join (l.map ppT) [44,32]++ [125]
def prT(l:List PP):List UInt8:=bif l.length==0 then []else prJ l
def spT(a b:List UInt8):List UInt8:=bif a.isEmpty||b.isEmpty then a++b else a++ [32]++b
def lbL(l:List ByteArray):List (List UInt8):=l.map fun s=>[58]++bl s
def nsT(n:NP):List UInt8:=bl n.vr++(lbL n.lb).flatten
def ndT(n:NP):List UInt8:=[40]++spT (nsT n) (prT n.ps)++ [41]
def tyT(l:List ByteArray):List UInt8:=bif l.length==0 then []else [58]++Lib.join (l.map bl) [124]
def mwT(m:Int):List UInt8:=
 bif m==2 then [84,82,65,73,76,32]else
 bif m==3 then [83,73,77,80,76,69,32]else
 bif m==4 then [83,72,79,82,84,69,83,84,32]else
 bif m==5 then [65,78,89,32,83,72,79,82,84,69,83,84,32]else []
def moT(e:EP):List UInt8:=bif e.mode==0 then []else mwT e.mode++([42]++Lib.itoa e.mn++ [46,46]++Lib.itoa e.mx)
def esT(e:EP):List UInt8:=spT (spT (bl e.vr++tyT e.ty) (moT e)) (prT e.ps)
def edT(e:EP):List UInt8:=
 bif e.dir==1 then [45,91]++esT e++ [93,45,62]else
 bif e.dir==2 then [60,45,91]++esT e++ [93,45]else [45,91]++esT e++ [93,45]
def pvT(p:PA):List UInt8:=bif s0B p.vr then []else bl p.vr++ [32,61,32]
def paL(p:PA):List (List UInt8):=List.zipWith (fun a n=>a++ndT n) ([]::p.es.map edT) p.ns
def paT(p:PA):List UInt8:=pvT p++(paL p).flatten
def whT(l:List Ex):List UInt8:=match l with|[]=>[]|e::_=>[32,87,72,69,82,69,32]++txE e
def bdT(w:List UInt8)(n:Int):List UInt8:=bif decide (n<0)then []else [32]++w++ [32]++Lib.itoa n
def skT:List UInt8:=[83,75,73,80]
def lmT:List UInt8:=[76,73,77,73,84]
def itT(x:IT):List UInt8:=txE x.e++ [32,65,83,32]++bl x.asn
def odT(x:SK):List UInt8:=bif x.dc then txE x.e++ [32,68,69,83,67]else txE x.e
def obT(l:List SK):List UInt8:=bif l.length==0 then []else [32,79,82,68,69,82,32,66,89,32]++Lib.join (l.map odT) [44,32]
def dsT(b:Bool):List UInt8:=bif b then [68,73,83,84,73,78,67,84,32]else []
def pjT(c:CL):List UInt8:=dsT c.ds++Lib.join (c.it.map itT) [44,32]++obT c.od++bdT skT c.sk++bdT lmT c.lm++whT c.wh
def rmF(x:SIt):Bool:=bif !(s0B x.lb)then x.off else x.e.op==1&&x.e.v.k==0
def asT(x:SIt):List UInt8:=
 bif !(s0B x.lb)then bl x.vr++ [58]++bl x.lb else
 bif rmF x then bl x.vr++ [46]++bl x.key else bl x.vr++ [46]++bl x.key++ [32,61,32]++txE x.e
def sepT(p:Option SIt)(x:SIt):List UInt8:=
 bif (match p with|none=>false|some y=>rmF y==rmF x)then [44,32]else
 (bif p.isSome then [32]else [])++(bif rmF x then [82,69,77,79,86,69,32]else [83,69,84,32])
def seL:Option SIt→List SIt→List (List UInt8)
 |_,[]=>[]
 |p,x::r=>(sepT p x++asT x)::seL (some x) r
def seT(l:List SIt):List UInt8:=(seL none l).flatten
def clT(c:CL):List UInt8:=
 bif c.k==1 then(bif c.opt then [79,80,84,73,79,78,65,76,32]else [])++([77,65,84,67,72,32]++Lib.join (c.ps.map paT) [44,32]++whT c.wh)else
 bif c.k==2 then [85,78,87,73,78,68,32]++txE c.e++ [32,65,83,32]++bl c.nm else
 bif c.k==3 then [87,73,84,72,32]++pjT c else
 bif c.k==4 then [82,69,84,85,82,78,32]++pjT c else
 bif c.k==5 then [67,82,69,65,84,69,32]++Lib.join (c.ps.map paT) [44,32]else
 bif c.k==6 then [77,69,82,71,69,32]++Lib.join (c.ps.map paT) [44,32]else
 bif c.k==7 then seT c.st else
 (bif c.opt then [68,69,84,65,67,72,32]else [])++([68,69,76,69,84,69,32]++Lib.join (c.ns.map bl) [44,32])
def TxX(e:Ex):Prop:=alE smN e∧nd e≤400
structure TxP(l:List PP):Prop where
 n:l.length≤1500
 k:∀p∈l,p.key.size≤20
 e:∀p∈l,TxX p.e
structure TxN(x:NP):Prop where
 v:x.vr.size≤20
 n:x.lb.length≤1500
 l:∀s∈x.lb,s.size≤20
 p:TxP x.ps
structure TxG(x:EP):Prop where
 v:x.vr.size≤20
 n:x.ty.length≤1500
 l:∀s∈x.ty,s.size≤20
 mn:0≤x.mn∧x.mn≤6
 mx:0≤x.mx∧x.mx≤6
 p:TxP x.ps
structure TxA(p:PA):Prop where
 v:p.vr.size≤20
 n:p.ns.length=p.es.length+1
 m:p.es.length≤6
 ns:∀n∈p.ns,TxN n
 es:∀e∈p.es,TxG e
structure TxI(x:SIt):Prop where
 v:x.vr.size≤20
 l:x.lb.size≤20
 k:x.key.size≤20
 e:s0B x.lb=true→TxX x.e
structure TxC(c:CL):Prop where
 pn:c.ps.length≤8
 p:∀p∈c.ps,TxA p
 w:∀e∈c.wh,TxX e
 e:c.k=2→TxX c.e∧c.nm.size≤20
 im:c.it.length≤20
 i:∀x∈c.it,TxX x.e∧x.asn.size≤20
 om:c.od.length≤20
 o:∀x∈c.od,TxX x.e
 sk: -1≤c.sk∧c.sk≤1000000000000000
 lm: -1≤c.lm∧c.lm≤1000000000000000
 sm:c.st.length≤20
 s:∀x∈c.st,TxI x
 nm:c.ns.length≤20
 n:∀s∈c.ns,s.size≤20
theorem em6{e:Ex}(h:TxX e):(txE e).length≤400000:=by
 have:=cy5 e h.1;have:=h.2;omega
theorem pp_le{p:PP}(hk:p.key.size≤20)(h:TxX p.e):(ppT p).length≤400022:=by
 have:=em6 h;have:=el9 p.key;simp only[ppT,fy8,fy7,fz2];omega
theorem em7{l:List PP}(h:TxP l):(Lib.join (l.map ppT) [44,32]).length≤600036000:=by
 have h1:=em5 400022 [44,32] Oc (l.map ppT) (by
  intro x hx;obtain⟨p,hp,rfl⟩:=ga1.1 hx;exact pp_le (h.k p hp) (h.e p hp))
 have:=h.n;rw[fz3]at h1;omega
theorem em8{l:List PP}(h:TxP l):(prT l).length≤600036002:=by
 have:=em7 h;unfold prT prJ
 cases l.length==0<;>simp only[cond_true,cond_false,fy8,fy7,fz2]<;>omega
theorem em9(a b:List UInt8):(spT a b).length≤a.length+b.length+1:=by
 unfold spT
 cases a.isEmpty||b.isEmpty<;>simp only[cond_true,cond_false,fy8,fy7,fz2]<;>omega
theorem en0{n:NP}(h:TxN n):(nsT n).length≤31520:=by
 have h1:=em4 21 (lbL n.lb) (by
  intro x hx;obtain⟨s,hs,rfl⟩:=ga1.1 hx;have:=h.l s hs;have:=el9 s;simp only[fy8,fy7,fz2];omega)
 have h2:(lbL n.lb).length=n.lb.length:=by simp[lbL]
 have:=h.n;have:=h.v;have:=el9 n.vr;simp only[nsT,fy8];rw[h2]at h1;omega
theorem en1{n:NP}(h:TxN n):(ndT n).length≤600068000:=by
 have:=em9 (nsT n) (prT n.ps);have:=en0 h;have:=em8 h.p;simp only[ndT,fy8,fy7,fz2];omega
theorem en2{l:List ByteArray}(hn:l.length≤1500)(h:∀s∈l,s.size≤20):(Lib.join (l.map bl) [124]).length≤33000:=by
 have h1:=em5 20 [124] Oc (l.map bl) (by
  intro x hx;obtain⟨s,hs,rfl⟩:=ga1.1 hx;have:=h s hs;have:=el9 s;omega)
 rw[fz3]at h1;omega
theorem en3{l:List ByteArray}(hn:l.length≤1500)(h:∀s∈l,s.size≤20):(tyT l).length≤33001:=by
 have:=en2 hn h;unfold tyT
 cases l.length==0<;>simp only[cond_true,cond_false,fy8,fy7,fz2]<;>omega
theorem en4(m:Int):(mwT m).length≤13:=by
 unfold mwT
 repeat'(rw[gd9];split)
 all_goals simp
theorem en5{n:Int}(h: -1≤n∧n≤1000000000000000):(Lib.itoa n).length≤21:=cg4 (by simp only[inR];omega)
theorem en6{e:EP}(h:TxG e):(moT e).length≤100:=by
 have:=en4 e.mode;have:=h.mn;have:=h.mx;have:=en5 (n:=e.mn) Oa;have:=en5 (n:=e.mx) Oa;unfold moT
 cases e.mode==0<;>simp only[cond_true,cond_false,fy8,fy7,fz2]<;>omega
theorem en7{e:EP}(h:TxG e):(esT e).length≤600070000:=by
 have:=em9 (spT (bl e.vr++tyT e.ty) (moT e)) (prT e.ps);have:=em9 (bl e.vr++tyT e.ty) (moT e);have:=en3 h.n h.l;have:=en6 h;have:=em8 h.p;have:=h.v;have:=el9 e.vr;unfold esT;rw[fy8]at*;omega
theorem en8{e:EP}(h:TxG e):(edT e).length≤600070100:=by
 have:=en7 h;unfold edT
 repeat'(rw[gd9];split)
 all_goals(simp only[fy8,fy7,fz2];omega)
theorem en9{p:PA}{i:Nat}{n:NP}{a:List UInt8}(h1:([]::p.es.map edT)[i]? =some a)(h2:p.ns[i]? =some n):(paL p)[i]? =some (a++ndT n):=by
 unfold paL;rw[List.getElem?_zipWith,h1,h2]
theorem eo0{p:PA}(h:p.ns.length=p.es.length+1):(paL p).length=p.ns.length:=by
 unfold paL;rw[List.length_zipWith,fy7,fz3];omega
theorem eo1{α β γ:Type}(f:α→β→γ):∀(a:List α) (b:List β) (x:γ),x∈List.zipWith f a b→∃u∈a,∃v∈b,x=f u v
 |[],b,x,h=>by simp at h
 |u::a,[],x,h=>by simp at h
 |u::a,v::b,x,h=>by
  rw[List.zipWith_cons_cons]at h;rcases fz0.1 h with rfl|h
  ·exact⟨u,by simp,v,by simp,rfl⟩
  ·obtain⟨u',h1,v',h2,e⟩:=eo1 f a b x h;exact⟨u',by simp[h1],v',by simp[h2],e⟩
theorem eo2{p:PA}(h:TxA p):∀x∈paL p,x.length≤1200138100:=by
 intro x hx;obtain⟨a,ha,n,hn,rfl⟩:=eo1 _ _ _ _ hx;have h1:=en1 (h.ns n hn);rw[fy8];rcases fz0.1 ha with rfl|ha
 ·rw[fz2];omega
 ·obtain⟨e,he,rfl⟩:=ga1.1 ha;have:=en8 (h.es e he);omega
theorem eo3(L:List (List UInt8))(i:Nat):(L.take i).flatten.length≤L.flatten.length:=by
 conv=>rhs;rw[←gf7 i L,List.flatten_append,fy8]
 omega
theorem eo4{p:PA}(h:TxA p):(paL p).flatten.length≤8400966700:=by
 have h1:=em4 1200138100 (paL p) (eo2 h);have h2:=eo0 h.n;have:=h.n;have:=h.m;omega
theorem eo5{p:PA}(h:TxA p):(paT p).length≤8400967000:=by
 have:=eo4 h;have:=h.v;have:=el9 p.vr;unfold paT pvT
 cases s0B p.vr<;>simp only[cond_true,cond_false,fy8,fy7,fz2]<;>omega
theorem eo6{l:List PA}(hn:l.length≤8)(h:∀p∈l,TxA p):(Lib.join (l.map paT) [44,32]).length≤67207736016:=by
 have h1:=em5 8400967000 [44,32] Oc (l.map paT) (by
  intro x hx;obtain⟨p,hp,rfl⟩:=ga1.1 hx;exact eo5 (h p hp))
 rw[fz3]at h1;omega
theorem eo7{l:List Ex}(h:∀e∈l,TxX e):(whT l).length≤400007:=by
 match l,h with
 |[],_=>simp[whT]
 |e::r,h=>
  have:=em6 (h e Oc);simp only[whT,fy8,fy7,fz2];omega
theorem eo8{w:List UInt8}(hw:w.length≤5){n:Int}(h: -1≤n∧n≤1000000000000000):(bdT w n).length≤28:=by
 have:=en5 h;unfold bdT
 cases decide (n<0)<;>simp only[cond_true,cond_false,fy8,fy7,fz2]<;>omega
theorem it_le{l:List IT}(hn:l.length≤20)(h:∀x∈l,TxX x.e∧x.asn.size≤20):(Lib.join (l.map itT) [44,32]).length≤8000600:=by
 have h1:=em5 400024 [44,32] Oc (l.map itT) (by
  intro x hx;obtain⟨p,hp,rfl⟩:=ga1.1 hx;have:=em6 (h p hp).1;have:=(h p hp).2;have:=el9 p.asn;simp only[itT,fy8,fy7,fz2];omega)
 rw[fz3]at h1;omega
theorem eo9{x:SK}(h:TxX x.e):(odT x).length≤400005:=by
 have:=em6 h;unfold odT
 cases x.dc<;>simp only[cond_true,cond_false,fy8,fy7,fz2]<;>omega
theorem od_le{l:List SK}(hn:l.length≤20)(h:∀x∈l,TxX x.e):(Lib.join (l.map odT) [44,32]).length≤8000600:=by
 have h1:=em5 400005 [44,32] Oc (l.map odT) (by
  intro x hx;obtain⟨p,hp,rfl⟩:=ga1.1 hx;exact eo9 (h p hp))
 rw[fz3]at h1;omega
theorem ob_le{l:List SK}(hn:l.length≤20)(h:∀x∈l,TxX x.e):(obT l).length≤8000610:=by
 have:=od_le hn h;unfold obT
 cases l.length==0<;>simp only[cond_true,cond_false,fy8,fy7,fz2]<;>omega
theorem ds_le(b:Bool):(dsT b).length≤9:=by cases b<;>simp[dsT]
theorem pj_le{c:CL}(h:TxC c):(pjT c).length≤17000000:=by
 have:=ds_le c.ds;have:=it_le h.im h.i;have:=ob_le h.om h.o;have:=eo8 (w:=skT) (by simp[skT]) h.sk;have:=eo8 (w:=lmT) (by simp[lmT]) h.lm;have:=eo7 h.w;simp only[pjT,fy8];omega
theorem as_le{x:SIt}(h:TxI x):(asT x).length≤400044:=by
 have:=h.v;have:=h.l;have:=h.k;have:=el9 x.vr;have:=el9 x.lb;have:=el9 x.key;have he:=h.e;unfold asT
 cases hl:s0B x.lb with
 |false=>simp only[gf3,cond_true,fy8,fy7,fz2];omega
 |true=>
  have:=em6 (he hl)
  cases rmF x<;>simp only[gg0,cond_true,cond_false,fy8,fy7,fz2]<;>omega
theorem ep0(p:Option SIt)(x:SIt):(sepT p x).length≤8:=by
 unfold sepT
 cases p with
 |none=>cases rmF x<;>simp
 |some y=>
  dsimp only[Option.isSome_some]
  cases rmF x<;>cases rmF y<;>simp
theorem ep1:∀(p:Option SIt) (l:List SIt),(∀x∈l,TxI x)→∀y∈seL p l,y.length≤400052
 |_,[],_,y,h=>by simp[seL]at h
 |p,x::r,hx,y,h=>by
  rw[seL]at h;rcases fz0.1 h with rfl|h
  ·have:=ep0 p x;have:=as_le (hx x Oc);rw[fy8];omega
  ·exact ep1 (some x) r (fun z hz=>hx z (by simp[hz])) y h
theorem ep2:∀(p:Option SIt) (l:List SIt),(seL p l).length=l.length
 |_,[]=>rfl
 |p,x::r=>by rw[seL,fy7,ep2,fy7]
theorem se_le{l:List SIt}(hn:l.length≤20)(h:∀x∈l,TxI x):(seT l).length≤8001040:=by
 have h1:=em4 400052 (seL none l) (ep1 none l h);rw[ep2]at h1;unfold seT;omega
theorem ep3{l:List ByteArray}(hn:l.length≤20)(h:∀s∈l,s.size≤20):(Lib.join (l.map bl) [44,32]).length≤440:=by
 have h1:=em5 20 [44,32] Oc (l.map bl) (by
  intro x hx;obtain⟨s,hs,rfl⟩:=ga1.1 hx;have:=h s hs;have:=el9 s;omega)
 rw[fz3]at h1;omega
theorem ep4{c:CL}(h:TxC c):(clT c).length≤68000000000:=by
 have:=eo6 h.pn h.p;have:=eo7 h.w;have:=pj_le h;have:=se_le h.sm h.s;have:=ep3 h.nm h.n;have he:c.k=2→(txE c.e).length≤400000:=fun e=>em6 (h.e e).1
 have hb:c.k=2→(bl c.nm).length≤20:=fun e=>by rw[el9];exact(h.e e).2
 unfold clT
 cases hk:c.k==2 with
 |true=>
  have hk':c.k=2:=by simpa using hk
  have:=he hk';have:=hb hk';have e1:(c.k==1)=false:=by rw[hk'];rfl
  rw[e1];simp only[cond_true,cond_false,fy8,fy7,fz2];omega
 |false=>
  cases c.opt<;>cases c.k==1<;>cases c.k==3<;>cases c.k==4<;>cases c.k==5<;>cases c.k==6<;>cases c.k==7<;>simp only[cond_true,cond_false,fy8,fy7,fz2]<;>omega
def vtT(a:AT)(i:Nat):List UInt8:=Lib.itoa (a.vs.getD i 0)
def atT(a:AT):List UInt8:=
 bif a.k==1 then [91]++vtT a 0++ [93,58]++bl a.nm else
 bif a.k==2 then [91]++vtT a 0++ [93,46]++bl a.nm++ [61]++txt a.v else
 bif a.k==3 then [91]++vtT a 0++ [93,45,91]++vtT a 1++tyT a.ty++ [93,45,62,91]++vtT a 2++ [93]else [91]++vtT a 0++ [93]
def liT(L:List (List UInt8)):List UInt8:=bif L.isEmpty then []else [32]++Lib.join L [44,32]
def mlT(c:CJ):List UInt8:=[109,117,108,116,105,32,40]++Lib.join (c.vs.map bl) [44,32]++ [41]++(c.as.map fun a=>[32]++atT a).flatten
def srT(b:PB):List UInt8:=liT (b.od.map odT)++bdT skT b.sk++bdT lmT b.lm
def lnT(b:PB):List UInt8:=
 bif b.op==1 then [117,110,105,116]else
 bif b.op==2 then mlT b.cj else
 bif b.op==3 then [106,111,105,110]else
 bif b.op==4 then [108,101,102,116]else
 bif b.op==5 then [97,112,112,108,121,32]++clT b.cl else
 bif b.op==6 then [102,105,108,116,101,114,32]++txE b.e else
 bif b.op==7 then [112,114,111,106,101,99,116]++liT (b.it.map itT)else
 bif b.op==8 then [103,114,111,117,112]++liT (b.it.map itT)else
 bif b.op==9 then [117,110,105,113,117,101]else
 bif b.op==10 then [115,111,114,116]++srT b else [117,110,119,105,110,100,32]++txE b.e++ [32,65,83,32]++bl b.nm
mutual
def plT(d:Nat):Pl→List UInt8
 |.mk b ks=>List.replicate (2*d) 32++lnT b++ [10]++ep5 d ks
def ep5(d:Nat):List Pl→List UInt8
 |[]=>[]
 |p::r=>plT (d+1) p++ep5 d r
end
theorem ep6(g:Bool)(cols:List ByteArray):∀(l:List IT) (out:List ByteArray),(dq6 g cols l out).2=0→∀x∈l,ct5 x.e=0∧cs4 x.asn=true
 |[],_,_,_,h=>by cases h
 |x::r,out,h0,y,hy=>by
  rw[dq6]at h0
  cases c:dq5 g x cols out !=0 with
  |true=>rw[c,cond_true]at h0;rw[show dq5 g x cols out=0 from h0]at c;cases c
  |false=>
   rw[c,cond_false]at h0;rcases fz0.1 hy with rfl|hy
   ·have hi:dq5 g y cols out=0:=by simpa using c
    unfold dq5 at hi
    cases c1:ct5 y.e !=0 with
    |true=>rw[c1,cond_true]at hi;rw[hi]at c1;cases c1
    |false=>
    cases c2: !(cs4 y.asn)|| !(di7 y.e cols)with
    |true=>rw[c1,c2]at hi;exact absurd (show(6:Int)=0 from hi) Od
    |false=>
     rw[gb3]at c2;exact⟨by simpa using c1,by simpa using c2.1⟩
   ·exact ep6 g cols r _ h0 y hy
theorem ep7(cols:List ByteArray):∀(l:List SK),dq7 cols l=0→∀x∈l,ct5 x.e=0
 |[],_,_,h=>by cases h
 |x::r,h0,y,hy=>by
  rw[dq7]at h0
  cases c:di8 x.e cols !=0 with
  |true=>rw[c,cond_true]at h0;rw[h0]at c;cases c
  |false=>
   rw[c,cond_false]at h0;rcases fz0.1 hy with rfl|hy
   ·exact(ds3 (by simpa using c)).1
   ·exact ep7 cols r h0 y hy
theorem ep8{b:PB}{cols:List ByteArray}(h:dq8 b cols=0):ct5 b.e=0∧cs4 b.nm=true:=by
 unfold dq8 at h
 cases c1:ct5 b.e !=0 with
 |true=>rw[c1,cond_true]at h;rw[h]at c1;cases c1
 |false=>
 cases c2: !(cs4 b.nm)|| !(di7 b.e cols)with
 |true=>rw[c1,c2]at h;exact absurd (show(6:Int)=0 from h) Od
 |false=>
  rw[gb3]at c2;exact⟨by simpa using c1,by simpa using c2.1⟩
end Go.Proofs.YtndgolmgaenlfaaGreatDoor
namespace Go.Proofs.YtndgolmgaenlfaaGreatDoor
set_option maxRecDepth 4000
open Go Go.Abs Go.Val Go.RowKit Go.Proofs.Tryz
theorem ep9:∀e:Ex,Fit (bz1 e)→alE (fun e=>inR .i64 e.v.n) e:=by
 refine ca0 (P:=fun e=>Fit (bz1 e)→alE (fun e=>inR .i64 e.v.n) e) fun op v nm ds ks ih h=>?_
 obtain⟨-,h2,-,-,h5⟩:=bz8 h;exact⟨(bp8 h2).2.1,cx8 fun x hx=>ih x hx (h5 x hx)⟩
theorem eq0{e:Ex}(h:ct5 e=0):alE okN e:=by
 unfold ct5 at h
 cases g1:decide (dp e>24)with
 |true=>rw[g1]at h;simp at h
 |false=>
  rw[g1]at h
  cases g2:decide (nd e>300)with
  |true=>rw[g2]at h;simp at h
  |false=>rw[g2]at h;exact cy2 e false h
theorem eq1{s:ByteArray}(h:cs4 s=true):s.size≤20:=by
 unfold cs4 ca2 at h;simp only[fz4,decide_eq_true_eq]at h;exact h.1.2.1
theorem eq2{s:ByteArray}(h:s0B s=true):s.size=0:=by
 rw[em2,em3,el9]at h;exact of_decide_eq_true h
theorem eq3{s:ByteArray}(h:cv4 s=true):s.size≤20:=by
 unfold cv4 at h;rcases Bool.or_eq_true_iff.1 h with h|h
 ·have:=eq2 h;omega
 ·exact eq1 h
def cE(e:Ex):List D:=[.int e.op,.int e.v.k,.int e.v.n,.int e.v.d,.str e.v.s,.sl (kids e.v),.str e.nm,.bool e.ds,.sl (by9 e)]
theorem eq4{l:List D}{e:Ex}(h:Fit (.agg l))(hm:∀c∈cE e,c∈l):Fit (bz1 e):=Fit.agg _ fun c hc=>h.aggs c (hm c hc)
theorem eq5{p:PP}(h:Fit (ct7 p)):Fit (bz1 p.e):=eq4 h fun c hc=>gc2 _ hc
theorem eq6{l:List PP}(h:Fit (.sl (l.map ct7))):∀p∈l,Fit (bz1 p.e):=fun p hp=>eq5 ((cz2 h).2 p hp)
theorem eq7{n:NP}(h:Fit (ct8 n)):∀p∈n.ps,Fit (bz1 p.e):=eq6 (h.aggs _ Oc)
theorem eq8{n:EP}(h:Fit (ct9 n)):∀p∈n.ps,Fit (bz1 p.e):=eq6 (h.aggs _ Oc)
structure FxA(p:PA):Prop where
 n:∀n∈p.ns,∀q∈n.ps,Fit (bz1 q.e)
 e:∀n∈p.es,∀q∈n.ps,Fit (bz1 q.e)
theorem eq9{p:PA}(h:Fit (cu0 p)):FxA p:=
 ⟨fun n hn=>eq7 ((cz2 (h.aggs (.sl (p.ns.map ct8)) Oc)).2 n hn),fun n hn=>eq8 ((cz2 (h.aggs (.sl (p.es.map ct9)) Oc)).2 n hn)⟩
theorem er0{x:IT}(h:Fit (cu1 x)):Fit (bz1 x.e):=eq4 h fun c hc=>by
 simp only[cE,fz0,gf8,or_false]at hc ⊢;rcases hc with h|h|h|h|h|h|h|h|h<;>simp[h]
theorem er1{x:SK}(h:Fit (cu2 x)):Fit (bz1 x.e):=eq4 h fun c hc=>by
 simp only[cE,fz0,gf8,or_false]at hc ⊢;rcases hc with h|h|h|h|h|h|h|h|h<;>simp[h]
theorem er2{x:SIt}(h:Fit (cu3 x)):Fit (bz1 x.e):=eq4 h fun c hc=>by
 simp only[cE,fz0,gf8,or_false]at hc ⊢;rcases hc with h|h|h|h|h|h|h|h|h<;>simp[h]
structure FxC(c:CL):Prop where
 p:∀p∈c.ps,FxA p
 w:∀e∈c.wh,Fit (bz1 e)
 e:Fit (bz1 c.e)
 i:∀x∈c.it,Fit (bz1 x.e)
 o:∀x∈c.od,Fit (bz1 x.e)
 s:∀x∈c.st,Fit (bz1 x.e)
theorem er3{c:CL}(h:Fit (cu4 c)):FxC c:=by
 refine⟨fun p hp=>eq9 ((cz2 (h.aggs (.sl (c.ps.map cu0)) Oc)).2 p hp),fun e he=>?_,eq4 h fun x hc=>?_,fun x hx=>er0 ((cz2 (h.aggs (.sl (c.it.map cu1)) Oc)).2 x hx),fun x hx=>er1 ((cz2 (h.aggs (.sl (c.od.map cu2)) Oc)).2 x hx),fun x hx=>er2 ((cz2 (h.aggs (.sl (c.st.map cu3)) Oc)).2 x hx)⟩
 ·exact(bz9 (h.aggs (.sl (bz0 c.wh)) Oc)).2 e he
 ·simp only[cE,fz0,gf8,or_false]at hc ⊢;rcases hc with h|h|h|h|h|h|h|h|h<;>simp[h]
theorem er4:∀(ns:List NP) (es:List EP),∀n∈ns,ptN n∈cv3 ns es
 |[],_,n,h=>by simp at h
 |a::r,[],n,h=>by
  rw[cv3];rcases fz0.1 h with rfl|h
  ·exact gj1
  ·exact gc2 _ (er4 r [] n h)
 |a::r,e::q,n,h=>by
  rw[cv3];rcases fz0.1 h with rfl|h
  ·exact gj1
  ·exact gc2 _ (gc2 _ (er4 r q n h))
theorem er5:∀(ns:List NP) (es:List EP),es.length≤ns.length→∀e∈es,ptE e∈cv3 ns es
 |_,[],_,e,h=>by simp at h
 |[],a::q,hl,e,h=>by simp at hl
 |a::r,b::q,hl,e,h=>by
  rw[cv3];rcases fz0.1 h with rfl|h
  ·exact gc2 _ gj1
  ·exact gc2 _ (gc2 _ (er5 r q (by simpa using hl) e h))
theorem er6:∀{l:List Ex},cv7 l=0→∀e∈l,ct5 e=0
 |[],_,e,h=>by simp at h
 |a::r,h,e,he=>by
  rw[cv7]at h
  cases hz:ct5 a !=0 with
  |true=>rw[hz]at h;simp at hz;exact absurd h hz
  |false=>
   rw[hz]at h;rcases fz0.1 he with rfl|he
   ·simpa using hz
   ·exact er6 h e he
theorem er7{p:PA}{cr:Bool}(h:cv9 p cr=0):cu9 p=false∧p.ns.length=p.es.length+1∧(∀e∈p.es,cv0 e=true)∧cv4 p.vr=true∧(∀x∈cv3 p.ns p.es,cv5 x=false)∧∀x∈cv3 p.ns p.es,∀q∈x.ps,ct5 q.e=0:=by
 unfold cv9 at h
 cases c1:cu9 p with
 |true=>rw[c1]at h;simp at h
 |false=>
  rw[c1,cond_false]at h
  cases c2:(p.ns.length !=p.es.length+1||p.es.any fun e=> !cv0 e)with
  |true=>rw[c2]at h;simp at h
  |false=>
   rw[c2,cond_false]at h
   cases c3:(!(cv4 p.vr)||(cv3 p.ns p.es).any cv5)with
   |true=>rw[c3]at h;simp at h
   |false=>
    rw[c3,cond_false]at h
    cases c4:(cv3 p.ns p.es).any cv6 with
    |true=>rw[c4]at h;simp at h
    |false=>
     rw[c4,cond_false]at h
     cases c5:cv7 (cv8 (cv3 p.ns p.es)) !=0 with
     |true=>rw[c5,cond_true]at h;simp at c5;exact absurd h c5
     |false=>
      simp only[bne_eq_false_iff_eq]at c5;rw[gb3]at c2 c3;refine⟨rfl,by simpa using c2.1,fun e he=>?_,by simpa using c3.1,fun x hx=>?_,fun x hx q hq=>er6 c5 _ (ds8 hx hq)⟩
      ·have:=gb9.1 c2.2 e he;simpa using this
      ·have:=gb9.1 c3.2 x hx;simpa using this
theorem er8:∀{l:List Int},cw5 l=0→∀e∈l,e=0
 |[],_,e,h=>by simp at h
 |a::r,h,e,he=>by
  rw[cw5]at h
  cases hz:a !=0 with
  |true=>rw[hz]at h;simp at hz;exact absurd h hz
  |false=>
   rw[hz]at h;rcases fz0.1 he with rfl|he
   ·simpa using hz
   ·exact er8 h e he
attribute [local irreducible] Ev EvO EvS aw1 an9 RGo SGo go
theorem er9{a b:ByteArray}(h:a.data.toList=b.data.toList):a=b:=ByteArray.ext (Array.toList_inj.1 h)
theorem es0{α:Type}{f:α→List UInt8}{l:List α}{i:Nat}{x:α}(h:l[i]? =some x):ch2 ((l.take (i+1)).map f)=ch2 ((l.take i).map f)++ [.str (bs (f x))]:=by
 rw[gd7,h];simp[ch2]
structure SDx{α:Type}(l:List α) where
 i:Nat
 hi:i≤l.length
theorem es1(xs:List (List UInt8))(sep:List UInt8)(hN:xs.length≤1000000)(hlen:(Lib.join xs sep).length≤140737488355328):Ev E 84 [.sl (ch2 xs),.str (bs sep)] (.d (.str (bs (Lib.join xs sep)))):=by
 have e1:(xs.map bs).map D.str=ch2 xs:=by simp[ch2]
 have e2:(xs.map bs).map (·.data.toList)=xs:=by
  rw[List.map_map]
  conv=>rhs;rw[←List.map_id xs]
  exact List.map_congr_left fun x _=>cf8 x
 have hj:=ch1 (xs.map bs) (bs sep) Og (by rw[e2,cf8];omega);rw[e1,e2,cf8]at hj;exact hj
theorem es2{e:Ex}(h:TxX e):Ev E 231 [bz1 e] (.d (.str (bs (txE e)))):=cy9 e h.1 (by have:=h.2;omega)
def pbT(l:List PP)(b:Bool):List UInt8:=bif b&& !(l.length==0)then [32]++prT l else prT l
theorem bs_pp(x:PP):bs (ppT x)=x.key++⟨#[58,32]⟩++bs (txE x.e):=by
 apply er9;simp[bs,bl,ppT]
set_option maxHeartbeats 1000000 in
theorem es3(l:List PP)(b:Bool)(h:TxP l):Ev E 332 [.sl (l.map ct7),.bool b] (.d (.str (bs (pbT l b)))):=by
 have hle:(l.map ct7).length=l.length:=Oc
 have hn:=h.n
 cases hl:l.length==0 with
 |true=>
  have e:bs (pbT l b)=⟨#[]⟩:=by unfold pbT prT;rw[hl];cases b<;>rfl
  have g0:(((l.map ct7).length:Int)==0)=true:=by rw[hle];simpa using hl
  rw[e];refine ye2 func332 ntmps332 fun _ _ _=>?_
  exact Om
 |false=>
  have g0:(((l.map ct7).length:Int)==0)=false:=by rw[hle];simpa using hl
  have hj:=es1 (l.map ppT) [44,32] (by have:=h.n;rw[fz3];omega) (by have:=em7 h;omega);have zj:(bs (Lib.join (l.map ppT) [44,32])).size≤600036000:=by rw[cf7];exact em7 h
  have e:bs (pbT l b)=bif b then⟨#[32]⟩++(⟨#[123]⟩++bs (Lib.join (l.map ppT) [44,32])++⟨#[125]⟩)else⟨#[123]⟩++bs (Lib.join (l.map ppT) [44,32])++⟨#[125]⟩:=by
   unfold pbT prT prJ;rw[hl]
   cases b<;>(apply er9;simp[bs])
  have y1:(⟨#[32]⟩:ByteArray).size=1:=rfl;have y2:(⟨#[123]⟩:ByteArray).size=1:=rfl;have y3:(⟨#[125]⟩:ByteArray).size=1:=rfl;have y4:(⟨#[58,32]⟩:ByteArray).size=2:=rfl;rw[e];refine ye2 func332 ntmps332 fun _ _ _=>?_
  repeat'(refine yz ?_)
  refine ac8 (α:=SDx l) (fun p=>⟨[(5,bh5 0 (ch2 ((l.take p.i).map ppT))),(1,.d (.bool b)),(12,.d (.sl (l.map ct7))),(13,.d (.int (l.map ct7).length)),(14,.d (.int p.i))],ay0 9 1 (ch2 ((l.take p.i).map ppT))⟩) (fun p=>l.length-p.i) ⟨0,by omega⟩ (zle 0) ?_;rintro⟨i,hi⟩;dsimp only;have hol:(ch2 ((l.take i).map ppT)).length≤1000000:=by have:=h.n;simp[ch2];omega
  rcases fy5 i l.length with hlt|hge
  ·have g1:decide ((i:Int)<((l.map ct7).length:Int))=true:=by rw[hle];simpa using hlt
   have hx0:=fy4 hlt;generalize l[i]=x at hx0;have hx:=cz1 (f:=ct7) hx0;have hm:=fy6 hx0;have ht:=es2 (h.e x hm);have zt:(bs (txE x.e)).size≤400000:=by rw[cf7];exact em6 (h.e x hm)
   have zk:=h.k x hm;have hnx:=es0 (f:=ppT) hx0;rw[bs_pp]at hnx;generalize ch2 ((l.take i).map ppT)=o at*
   match o,hol with
   |[],hol=>
    dsimp only[bh5,ay0]
    repeat'(first|refine yq 7 [9] ?_|refine yf 7 0 9 ?_|refine yf 7 10 1 ?_|refine rgN ?_|refine yz ?_|refine yi (ct7 x) hx ?_|refine yp bs8 ht ?_|refine rgS (id:=7) (i:=9) rfl rfl rfl rfl (⟨by simp,fun d hd=>by(obtain rfl:=ga4.1 hd;rfl),by(show(0+1)*16≤140737488355328;omega),by(show 0+1≤9223372036854775807;omega)⟩) Oj ?_)
    refine ac2 ?_;refine⟨⟨i+1,by omega⟩,by dsimp only;omega,?_⟩;dsimp only;rw[hnx];exact(bi7 [1])
   |a::q,hol=>
    dsimp only[bh5,ay0]
    repeat'(first|refine yq 7 [9] ?_|refine yf 7 0 9 ?_|refine yf 7 10 1 ?_|refine rgN ?_|refine yz ?_|refine yi (ct7 x) hx ?_|refine yp bs8 ht ?_|refine rgS (id:=7) (i:=9) rfl rfl rfl rfl (⟨by simp,fun d hd=>by(obtain rfl:=ga4.1 hd;rfl),by(show((a::q).length+1)*16≤140737488355328;omega),by(show(a::q).length+1≤9223372036854775807;omega)⟩) Oj ?_)
    refine ac2 ?_;refine⟨⟨i+1,by omega⟩,by dsimp only;omega,?_⟩;dsimp only;rw[hnx];exact(bi7 [2])
  ·have g1:decide ((i:Int)<((l.map ct7).length:Int))=false:=by rw[hle];simp;omega
   rw[ga3 hge];generalize ch2 (l.map ppT)=o at*
   cases b with
   |true=>
    match o,hj with
    |[],hj=>
     dsimp only[bh5,ay0]
     repeat'(first|refine yz ?_|refine yp b84 hj ?_|exact zD)
    |a::q,hj=>
     dsimp only[bh5,ay0];refine qA ?_;refine av3 0 rfl ?_
     repeat'(first|refine yz ?_|refine yp b84 hj ?_|exact zD)
   |false=>
    match o,hj with
    |[],hj=>
     dsimp only[bh5,ay0]
     repeat'(first|refine yz ?_|refine yp b84 hj ?_|exact zD)
    |a::q,hj=>
     dsimp only[bh5,ay0];refine qA ?_;refine av3 0 rfl ?_
     repeat'(first|refine yz ?_|refine yp b84 hj ?_|exact zD)
end Go.Proofs.YtndgolmgaenlfaaGreatDoor
namespace Go.Abs
theorem es4{C:Cx}{r:List It}{s:St}{Q:Exit→St→Prop}{α:Type}(t:Nat){a b:Code}{c:Code}(S:α→St)(b0:α)(h1:go C (.code (.cond (.tmp t) a b):: .stop (fun s'=>∃b,b=b0∧Le C s' (S b)):: .code c::r) s Q)
  (h2:go C (.code c::r) (S b0) Q):go C (.code (.cond (.tmp t) a b):: .code c::r) s Q:=by
 refine be8 _ h1 ?_;rintro s' ⟨b,rfl,hl⟩;exact ac7 hl h2
end Go.Abs
namespace Go.Proofs.YtndgolmgaenlfaaGreatDoor
set_option maxRecDepth 4000
open Go Go.Abs Go.Val Go.RowKit Go.Proofs.Tryz
attribute [local irreducible] go SGo an9 Ev aw1 EvO EvS RGo
theorem es5{L:List (List UInt8)}{i:Nat}{y:List UInt8}(h:L[i]? =some y):(L.take (i+1)).flatten=(L.take i).flatten++y:=by
 rw[gd7,h];simp
theorem es6(l:List PP):(prT l).isEmpty=(l.length==0):=by
 unfold prT prJ
 cases l.length==0<;>simp
theorem es7(S:List UInt8)(l:List PP):S++pbT l (!S.isEmpty)=spT S (prT l):=by
 unfold spT pbT;rw[es6]
 cases hS:S.isEmpty
 ·cases hl:l.length==0
  ·simp
  ·simp
 ·simp
theorem es8{l:List PP}(h:TxP l)(b:Bool):(pbT l b).length≤600036083:=by
 have:=em8 h;unfold pbT
 cases b&& !(l.length==0)<;>simp only[cond_true,cond_false,fy8,fy7,fz2]<;>omega
set_option maxHeartbeats 1000000 in
theorem es9(n:NP)(h:TxN n):Ev E 287 [ct8 n] (.d (.str (bs (ndT n)))):=by
 obtain⟨vr,lb,ps⟩:=n;have hle:(lb.map D.str).length=lb.length:=Oc
 have hlv:=h.v;have hln:=h.n;have hlb:=h.l;have hns:=en0 h;have hp:=es3 ps (!((bs (nsT ⟨vr,lb,ps⟩)).toList==(⟨#[]⟩:ByteArray).toList)) h.p;have zp:=es8 h.p (!((bs (nsT ⟨vr,lb,ps⟩)).toList==(⟨#[]⟩:ByteArray).toList));dsimp only at hlv hln hlb hp zp;have y1:(⟨#[58]⟩:ByteArray).size=1:=rfl;have y2:(⟨#[40]⟩:ByteArray).size=1:=rfl;have y3:(⟨#[41]⟩:ByteArray).size=1:=rfl;have e0:bs (bl vr++((lbL lb).take 0).flatten)=vr:=by rw[gc8];apply er9;simp[bs,bl]
 refine ye1 func287 ntmps287 fun _ _ _=>?_
 repeat'(refine yz ?_)
 refine ac8 (α:=SDx lb) (fun p=>⟨[(3,.d (.str (bs (bl vr++((lbL lb).take p.i).flatten)))),(1,.ptr 0 0),(9,.d (.sl (lb.map .str))),(10,.d (.int (lb.map D.str).length)),(11,.d (.int p.i))],[oNP ⟨vr,lb,ps⟩]⟩) (fun p=>lb.length-p.i) ⟨0,by omega⟩ (by dsimp only;rw[e0];exact(zle 1)) ?_;rintro⟨i,hi⟩;dsimp only;rcases fy5 i lb.length with hlt|hge
 ·have g1:decide ((i:Int)<((lb.map D.str).length:Int))=true:=by rw[hle];simpa using hlt
  have hx0:=fy4 hlt;generalize lb[i]=x at hx0;have hx:=cz1 (f:=D.str) hx0;have zx:=hlb x (fy6 hx0);have hfl:=es5 (L:=lbL lb) (i:=i) (y:=[58]++bl x) (by rw[lbL,fz1,hx0];rfl)
  have zs:(bs (bl vr++((lbL lb).take i).flatten)).size≤31520:=by
   have:=eo3 (lbL lb) i;rw[cf7];simp only[nsT,fy8]at hns ⊢;omega
  have e1:bs (bl vr++((lbL lb).take (i+1)).flatten)=bs (bl vr++((lbL lb).take i).flatten)++(⟨#[58]⟩++x):=by
   rw[hfl];apply er9;simp[bs,bl]
  repeat'(first|refine yz ?_|refine yi (.str x) hx ?_)
  refine ac2 ?_;rw[←e1];exact⟨⟨i+1,by omega⟩,by dsimp only;omega,(zle 1)⟩
 ·have g1:decide ((i:Int)<((lb.map D.str).length:Int))=false:=by rw[hle];simp;omega
  have e1:bl vr++((lbL lb).take i).flatten=nsT ⟨vr,lb,ps⟩:=by rw[ga3 (by simp[lbL];omega)];rfl
  have e2:bs (ndT ⟨vr,lb,ps⟩)=⟨#[40]⟩++bs (nsT ⟨vr,lb,ps⟩)++bs (pbT ps (!((bs (nsT ⟨vr,lb,ps⟩)).toList==(⟨#[]⟩:ByteArray).toList)))++⟨#[41]⟩:=by
   rw[em1];unfold ndT;rw[←es7];apply er9;simp[bs]
  rw[e1,e2];rw[←cf7]at hns zp
  repeat'(first|refine yz ?_|refine yp b332 hp ?_|exact zD)
theorem et0(m:Int):Ev E 331 [.int m] (.d (.str (bs (mwT m)))):=by
 refine ye1 func331 ntmps331 fun _ _ _=>?_
 repeat'(first|refine yz ?_|(refine qV rfl ?_ ?_<;>intro _))
 all_goals(refine congrArg D.str ?_;simp_all [mwT,gd9];rfl)
theorem et1(n:Int):Ev E 151 [.int n] (.d (.str (bs (Lib.itoa n)))):=bx7 n
def tyS(e:EP):List UInt8:=bl e.vr++tyT e.ty
def spS(s:List UInt8):List UInt8:=bif s.isEmpty then []else s++ [32]
def moS(e:EP):List UInt8:=spT (tyS e) (moT e)
theorem tys_le{e:EP}(h:TxG e):(tyS e).length≤33021:=by
 have:=en3 h.n h.l;have:=h.v;have:=el9 e.vr;unfold tyS;rw[fy8];omega
theorem et2{e:EP}(h:TxG e):(moS e).length≤33200:=by
 have:=tys_le h;have:=en6 h;have:=em9 (tyS e) (moT e);unfold moS;omega
theorem et3(e:EP)(h:(e.mode==0)=false):(moT e).isEmpty=false:=by
 unfold moT;rw[h]
 cases mwT e.mode<;>simp
theorem et4(s t:List UInt8)(h:t.isEmpty=false):spS s++t=spT s t:=by
 unfold spS spT;rw[h]
 cases hs:s.isEmpty with
 |true=>
  have:s=[]:=by cases s<;>simp_all
  subst this;rfl
 |false=>simp
set_option maxHeartbeats 4000000 in
theorem et5(e:EP)(h:TxG e):Ev E 286 [ct9 e] (.d (.str (bs (edT e)))):=by
 obtain⟨S1,hS1⟩:∃s,tyS e=s:=⟨_,rfl⟩;obtain⟨S2,hS2⟩:∃s,moS e=s:=⟨_,rfl⟩;obtain⟨S3,hS3⟩:∃s,esT e=s:=⟨_,rfl⟩;have z1:=tys_le h;have z2:=et2 h;have z3:=en7 h;have zj:=en2 h.n h.l;have zv:=h.v;have j1:=es1 (e.ty.map bl) [124] (by have:=h.n;rw[fz3];omega) Oa
 have ej:ch2 (e.ty.map bl)=e.ty.map D.str:=by
  simp only[ch2,List.map_map];refine List.map_congr_left fun s _=>?_
  show D.str (bs (bl s))=D.str s;rw[em0]
 rw[ej]at j1;have hp:=es3 e.ps (!((bs S2).toList==(⟨#[]⟩:ByteArray).toList)) h.p;have zp:=es8 h.p (!((bs S2).toList==(⟨#[]⟩:ByteArray).toList));have hm:=et0 e.mode;have zm:=en4 e.mode;have hmn:=h.mn;have hmx:=h.mx;have d1:=et1 e.mn;have d2:=et1 e.mx;have q1:=en5 (n:=e.mn) Oa;have q2:=en5 (n:=e.mx) Oa
 have l3:(!((bs S1).toList==(⟨#[]⟩:ByteArray).toList))=true→bs S1++⟨#[32]⟩=bs (spS S1):=by
  rw[em1];intro he;unfold spS;rw[Bool.not_eq_true']at he;rw[he];apply er9;simp[bs]
 have l4:(!((bs S1).toList==(⟨#[]⟩:ByteArray).toList))=false→bs S1=bs (spS S1):=by
  rw[em1];intro he;unfold spS;rw[Bool.not_eq_false']at he;rw[he];have:S1=[]:=by cases S1<;>simp_all
  rw[this];rfl
 have l5:(!(e.mode==0))=true→bs (spS S1)++(bs (mwT e.mode)++⟨#[42]⟩++bs (Lib.itoa e.mn)++⟨#[46,46]⟩++bs (Lib.itoa e.mx))=bs S2:=by
  intro he;rw[Bool.not_eq_true']at he;rw[←hS2,moS,←et4 _ _ (et3 e he),hS1];unfold moT;rw[he];apply er9;simp[bs]
 have l6:(!(e.mode==0))=false→bs S1=bs S2:=by
  intro he;rw[Bool.not_eq_false']at he;rw[←hS2,moS,hS1];unfold moT spT;rw[he];simp
 have l7:bs S2++bs (pbT e.ps (!((bs S2).toList==(⟨#[]⟩:ByteArray).toList)))=bs S3:=by
  rw[em1,cf5,es7,←hS3,←hS2];rfl
 have l8:(e.dir==1)=true→⟨#[45,91]⟩++bs S3++⟨#[93,45,62]⟩=bs (edT e):=by
  intro he;unfold edT;rw[he,hS3];apply er9;simp[bs]
 have l9:(e.dir==1)=false→(e.dir==2)=true→⟨#[60,45,91]⟩++bs S3++⟨#[93,45]⟩=bs (edT e):=by
  intro he he2;unfold edT;rw[he,he2,hS3];apply er9;simp[bs]
 have l10:(e.dir==1)=false→(e.dir==2)=false→⟨#[45,91]⟩++bs S3++⟨#[93,45]⟩=bs (edT e):=by
  intro he he2;unfold edT;rw[he,he2,hS3];apply er9;simp[bs]
 have l1:decide (((e.ty.map D.str).length:Int)>0)=true→e.vr++(⟨#[58]⟩++bs (Lib.join (e.ty.map bl) [124]))=bs S1:=by
  intro he;have:(e.ty.length==0)=false:=by simp at he ⊢;intro h0;rw[h0]at he;simp at he
  rw[←hS1];unfold tyS tyT;rw[this];apply er9;simp[bs,bl]
 have l2:decide (((e.ty.map D.str).length:Int)>0)=false→e.vr=bs S1:=by
  intro he;have:(e.ty.length==0)=true:=by simp at he ⊢;exact he
  rw[←hS1];unfold tyS tyT;rw[this];apply er9;simp[bs,bl]
 rw[hS1]at z1;rw[hS2]at z2;rw[hS3]at z3;rw[←cf7]at z1 z2 z3 zj zp zm q1 q2
 have z4:(bs (spS S1)).size≤33030:=by
  have:(spS S1).length≤S1.length+1:=by unfold spS;cases S1.isEmpty<;>simp
  rw[cf7]at z1 ⊢;omega
 generalize bs (edT e)=R at*;obtain⟨vr,ty,dir,mode,mn,mx,ps⟩:=e;dsimp only at*;have y1:(⟨#[58]⟩:ByteArray).size=1:=rfl;have y2:(⟨#[32]⟩:ByteArray).size=1:=rfl;have y3:(⟨#[42]⟩:ByteArray).size=1:=rfl;have y4:(⟨#[46,46]⟩:ByteArray).size=2:=rfl;have y5:(⟨#[45,91]⟩:ByteArray).size=2:=rfl;have y6:(⟨#[93,45,62]⟩:ByteArray).size=3:=rfl;have y7:(⟨#[60,45,91]⟩:ByteArray).size=3:=rfl;have y8:(⟨#[93,45]⟩:ByteArray).size=2:=rfl;clear hS1 hS2 hS3 ej h hmn hmx;generalize bs (Lib.join (ty.map bl) [124])=J at*;generalize bs (pbT ps (!((bs S2).toList==(⟨#[]⟩:ByteArray).toList)))=PB at*;generalize bs (mwT mode)=MW at*;generalize bs (Lib.itoa mn)=I1 at*;generalize bs (Lib.itoa mx)=I2 at*;generalize bs (spS S1)=T1 at*;generalize bs S1=B1 at*;generalize bs S2=B2 at*;generalize bs S3=B3 at*;refine ye1 func286 ntmps286 fun _ _ _=>?_
 repeat'(first|(refine es4 9 (fun b=>⟨[(3,.d (.str b)),(1,.ptr 0 0)],[oEP ⟨vr,ty,dir,mode,mn,mx,ps⟩]⟩) B1 ?_ ?_)|(refine es4 18 (fun b=>⟨[(3,.d (.str b)),(1,.ptr 0 0)],[oEP ⟨vr,ty,dir,mode,mn,mx,ps⟩]⟩) B2 ?_ ?_)|(refine es4 20 (fun b=>⟨[(3,.d (.str b)),(1,.ptr 0 0)],[oEP ⟨vr,ty,dir,mode,mn,mx,ps⟩]⟩) T1 ?_ ?_)|refine be9 8 (fun b=>⟨[(3,.d (.str b)),(1,.ptr 0 0)],[oEP ⟨vr,ty,dir,mode,mn,mx,ps⟩]⟩) (B3) ?_ ?_|refine yz ?_|refine yp b84 j1 ?_|refine yp b331 hm ?_|refine qP (d:=30) rfl rfl rfl rfl rfl rfl br7 (d1) ?_|refine qP (d:=35) rfl rfl rfl rfl rfl rfl br7 (d2) ?_|refine yp b332 hp ?_|refine ac2 ⟨_,?_,(zle 1)⟩|(refine qV rfl ?_ ?_<;>intro _))
 all_goals first|exact l1 Of|exact l2 Of|exact l3 Of|exact l4 Of|exact l5 Of|exact l6 Of|exact l7|exact congrArg D.str (l8 Of)|exact congrArg D.str (l9 Of Of)|exact congrArg D.str (l10 Of Of)|skip
theorem pv_bs(p:PA):bs (pvT p)=bif p.vr.toList==(⟨#[]⟩:ByteArray).toList then⟨#[]⟩else p.vr++⟨#[32,61,32]⟩:=by
 unfold pvT s0B isS
 cases p.vr.toList==(⟨#[]⟩:ByteArray).toList
 ·apply er9;simp[bs,bl]
 ·rfl
theorem et6{p:PA}(h:p.vr.size≤20):(pvT p).length≤23:=by
 have:=el9 p.vr;unfold pvT
 cases s0B p.vr<;>simp only[cond_true,cond_false,fy8,fy7,fz2]<;>omega
theorem pat0(p:PA):bs (pvT p++((paL p).take 0).flatten)=bs (pvT p):=by rw[gc8];simp
theorem et7{p:PA}{i:Nat}(h:(paL p).length≤i):bs (pvT p++((paL p).take i).flatten)=bs (paT p):=by rw[ga3 h];rfl
theorem pat_0{p:PA}{n:NP}(h:p.ns[0]? =some n):bs (pvT p++((paL p).take 0).flatten)++bs (ndT n)=bs (pvT p++((paL p).take 1).flatten):=by
 rw[es5 (en9 (a:=[]) rfl h)];apply er9;simp[bs]
theorem pat_s{p:PA}{i:Nat}{n:NP}{e:EP}(h:p.ns[i]? =some n)(hi:0<i)(he:p.es[i-1]? =some e):bs (pvT p++((paL p).take i).flatten)++bs (edT e)++bs (ndT n)=bs (pvT p++((paL p).take (i+1)).flatten):=by
 have h1:([]::p.es.map edT)[i]? =some (edT e):=by
  obtain⟨j,rfl⟩:∃j,i=j+1:=⟨i-1,by omega⟩;rw[gj5,fz1];rw[Nat.add_sub_cancel]at he;rw[he];rfl
 rw[es5 (en9 h1 h)];apply er9;simp[bs]
theorem et8{p:PA}(h:TxA p)(i:Nat):(bs (pvT p++((paL p).take i).flatten)).size≤8400967000:=by
 have h1:=eo3 (paL p) i;have h2:=eo4 h;have h3:=et6 h.v;rw[cf7,fy8];omega
set_option maxHeartbeats 4000000 in
theorem et9(l:List PA)(hn:l.length≤8)(h:∀p∈l,TxA p):Ev E 229 [.sl (l.map cu0)] (.d (.str (bs (Lib.join (l.map paT) [44,32])))):=by
 have hle:(l.map cu0).length=l.length:=Oc
 have hj:=es1 (l.map paT) [44,32] (by rw[fz3];omega) (by have:=eo6 hn h;omega);have y1:(⟨#[32,61,32]⟩:ByteArray).size=3:=rfl;refine ye1 func229 ntmps229 fun _ _ _=>?_
 repeat'(refine yz ?_)
 refine ac8 (α:=SDx l) (fun p=>⟨[(3,bh5 0 (ch2 ((l.take p.i).map paT))),(9,.d (.sl (l.map cu0))),(10,.d (.int (l.map cu0).length)),(11,.d (.int p.i))],ay0 9 1 (ch2 ((l.take p.i).map paT))⟩) (fun p=>l.length-p.i) ⟨0,by omega⟩ (zle 0) ?_;rintro⟨i,hi⟩;dsimp only;have hol:(ch2 ((l.take i).map paT)).length≤1000000:=by simp[ch2];omega
 rcases fy5 i l.length with hlt|hge
 ·have g1:decide ((i:Int)<((l.map cu0).length:Int))=true:=by rw[hle];simpa using hlt
  have hx0:=fy4 hlt;generalize l[i]=x at hx0;have hx:=cz1 (f:=cu0) hx0;have hm:=fy6 hx0;have hT:=h x hm;have hnx:=es0 (f:=paT) hx0;have zpa:=eo5 hT;rw[←cf7]at zpa;generalize ch2 ((l.take i).map paT)=o at*;clear hx0;have hpv:=pv_bs x;have hzp:(bs (pvT x)).size≤23:=by rw[cf7];exact et6 hT.v
  have hp0:=pat0 x;have hvr:=hT.v;have hes:=hT.m;have hnn:=hT.n;have hall:=fun j=>et7 (p:=x) (i:=j)
  have hlen:=eo0 hnn;have hs0:=fun n=>pat_0 (p:=x) (n:=n)
  have hss:=fun j n e=>pat_s (p:=x) (i:=j) (n:=n) (e:=e)
  have hle2:=et8 hT;have hN:=hT.ns;have hE:=hT.es;obtain⟨vr,ns,es⟩:=x;dsimp only at hpv hvr hes hnn hs0 hss hlen hN hE;have hln:(ns.map ct8).length=ns.length:=Oc
  have hlee:(es.map ct9).length=es.length:=Oc
  have hfin:bs (pvT ⟨vr,ns,es⟩++((paL ⟨vr,ns,es⟩).take ns.length).flatten)=bs (paT ⟨vr,ns,es⟩):=hall _ Oa
  match o,hol with
  |[],hol=>
   dsimp only[bh5,ay0]
   cases hv:vr.toList==(⟨#[]⟩:ByteArray).toList with
   |true=>
    rw[hv]at hpv;simp only[cond_true,cond_false]at hpv;have hv2:(!(vr.toList==(⟨#[]⟩:ByteArray).toList))= !true:=by rw[hv]
    simp only[gg0,gf3]at hv2
    repeat'(first|refine yz ?_|refine yi (cu0 ⟨vr,ns,es⟩) hx ?_)
    refine ac8 (α:=SDx ns) (fun p=>⟨[(3,.nilS),(9,.d (.sl (l.map cu0))),(10,.d (.int (l.map cu0).length)),(11,.d (.int i)),(5,.ptr 0 0),(6,.d (.str (bs (pvT ⟨vr,ns,es⟩++((paL ⟨vr,ns,es⟩).take p.i).flatten)))),(22,.d (.sl (ns.map ct8))),(23,.d (.int (ns.map ct8).length)),(24,.d (.int p.i))],[oPA ⟨vr,ns,es⟩]⟩) (fun p=>ns.length-p.i) ⟨0,by omega⟩ (by dsimp only;rw[hp0,hpv];exact(zle 1)) ?_;rintro⟨j,hj⟩;dsimp only;rcases fy5 j ns.length with hlt2|hge2
    ·have k1:decide ((j:Int)<((ns.map ct8).length:Int))=true:=by rw[hln];simpa using hlt2
     have hy0:=fy4 hlt2;generalize ns[j]=n at hy0;have hy:=cz1 (f:=ct8) hy0;have hTn:=hN n (fy6 hy0);have hnd:=es9 n hTn;have znd:=en1 hTn;rw[←cf7]at znd;have zs:=hle2 j
     by_cases hj0:j=0
     ·subst hj0;have k2:decide (((0:Nat):Int)>0)=false:=rfl;have e1:=hs0 n hy0
      repeat'(first|refine yz ?_|refine yi (ct8 n) hy ?_|refine yp bt3 hnd ?_)
      refine ac2 ?_;rw[e1];exact⟨⟨1,by omega⟩,by dsimp only;omega,(zle 1)⟩
     ·have k2:decide ((j:Int)>0)=true:=by simp;omega
      have hw0:=fy4 (l:=es) (i:=j-1) Oa;generalize es[j-1]=w at hw0
      have hw:(es.map ct9)[((j:Int) -1).toNat]? =some (ct9 w):=by
       have:=cz1 (f:=ct9) hw0;rw[show((j:Int) -1).toNat=j-1 by omega];rw[gb1]at this;exact this
      have hTe:=hE w (fy6 hw0);have hed:=et5 w hTe;have zed:=en8 hTe;rw[←cf7]at zed;have e1:=hss j n w hy0 Oa hw0
      repeat'(first|refine yz ?_|refine yi (ct8 n) hy ?_|refine yi (ct9 w) hw ?_|refine yp bt3 hnd ?_|refine yp b286 hed ?_)
      refine ac2 ?_;rw[e1];exact⟨⟨j+1,by omega⟩,by dsimp only;omega,(zle 1)⟩
    ·have k1:decide ((j:Int)<((ns.map ct8).length:Int))=false:=by rw[hln];simp;omega
     obtain rfl:j=ns.length:=Oa
     rw[hfin]
     repeat'(first|refine yz ?_|(refine qS rfl ⟨by simp,fun d hd=>by(obtain rfl:=ga4.1 hd;rfl),by(show(0+1)*16≤140737488355328;omega),by(show 0+1≤9223372036854775807;omega)⟩ ?_))
     refine ac2 ?_;refine⟨⟨i+1,by omega⟩,by dsimp only;omega,?_⟩;dsimp only;rw[hnx];exact(bi7 [1])
   |false=>
    rw[hv]at hpv;simp only[cond_true,cond_false]at hpv;have hv2:(!(vr.toList==(⟨#[]⟩:ByteArray).toList))= !false:=by rw[hv]
    simp only[gg0,gf3]at hv2
    repeat'(first|refine yz ?_|refine yi (cu0 ⟨vr,ns,es⟩) hx ?_)
    refine ac8 (α:=SDx ns) (fun p=>⟨[(3,.nilS),(9,.d (.sl (l.map cu0))),(10,.d (.int (l.map cu0).length)),(11,.d (.int i)),(5,.ptr 0 0),(6,.d (.str (bs (pvT ⟨vr,ns,es⟩++((paL ⟨vr,ns,es⟩).take p.i).flatten)))),(22,.d (.sl (ns.map ct8))),(23,.d (.int (ns.map ct8).length)),(24,.d (.int p.i))],[oPA ⟨vr,ns,es⟩]⟩) (fun p=>ns.length-p.i) ⟨0,by omega⟩ (by dsimp only;rw[hp0,hpv];exact(zle 1)) ?_;rintro⟨j,hj⟩;dsimp only;rcases fy5 j ns.length with hlt2|hge2
    ·have k1:decide ((j:Int)<((ns.map ct8).length:Int))=true:=by rw[hln];simpa using hlt2
     have hy0:=fy4 hlt2;generalize ns[j]=n at hy0;have hy:=cz1 (f:=ct8) hy0;have hTn:=hN n (fy6 hy0);have hnd:=es9 n hTn;have znd:=en1 hTn;rw[←cf7]at znd;have zs:=hle2 j
     by_cases hj0:j=0
     ·subst hj0;have k2:decide (((0:Nat):Int)>0)=false:=rfl;have e1:=hs0 n hy0
      repeat'(first|refine yz ?_|refine yi (ct8 n) hy ?_|refine yp bt3 hnd ?_)
      refine ac2 ?_;rw[e1];exact⟨⟨1,by omega⟩,by dsimp only;omega,(zle 1)⟩
     ·have k2:decide ((j:Int)>0)=true:=by simp;omega
      have hw0:=fy4 (l:=es) (i:=j-1) Oa;generalize es[j-1]=w at hw0
      have hw:(es.map ct9)[((j:Int) -1).toNat]? =some (ct9 w):=by
       have:=cz1 (f:=ct9) hw0;rw[show((j:Int) -1).toNat=j-1 by omega];rw[gb1]at this;exact this
      have hTe:=hE w (fy6 hw0);have hed:=et5 w hTe;have zed:=en8 hTe;rw[←cf7]at zed;have e1:=hss j n w hy0 Oa hw0
      repeat'(first|refine yz ?_|refine yi (ct8 n) hy ?_|refine yi (ct9 w) hw ?_|refine yp bt3 hnd ?_|refine yp b286 hed ?_)
      refine ac2 ?_;rw[e1];exact⟨⟨j+1,by omega⟩,by dsimp only;omega,(zle 1)⟩
    ·have k1:decide ((j:Int)<((ns.map ct8).length:Int))=false:=by rw[hln];simp;omega
     obtain rfl:j=ns.length:=Oa
     rw[hfin]
     repeat'(first|refine yz ?_|(refine qS rfl ⟨by simp,fun d hd=>by(obtain rfl:=ga4.1 hd;rfl),by(show(0+1)*16≤140737488355328;omega),by(show 0+1≤9223372036854775807;omega)⟩ ?_))
     refine ac2 ?_;refine⟨⟨i+1,by omega⟩,by dsimp only;omega,?_⟩;dsimp only;rw[hnx];exact(bi7 [1])
  |a::q,hol=>
   dsimp only[bh5,ay0]
   cases hv:vr.toList==(⟨#[]⟩:ByteArray).toList with
   |true=>
    rw[hv]at hpv;simp only[cond_true,cond_false]at hpv;have hv2:(!(vr.toList==(⟨#[]⟩:ByteArray).toList))= !true:=by rw[hv]
    simp only[gg0,gf3]at hv2
    repeat'(first|refine yz ?_|refine yi (cu0 ⟨vr,ns,es⟩) hx ?_)
    refine ac8 (α:=SDx ns) (fun p=>⟨[(3,.own 0),(9,.d (.sl (l.map cu0))),(10,.d (.int (l.map cu0).length)),(11,.d (.int i)),(5,.ptr 1 0),(6,.d (.str (bs (pvT ⟨vr,ns,es⟩++((paL ⟨vr,ns,es⟩).take p.i).flatten)))),(22,.d (.sl (ns.map ct8))),(23,.d (.int (ns.map ct8).length)),(24,.d (.int p.i))],[.row 9 1 (a::q),oPA ⟨vr,ns,es⟩]⟩) (fun p=>ns.length-p.i) ⟨0,by omega⟩ (by dsimp only;rw[hp0,hpv];exact(zle 2)) ?_;rintro⟨j,hj⟩;dsimp only;rcases fy5 j ns.length with hlt2|hge2
    ·have k1:decide ((j:Int)<((ns.map ct8).length:Int))=true:=by rw[hln];simpa using hlt2
     have hy0:=fy4 hlt2;generalize ns[j]=n at hy0;have hy:=cz1 (f:=ct8) hy0;have hTn:=hN n (fy6 hy0);have hnd:=es9 n hTn;have znd:=en1 hTn;rw[←cf7]at znd;have zs:=hle2 j
     by_cases hj0:j=0
     ·subst hj0;have k2:decide (((0:Nat):Int)>0)=false:=rfl;have e1:=hs0 n hy0
      repeat'(first|refine yz ?_|refine yi (ct8 n) hy ?_|refine yp bt3 hnd ?_)
      refine ac2 ?_;rw[e1];exact⟨⟨1,by omega⟩,by dsimp only;omega,(zle 2)⟩
     ·have k2:decide ((j:Int)>0)=true:=by simp;omega
      have hw0:=fy4 (l:=es) (i:=j-1) Oa;generalize es[j-1]=w at hw0
      have hw:(es.map ct9)[((j:Int) -1).toNat]? =some (ct9 w):=by
       have:=cz1 (f:=ct9) hw0;rw[show((j:Int) -1).toNat=j-1 by omega];rw[gb1]at this;exact this
      have hTe:=hE w (fy6 hw0);have hed:=et5 w hTe;have zed:=en8 hTe;rw[←cf7]at zed;have e1:=hss j n w hy0 Oa hw0
      repeat'(first|refine yz ?_|refine yi (ct8 n) hy ?_|refine yi (ct9 w) hw ?_|refine yp bt3 hnd ?_|refine yp b286 hed ?_)
      refine ac2 ?_;rw[e1];exact⟨⟨j+1,by omega⟩,by dsimp only;omega,(zle 2)⟩
    ·have k1:decide ((j:Int)<((ns.map ct8).length:Int))=false:=by rw[hln];simp;omega
     obtain rfl:j=ns.length:=Oa
     rw[hfin]
     repeat'(first|refine yz ?_|(refine qS rfl ⟨by simp,fun d hd=>by(obtain rfl:=ga4.1 hd;rfl),by(show((a::q).length+1)*16≤140737488355328;omega),by(show(a::q).length+1≤9223372036854775807;omega)⟩ ?_))
     refine ac2 ?_;refine⟨⟨i+1,by omega⟩,by dsimp only;omega,?_⟩;dsimp only;rw[hnx];exact(bi7 [2])
   |false=>
    rw[hv]at hpv;simp only[cond_true,cond_false]at hpv;have hv2:(!(vr.toList==(⟨#[]⟩:ByteArray).toList))= !false:=by rw[hv]
    simp only[gg0,gf3]at hv2
    repeat'(first|refine yz ?_|refine yi (cu0 ⟨vr,ns,es⟩) hx ?_)
    refine ac8 (α:=SDx ns) (fun p=>⟨[(3,.own 0),(9,.d (.sl (l.map cu0))),(10,.d (.int (l.map cu0).length)),(11,.d (.int i)),(5,.ptr 1 0),(6,.d (.str (bs (pvT ⟨vr,ns,es⟩++((paL ⟨vr,ns,es⟩).take p.i).flatten)))),(22,.d (.sl (ns.map ct8))),(23,.d (.int (ns.map ct8).length)),(24,.d (.int p.i))],[.row 9 1 (a::q),oPA ⟨vr,ns,es⟩]⟩) (fun p=>ns.length-p.i) ⟨0,by omega⟩ (by dsimp only;rw[hp0,hpv];exact(zle 2)) ?_;rintro⟨j,hj⟩;dsimp only;rcases fy5 j ns.length with hlt2|hge2
    ·have k1:decide ((j:Int)<((ns.map ct8).length:Int))=true:=by rw[hln];simpa using hlt2
     have hy0:=fy4 hlt2;generalize ns[j]=n at hy0;have hy:=cz1 (f:=ct8) hy0;have hTn:=hN n (fy6 hy0);have hnd:=es9 n hTn;have znd:=en1 hTn;rw[←cf7]at znd;have zs:=hle2 j
     by_cases hj0:j=0
     ·subst hj0;have k2:decide (((0:Nat):Int)>0)=false:=rfl;have e1:=hs0 n hy0
      repeat'(first|refine yz ?_|refine yi (ct8 n) hy ?_|refine yp bt3 hnd ?_)
      refine ac2 ?_;rw[e1];exact⟨⟨1,by omega⟩,by dsimp only;omega,(zle 2)⟩
     ·have k2:decide ((j:Int)>0)=true:=by simp;omega
      have hw0:=fy4 (l:=es) (i:=j-1) Oa;generalize es[j-1]=w at hw0
      have hw:(es.map ct9)[((j:Int) -1).toNat]? =some (ct9 w):=by
       have:=cz1 (f:=ct9) hw0;rw[show((j:Int) -1).toNat=j-1 by omega];rw[gb1]at this;exact this
      have hTe:=hE w (fy6 hw0);have hed:=et5 w hTe;have zed:=en8 hTe;rw[←cf7]at zed;have e1:=hss j n w hy0 Oa hw0
      repeat'(first|refine yz ?_|refine yi (ct8 n) hy ?_|refine yi (ct9 w) hw ?_|refine yp bt3 hnd ?_|refine yp b286 hed ?_)
      refine ac2 ?_;rw[e1];exact⟨⟨j+1,by omega⟩,by dsimp only;omega,(zle 2)⟩
    ·have k1:decide ((j:Int)<((ns.map ct8).length:Int))=false:=by rw[hln];simp;omega
     obtain rfl:j=ns.length:=Oa
     rw[hfin]
     repeat'(first|refine yz ?_|(refine qS rfl ⟨by simp,fun d hd=>by(obtain rfl:=ga4.1 hd;rfl),by(show((a::q).length+1)*16≤140737488355328;omega),by(show(a::q).length+1≤9223372036854775807;omega)⟩ ?_))
     refine ac2 ?_;refine⟨⟨i+1,by omega⟩,by dsimp only;omega,?_⟩;dsimp only;rw[hnx];exact(bi7 [2])
 ·have g1:decide ((i:Int)<((l.map cu0).length:Int))=false:=by rw[hle];simp;omega
  rw[ga3 hge];generalize ch2 (l.map paT)=o at*
  match o,hj with
  |[],hj=>
   dsimp only[bh5,ay0]
   repeat'(first|refine yz ?_|refine yp b84 hj ?_|exact zD)
  |a::q,hj=>
   dsimp only[bh5,ay0];refine qA ?_;refine av3 0 rfl ?_
   repeat'(first|refine yz ?_|refine yp b84 hj ?_|exact zD)
theorem wh_bs(x:Ex)(r:List Ex):bs (whT (x::r))=⟨#[32,87,72,69,82,69,32]⟩++bs (txE x):=by apply er9;simp[bs,whT]
theorem eu0(l:List Ex)(h:∀e∈l,TxX e):Ev E 230 [.sl (bz0 l)] (.d (.str (bs (whT l)))):=by
 have y1:(⟨#[32,87,72,69,82,69,32]⟩:ByteArray).size=7:=rfl
 match l,h with
 |[],h=>
  have e:bs (whT [])=⟨#[]⟩:=rfl;have g:(((bz0 []).length:Int)==0)=true:=rfl;rw[e];refine ye1 func230 ntmps230 fun _ _ _=>?_
  exact Om
 |x::r,h=>
  have hx:(bz0 (x::r))[((0:Nat):Int).toNat]? =some (bz1 x):=rfl;have g:(((bz0 (x::r)).length:Int)==0)=false:=by rw[bz7];simp;omega
  have g1:(bz0 (x::r)).length=r.length+1:=by rw[bz7];rfl
  have ht:=es2 (h x Oc);have zt:=em6 (h x Oc);rw[←cf7]at zt;rw[wh_bs];generalize bz0 (x::r)=L at*;refine ye1 func230 ntmps230 fun _ _ _=>?_
  repeat'(first|refine yz ?_|refine yi (bz1 x) hx ?_|refine yp bs8 ht ?_|exact zD)
theorem cm1t{c:CL}(h:(c.k==1)=true)(ho:c.opt=true):bs (clT c)=⟨#[79,80,84,73,79,78,65,76,32]⟩++(⟨#[77,65,84,67,72,32]⟩++bs (Lib.join (c.ps.map paT) [44,32])++bs (whT c.wh)):=by unfold clT;rw[h,ho];apply er9;simp[bs]
theorem cm1f{c:CL}(h:(c.k==1)=true)(ho:c.opt=false):bs (clT c)=⟨#[77,65,84,67,72,32]⟩++bs (Lib.join (c.ps.map paT) [44,32])++bs (whT c.wh):=by unfold clT;rw[h,ho];apply er9;simp[bs]
set_option maxHeartbeats 4000000 in
theorem eu1(c:CL)(h:TxC c)(h1:(c.k==1)=true):Ev E 153 [cu4 c] (.d (.str (bs (clT c)))):=by
 have hp:=et9 c.ps h.pn h.p;have zp:=eo6 h.pn h.p;have hw:=eu0 c.wh h.w;have zw:=eo7 h.w;rw[←cf7]at zp zw;have y0:(⟨#[79,80,84,73,79,78,65,76,32]⟩:ByteArray).size=9:=rfl;have y1:(⟨#[77,65,84,67,72,32]⟩:ByteArray).size=6:=rfl
 cases ho:c.opt with
 |true=>
  rw[cm1t h1 ho];clear h;obtain⟨k,opt,ds,ps,wh,e,nm,it,od,sk,lm,st,ns⟩:=c;dsimp only at*;refine ye1 func153 ntmps153 fun _ _ _=>?_
  repeat'(first|refine yz ?_|refine yp b229 hp ?_|refine yp b230 hw ?_|exact zD)
 |false=>
  rw[cm1f h1 ho];clear h;obtain⟨k,opt,ds,ps,wh,e,nm,it,od,sk,lm,st,ns⟩:=c;dsimp only at*;refine ye1 func153 ntmps153 fun _ _ _=>?_
  repeat'(first|refine yz ?_|refine yp b229 hp ?_|refine yp b230 hw ?_|exact zD)
def P0(c:CL):List UInt8:=[32]++dsT c.ds
def P1(c:CL):List UInt8:=P0 c++Lib.join (c.it.map itT) [44,32]
def P2(c:CL):List UInt8:=P1 c++obT c.od
def P3(c:CL):List UInt8:=P2 c++bdT skT c.sk
def P4(c:CL):List UInt8:=P3 c++bdT lmT c.lm
end Go.Proofs.YtndgolmgaenlfaaGreatDoor
