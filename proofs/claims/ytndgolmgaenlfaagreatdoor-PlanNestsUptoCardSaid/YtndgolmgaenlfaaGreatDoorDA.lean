/- Clauses as canonical text: what both texts write, and how long it is; The text of a checked expression is one line; The text of a checked MATCH clause is one line; Plans as text: what is written, and that a checked plan has a line for each operator; Small clauses, and what the checks grant of them; Properties of a pattern as text, by both texts; Node and edge patterns as text, by both texts; Edge patterns as text, by both texts; Edge patterns as text, by the specification; Path patterns as text, by both texts; Conditions, bounds, names and columns as text, by both texts; A MATCH clause as text. Conditions: each part's own, as it says. -/
import Derived.Test.YtndgolmgaenlfaaGreatDoorGC
import Derived.Test.YtndgolmgaenlfaaGreatDoorCA
import Derived.Test.YtndgolmgaenlfaaGreatDoorFB
set_option linter.unusedVariables false
set_option linter.unusedSimpArgs false
namespace Go.Proofs.YtndgolmgaenlfaaGreatDoor
set_option maxRecDepth 4000
open Go Go.Abs Go.Val Go.RowKit Go.Proofs.Tryz
def bl(s:ByteArray):List UInt8:=s.data.toList
theorem eb2(s:ByteArray):(bl s).length=s.size:=by simp[bl]
theorem eb3(s:ByteArray):bs (bl s)=s:=bw4 s
theorem eb4(x:List UInt8):((bs x).toList==(⟨#[]⟩:ByteArray).toList)=x.isEmpty:=by
 rw[ByteArray.toList_eq,ByteArray.toList_eq];show(x.toArray.toList==([]:List UInt8))=x.isEmpty
 cases x<;>rfl
theorem em_s0(s:ByteArray):s0B s=(bl s).isEmpty:=by
 have h:=eb4 (bl s);rw[eb3]at h;exact h
theorem eb5{x:List UInt8}:x.isEmpty=decide (x.length=0):=by cases x<;>simp
theorem eb6(B:Nat):∀xs:List (List UInt8),(∀x∈xs,x.length≤B)→xs.flatten.length≤xs.length*B
 |[],_=>by simp
 |a::r,h=>by
  have h1:=h a (by simp);have h2:=eb6 B r fun x hx=>h x (by simp[hx])
  rw[List.flatten_cons,es2,es3,ex9];omega
theorem eb7(B:Nat)(sep:List UInt8)(hs:sep.length≤2)(xs:List (List UInt8))(h:∀x∈xs,x.length≤B):(Lib.join xs sep).length≤xs.length*(B+2):=by
 refine ev9 (cm6 sep hs xs) ?_
 induction xs with
 |nil=>simp
 |cons a r ih=>
  have h1:=h a (by simp);have h2:=ih fun x hx=>h x (by simp[hx])
  rw[eu5,List.sum_cons,es3,ex9];omega
def ppT(p:PP):List UInt8:=bl p.key++ [58,32]++txE p.e
def prJ(l:List PP):List UInt8:=[123]++Lib.join (l.map ppT) [44,32]++ [125]
def prT(l:List PP):List UInt8:=bif l.length==0 then []else prJ l
def spT(a b:List UInt8):List UInt8:=bif a.isEmpty||b.isEmpty then a++b else a++ [32]++b
def lbL(l:List ByteArray):List (List UInt8):=l.map fun s=>[58]++bl s
def nsT(n:NP):List UInt8:=bl n.vr++(lbL n.lb).flatten
def ndT(n:NP):List UInt8:=[40]++spT (nsT n) (prT n.ps)++ [41]
def tyT(l:List ByteArray):List UInt8:=bif l.length==0 then []else [58]++Lib.join (l.map bl) [124]
def mwT(m:Int):List UInt8:=
 bif m==2 then [84,82,65,73,76,32]else
 bif m==3 then [83,73,77,80,76,69,32]else
 bif m==4 then [83,72,79,82,84,69,83,84,32]else
 bif m==5 then [65,78,89,32,83,72,79,82,84,69,83,84,32]else []
def moT(e:EP):List UInt8:=bif e.mode==0 then []else mwT e.mode++([42]++Lib.itoa e.mn++ [46,46]++Lib.itoa e.mx)
def esT(e:EP):List UInt8:=spT (spT (bl e.vr++tyT e.ty) (moT e)) (prT e.ps)
def edT(e:EP):List UInt8:=
 bif e.dir==1 then [45,91]++esT e++ [93,45,62]else
 bif e.dir==2 then [60,45,91]++esT e++ [93,45]else [45,91]++esT e++ [93,45]
def pvT(p:PA):List UInt8:=bif s0B p.vr then []else bl p.vr++ [32,61,32]
def paL(p:PA):List (List UInt8):=List.zipWith (fun a n=>a++ndT n) ([]::p.es.map edT) p.ns
def paT(p:PA):List UInt8:=pvT p++(paL p).flatten
def whT(l:List Ex):List UInt8:=match l with|[]=>[]|e::_=>[32,87,72,69,82,69,32]++txE e
def bdT(w:List UInt8)(n:Int):List UInt8:=bif decide (n<0)then []else [32]++w++ [32]++Lib.itoa n
def skT:List UInt8:=[83,75,73,80]
def lmT:List UInt8:=[76,73,77,73,84]
def itT(x:IT):List UInt8:=txE x.e++ [32,65,83,32]++bl x.asn
def odT(x:SK):List UInt8:=bif x.dc then txE x.e++ [32,68,69,83,67]else txE x.e
def obT(l:List SK):List UInt8:=bif l.length==0 then []else [32,79,82,68,69,82,32,66,89,32]++Lib.join (l.map odT) [44,32]
def dsT(b:Bool):List UInt8:=bif b then [68,73,83,84,73,78,67,84,32]else []
def pjT(c:CL):List UInt8:=dsT c.ds++Lib.join (c.it.map itT) [44,32]++obT c.od++bdT skT c.sk++bdT lmT c.lm++whT c.wh
def rmF(x:SIt):Bool:=bif !(s0B x.lb)then x.off else x.e.op==1&&x.e.v.k==0
def asT(x:SIt):List UInt8:=
 bif !(s0B x.lb)then bl x.vr++ [58]++bl x.lb else
 bif rmF x then bl x.vr++ [46]++bl x.key else bl x.vr++ [46]++bl x.key++ [32,61,32]++txE x.e
def sepT(p:Option SIt)(x:SIt):List UInt8:=
 bif (match p with|none=>false|some y=>rmF y==rmF x)then [44,32]else
 (bif p.isSome then [32]else [])++(bif rmF x then [82,69,77,79,86,69,32]else [83,69,84,32])
def seL:Option SIt→List SIt→List (List UInt8)
 |_,[]=>[]
 |p,x::r=>(sepT p x++asT x)::seL (some x) r
def seT(l:List SIt):List UInt8:=(seL none l).flatten
def clT(c:CL):List UInt8:=
 bif c.k==1 then(bif c.opt then [79,80,84,73,79,78,65,76,32]else [])++([77,65,84,67,72,32]++Lib.join (c.ps.map paT) [44,32]++whT c.wh)else
 bif c.k==2 then [85,78,87,73,78,68,32]++txE c.e++ [32,65,83,32]++bl c.nm else
 bif c.k==3 then [87,73,84,72,32]++pjT c else
 bif c.k==4 then [82,69,84,85,82,78,32]++pjT c else
 bif c.k==5 then [67,82,69,65,84,69,32]++Lib.join (c.ps.map paT) [44,32]else
 bif c.k==6 then [77,69,82,71,69,32]++Lib.join (c.ps.map paT) [44,32]else
 bif c.k==7 then seT c.st else
 (bif c.opt then [68,69,84,65,67,72,32]else [])++([68,69,76,69,84,69,32]++Lib.join (c.ns.map bl) [44,32])
def TxX(e:Ex):Prop:=alE smN e∧nd e≤400
structure TxP(l:List PP):Prop where
 n:l.length≤1500
 k:∀p∈l,p.key.size≤20
 e:∀p∈l,TxX p.e
structure TxN(x:NP):Prop where
 v:x.vr.size≤20
 n:x.lb.length≤1500
 l:∀s∈x.lb,s.size≤20
 p:TxP x.ps
structure TxG(x:EP):Prop where
 v:x.vr.size≤20
 n:x.ty.length≤1500
 l:∀s∈x.ty,s.size≤20
 mn:0≤x.mn∧x.mn≤6
 mx:0≤x.mx∧x.mx≤6
 p:TxP x.ps
structure TxA(p:PA):Prop where
 v:p.vr.size≤20
 n:p.ns.length=p.es.length+1
 m:p.es.length≤6
 ns:∀n∈p.ns,TxN n
 es:∀e∈p.es,TxG e
structure TxI(x:SIt):Prop where
 v:x.vr.size≤20
 l:x.lb.size≤20
 k:x.key.size≤20
 e:s0B x.lb=true→TxX x.e
structure TxC(c:CL):Prop where
 pn:c.ps.length≤8
 p:∀p∈c.ps,TxA p
 w:∀e∈c.wh,TxX e
 e:c.k=2→TxX c.e∧c.nm.size≤20
 im:c.it.length≤20
 i:∀x∈c.it,TxX x.e∧x.asn.size≤20
 om:c.od.length≤20
 o:∀x∈c.od,TxX x.e
 sk: -1≤c.sk∧c.sk≤1000000000000000
 lm: -1≤c.lm∧c.lm≤1000000000000000
 sm:c.st.length≤20
 s:∀x∈c.st,TxI x
 nm:c.ns.length≤20
 n:∀s∈c.ns,s.size≤20
theorem eb8{e:Ex}(h:TxX e):(txE e).length≤400000:=by
 have:=cm8 e h.1;have:=h.2;omega
theorem pp_le{p:PP}(hk:p.key.size≤20)(h:TxX p.e):(ppT p).length≤400022:=by
 have:=eb8 h;have:=eb2 p.key;simp only[ppT,es2,es3,es8];omega
theorem eb9{l:List PP}(h:TxP l):(Lib.join (l.map ppT) [44,32]).length≤600036000:=by
 have h1:=eb7 400022 [44,32] (by simp) (l.map ppT) (by
  intro x hx;obtain⟨p,hp,rfl⟩:=et5.1 hx;exact pp_le (h.k p hp) (h.e p hp))
 have:=h.n;rw[es7]at h1;omega
theorem ec0{l:List PP}(h:TxP l):(prT l).length≤600036002:=by
 have:=eb9 h;unfold prT prJ
 cases l.length==0<;>simp only[cond_true,cond_false,es2,es3,es8]<;>omega
theorem ec1(a b:List UInt8):(spT a b).length≤a.length+b.length+1:=by
 unfold spT
 cases a.isEmpty||b.isEmpty<;>simp only[cond_true,cond_false,es2,es3,es8]<;>omega
theorem ec2{n:NP}(h:TxN n):(nsT n).length≤31520:=by
 have h1:=eb6 21 (lbL n.lb) (by
  intro x hx;obtain⟨s,hs,rfl⟩:=et5.1 hx;have:=h.l s hs;have:=eb2 s;simp only[es2,es3,es8];omega)
 have h2:(lbL n.lb).length=n.lb.length:=by simp[lbL]
 have:=h.n;have:=h.v;have:=eb2 n.vr;simp only[nsT,es2];rw[h2]at h1;omega
theorem ec3{n:NP}(h:TxN n):(ndT n).length≤600068000:=by
 have:=ec1 (nsT n) (prT n.ps);have:=ec2 h;have:=ec0 h.p;simp only[ndT,es2,es3,es8];omega
theorem ec4{l:List ByteArray}(hn:l.length≤1500)(h:∀s∈l,s.size≤20):(Lib.join (l.map bl) [124]).length≤33000:=by
 have h1:=eb7 20 [124] (by simp) (l.map bl) (by
  intro x hx;obtain⟨s,hs,rfl⟩:=et5.1 hx;have:=h s hs;have:=eb2 s;omega)
 rw[es7]at h1;omega
theorem ec5{l:List ByteArray}(hn:l.length≤1500)(h:∀s∈l,s.size≤20):(tyT l).length≤33001:=by
 have:=ec4 hn h;unfold tyT
 cases l.length==0<;>simp only[cond_true,cond_false,es2,es3,es8]<;>omega
theorem ec6(m:Int):(mwT m).length≤13:=by
 unfold mwT
 repeat'(rw[ew6];split)
 all_goals simp
theorem ec7{n:Int}(h: -1≤n∧n≤1000000000000000):(Lib.itoa n).length≤21:=bx2 (by simp only[inR];omega)
theorem ec8{e:EP}(h:TxG e):(moT e).length≤100:=by
 have:=ec6 e.mode;have:=h.mn;have:=h.mx;have:=ec7 (n:=e.mn) (by omega);have:=ec7 (n:=e.mx) (by omega);unfold moT
 cases e.mode==0<;>simp only[cond_true,cond_false,es2,es3,es8]<;>omega
theorem ec9{e:EP}(h:TxG e):(esT e).length≤600070000:=by
 have:=ec1 (spT (bl e.vr++tyT e.ty) (moT e)) (prT e.ps);have:=ec1 (bl e.vr++tyT e.ty) (moT e);have:=ec5 h.n h.l;have:=ec8 h;have:=ec0 h.p;have:=h.v;have:=eb2 e.vr;unfold esT;rw[es2]at*;omega
theorem ed0{e:EP}(h:TxG e):(edT e).length≤600070100:=by
 have:=ec9 h;unfold edT
 repeat'(rw[ew6];split)
 all_goals(simp only[es2,es3,es8];omega)
theorem ed1{p:PA}{i:Nat}{n:NP}{a:List UInt8}(h1:([]::p.es.map edT)[i]? =some a)(h2:p.ns[i]? =some n):(paL p)[i]? =some (a++ndT n):=by
 unfold paL;rw[List.getElem?_zipWith,h1,h2]
theorem ed2{p:PA}(h:p.ns.length=p.es.length+1):(paL p).length=p.ns.length:=by
 unfold paL;rw[List.length_zipWith,es3,es7];omega
theorem ed3{α β γ:Type}(f:α→β→γ):∀(a:List α) (b:List β) (x:γ),x∈List.zipWith f a b→∃u∈a,∃v∈b,x=f u v
 |[],b,x,h=>by simp at h
 |u::a,[],x,h=>by simp at h
 |u::a,v::b,x,h=>by
  rw[List.zipWith_cons_cons]at h;rcases es9.1 h with rfl|h
  ·exact⟨u,by simp,v,by simp,rfl⟩
  ·obtain⟨u',h1,v',h2,e⟩:=ed3 f a b x h;exact⟨u',by simp[h1],v',by simp[h2],e⟩
theorem ed4{p:PA}(h:TxA p):∀x∈paL p,x.length≤1200138100:=by
 intro x hx;obtain⟨a,ha,n,hn,rfl⟩:=ed3 _ _ _ _ hx;have h1:=ec3 (h.ns n hn);rw[es2];rcases es9.1 ha with rfl|ha
 ·rw[es8];omega
 ·obtain⟨e,he,rfl⟩:=et5.1 ha;have:=ed0 (h.es e he);omega
theorem ed5(L:List (List UInt8))(i:Nat):(L.take i).flatten.length≤L.flatten.length:=by
 conv=>rhs;rw[←ey2 i L,List.flatten_append,es2]
 omega
theorem ed6{p:PA}(h:TxA p):(paL p).flatten.length≤8400966700:=by
 have h1:=eb6 1200138100 (paL p) (ed4 h);have h2:=ed2 h.n;have:=h.n;have:=h.m;omega
theorem ed7{p:PA}(h:TxA p):(paT p).length≤8400967000:=by
 have:=ed6 h;have:=h.v;have:=eb2 p.vr;unfold paT pvT
 cases s0B p.vr<;>simp only[cond_true,cond_false,es2,es3,es8]<;>omega
theorem ed8{l:List PA}(hn:l.length≤8)(h:∀p∈l,TxA p):(Lib.join (l.map paT) [44,32]).length≤67207736016:=by
 have h1:=eb7 8400967000 [44,32] (by simp) (l.map paT) (by
  intro x hx;obtain⟨p,hp,rfl⟩:=et5.1 hx;exact ed7 (h p hp))
 rw[es7]at h1;omega
theorem ed9{l:List Ex}(h:∀e∈l,TxX e):(whT l).length≤400007:=by
 match l,h with
 |[],_=>simp[whT]
 |e::r,h=>
  have:=eb8 (h e (by simp));simp only[whT,es2,es3,es8];omega
theorem ee0{w:List UInt8}(hw:w.length≤5){n:Int}(h: -1≤n∧n≤1000000000000000):(bdT w n).length≤28:=by
 have:=ec7 h;unfold bdT
 cases decide (n<0)<;>simp only[cond_true,cond_false,es2,es3,es8]<;>omega
theorem it_le{l:List IT}(hn:l.length≤20)(h:∀x∈l,TxX x.e∧x.asn.size≤20):(Lib.join (l.map itT) [44,32]).length≤8000600:=by
 have h1:=eb7 400024 [44,32] (by simp) (l.map itT) (by
  intro x hx;obtain⟨p,hp,rfl⟩:=et5.1 hx;have:=eb8 (h p hp).1;have:=(h p hp).2;have:=eb2 p.asn;simp only[itT,es2,es3,es8];omega)
 rw[es7]at h1;omega
theorem ee1{x:SK}(h:TxX x.e):(odT x).length≤400005:=by
 have:=eb8 h;unfold odT
 cases x.dc<;>simp only[cond_true,cond_false,es2,es3,es8]<;>omega
theorem od_le{l:List SK}(hn:l.length≤20)(h:∀x∈l,TxX x.e):(Lib.join (l.map odT) [44,32]).length≤8000600:=by
 have h1:=eb7 400005 [44,32] (by simp) (l.map odT) (by
  intro x hx;obtain⟨p,hp,rfl⟩:=et5.1 hx;exact ee1 (h p hp))
 rw[es7]at h1;omega
theorem ob_le{l:List SK}(hn:l.length≤20)(h:∀x∈l,TxX x.e):(obT l).length≤8000610:=by
 have:=od_le hn h;unfold obT
 cases l.length==0<;>simp only[cond_true,cond_false,es2,es3,es8]<;>omega
theorem ds_le(b:Bool):(dsT b).length≤9:=by cases b<;>simp[dsT]
theorem pj_le{c:CL}(h:TxC c):(pjT c).length≤17000000:=by
 have:=ds_le c.ds;have:=it_le h.im h.i;have:=ob_le h.om h.o;have:=ee0 (w:=skT) (by simp[skT]) h.sk;have:=ee0 (w:=lmT) (by simp[lmT]) h.lm;have:=ed9 h.w;simp only[pjT,es2];omega
theorem as_le{x:SIt}(h:TxI x):(asT x).length≤400044:=by
 have:=h.v;have:=h.l;have:=h.k;have:=eb2 x.vr;have:=eb2 x.lb;have:=eb2 x.key;have he:=h.e;unfold asT
 cases hl:s0B x.lb with
 |false=>simp only[ey9,cond_true,es2,es3,es8];omega
 |true=>
  have:=eb8 (he hl)
  cases rmF x<;>simp only[ez2,cond_true,cond_false,es2,es3,es8]<;>omega
theorem ee2(p:Option SIt)(x:SIt):(sepT p x).length≤8:=by
 unfold sepT
 cases p with
 |none=>cases rmF x<;>simp
 |some y=>
  dsimp only[Option.isSome_some]
  cases rmF x<;>cases rmF y<;>simp
theorem ee3:∀(p:Option SIt) (l:List SIt),(∀x∈l,TxI x)→∀y∈seL p l,y.length≤400052
 |_,[],_,y,h=>by simp[seL]at h
 |p,x::r,hx,y,h=>by
  rw[seL]at h;rcases es9.1 h with rfl|h
  ·have:=ee2 p x;have:=as_le (hx x (by simp));rw[es2];omega
  ·exact ee3 (some x) r (fun z hz=>hx z (by simp[hz])) y h
theorem ee4:∀(p:Option SIt) (l:List SIt),(seL p l).length=l.length
 |_,[]=>rfl
 |p,x::r=>by rw[seL,es3,ee4,es3]
theorem se_le{l:List SIt}(hn:l.length≤20)(h:∀x∈l,TxI x):(seT l).length≤8001040:=by
 have h1:=eb6 400052 (seL none l) (ee3 none l h);rw[ee4]at h1;unfold seT;omega
theorem ee5{l:List ByteArray}(hn:l.length≤20)(h:∀s∈l,s.size≤20):(Lib.join (l.map bl) [44,32]).length≤440:=by
 have h1:=eb7 20 [44,32] (by simp) (l.map bl) (by
  intro x hx;obtain⟨s,hs,rfl⟩:=et5.1 hx;have:=h s hs;have:=eb2 s;omega)
 rw[es7]at h1;omega
theorem ee6{c:CL}(h:TxC c):(clT c).length≤68000000000:=by
 have:=ed8 h.pn h.p;have:=ed9 h.w;have:=pj_le h;have:=se_le h.sm h.s;have:=ee5 h.nm h.n;have he:c.k=2→(txE c.e).length≤400000:=fun e=>eb8 (h.e e).1
 have hb:c.k=2→(bl c.nm).length≤20:=fun e=>by rw[eb2];exact(h.e e).2
 unfold clT
 cases hk:c.k==2 with
 |true=>
  have hk':c.k=2:=by simpa using hk
  have:=he hk';have:=hb hk';have e1:(c.k==1)=false:=by rw[hk'];rfl
  rw[e1];simp only[cond_true,cond_false,es2,es3,es8];omega
 |false=>
  cases c.opt<;>cases c.k==1<;>cases c.k==3<;>cases c.k==4<;>cases c.k==5<;>cases c.k==6<;>cases c.k==7<;>simp only[cond_true,cond_false,es2,es3,es8]<;>omega
def vtT(a:AT)(i:Nat):List UInt8:=Lib.itoa (a.vs.getD i 0)
def atT(a:AT):List UInt8:=
 bif a.k==1 then [91]++vtT a 0++ [93,58]++bl a.nm else
 bif a.k==2 then [91]++vtT a 0++ [93,46]++bl a.nm++ [61]++txt a.v else
 bif a.k==3 then [91]++vtT a 0++ [93,45,91]++vtT a 1++tyT a.ty++ [93,45,62,91]++vtT a 2++ [93]else [91]++vtT a 0++ [93]
def liT(L:List (List UInt8)):List UInt8:=bif L.isEmpty then []else [32]++Lib.join L [44,32]
def mlT(c:CJ):List UInt8:=[109,117,108,116,105,32,40]++Lib.join (c.vs.map bl) [44,32]++ [41]++(c.as.map fun a=>[32]++atT a).flatten
def srT(b:PB):List UInt8:=liT (b.od.map odT)++bdT skT b.sk++bdT lmT b.lm
def lnT(b:PB):List UInt8:=
 bif b.op==1 then [117,110,105,116]else
 bif b.op==2 then mlT b.cj else
 bif b.op==3 then [106,111,105,110]else
 bif b.op==4 then [108,101,102,116]else
 bif b.op==5 then [97,112,112,108,121,32]++clT b.cl else
 bif b.op==6 then [102,105,108,116,101,114,32]++txE b.e else
 bif b.op==7 then [112,114,111,106,101,99,116]++liT (b.it.map itT)else
 bif b.op==8 then [103,114,111,117,112]++liT (b.it.map itT)else
 bif b.op==9 then [117,110,105,113,117,101]else
 bif b.op==10 then [115,111,114,116]++srT b else [117,110,119,105,110,100,32]++txE b.e++ [32,65,83,32]++bl b.nm
mutual
def plT(d:Nat):Pl→List UInt8
 |.mk b ks=>List.replicate (2*d) 32++lnT b++ [10]++ee7 d ks
def ee7(d:Nat):List Pl→List UInt8
 |[]=>[]
 |p::r=>plT (d+1) p++ee7 d r
end
theorem ee8(g:Bool)(cols:List ByteArray):∀(l:List IT) (out:List ByteArray),(df0 g cols l out).2=0→∀x∈l,ch9 x.e=0∧cg8 x.asn=true
 |[],_,_,_,h=>by cases h
 |x::r,out,h0,y,hy=>by
  rw[df0]at h0
  cases c:de9 g x cols out !=0 with
  |true=>rw[c,cond_true]at h0;rw[show de9 g x cols out=0 from h0]at c;cases c
  |false=>
   rw[c,cond_false]at h0;rcases es9.1 hy with rfl|hy
   ·have hi:de9 g y cols out=0:=by simpa using c
    unfold de9 at hi
    cases c1:ch9 y.e !=0 with
    |true=>rw[c1,cond_true]at hi;rw[hi]at c1;cases c1
    |false=>
    cases c2: !(cg8 y.asn)|| !(cx0 y.e cols)with
    |true=>rw[c1,c2]at hi;exact absurd (show(6:Int)=0 from hi) (by decide)
    |false=>
     rw[ev8]at c2;exact⟨by simpa using c1,by simpa using c2.1⟩
   ·exact ee8 g cols r _ h0 y hy
theorem ee9(cols:List ByteArray):∀(l:List SK),df1 cols l=0→∀x∈l,ch9 x.e=0
 |[],_,_,h=>by cases h
 |x::r,h0,y,hy=>by
  rw[df1]at h0
  cases c:cx1 x.e cols !=0 with
  |true=>rw[c,cond_true]at h0;rw[h0]at c;cases c
  |false=>
   rw[c,cond_false]at h0;rcases es9.1 hy with rfl|hy
   ·exact(dg8 (by simpa using c)).1
   ·exact ee9 cols r h0 y hy
theorem ef0{b:PB}{cols:List ByteArray}(h:df2 b cols=0):ch9 b.e=0∧cg8 b.nm=true:=by
 unfold df2 at h
 cases c1:ch9 b.e !=0 with
 |true=>rw[c1,cond_true]at h;rw[h]at c1;cases c1
 |false=>
 cases c2: !(cg8 b.nm)|| !(cx0 b.e cols)with
 |true=>rw[c1,c2]at h;exact absurd (show(6:Int)=0 from h) (by decide)
 |false=>
  rw[ev8]at c2;exact⟨by simpa using c1,by simpa using c2.1⟩
end Go.Proofs.YtndgolmgaenlfaaGreatDoor
namespace Go.Proofs.YtndgolmgaenlfaaGreatDoor
set_option maxRecDepth 4000
open Go Go.Abs Go.Val Go.RowKit Go.Proofs.Tryz
theorem ef1:∀e:Ex,Fit (bu2 e)→alE (fun e=>inR .i64 e.v.n) e:=by
 refine bv1 (P:=fun e=>Fit (bu2 e)→alE (fun e=>inR .i64 e.v.n) e) fun op v nm ds ks ih h=>?_
 obtain⟨-,h2,-,-,h5⟩:=bu9 h;exact⟨(bn3 h2).2.1,cm1 fun x hx=>ih x hx (h5 x hx)⟩
theorem ef2{e:Ex}(h:ch9 e=0):alE okN e:=by
 unfold ch9 at h
 cases g1:decide (dp e>24)with
 |true=>rw[g1]at h;simp at h
 |false=>
  rw[g1]at h
  cases g2:decide (nd e>300)with
  |true=>rw[g2]at h;simp at h
  |false=>rw[g2]at h;exact cm5 e false h
theorem ef3{s:ByteArray}(h:cg8 s=true):s.size≤20:=by
 unfold cg8 bv3 at h;simp only[et4,decide_eq_true_eq]at h;exact h.1.2.1
theorem ef4{s:ByteArray}(h:s0B s=true):s.size=0:=by
 rw[em_s0,eb5,eb2]at h;exact of_decide_eq_true h
theorem ef5{s:ByteArray}(h:cj8 s=true):s.size≤20:=by
 unfold cj8 at h;rcases Bool.or_eq_true_iff.1 h with h|h
 ·have:=ef4 h;omega
 ·exact ef3 h
def cE(e:Ex):List D:=[.int e.op,.int e.v.k,.int e.v.n,.int e.v.d,.str e.v.s,.sl (kids e.v),.str e.nm,.bool e.ds,.sl (bu0 e)]
theorem ef6{l:List D}{e:Ex}(h:Fit (.agg l))(hm:∀c∈cE e,c∈l):Fit (bu2 e):=Fit.agg _ fun c hc=>h.aggs c (hm c hc)
theorem ef7{p:PP}(h:Fit (ci1 p)):Fit (bu2 p.e):=ef6 h fun c hc=>fa9 _ hc
theorem ef8{l:List PP}(h:Fit (.sl (l.map ci1))):∀p∈l,Fit (bu2 p.e):=fun p hp=>ef7 ((cn5 h).2 p hp)
theorem ef9{n:NP}(h:Fit (ci2 n)):∀p∈n.ps,Fit (bu2 p.e):=ef8 (h.aggs _ (by simp))
theorem eg0{n:EP}(h:Fit (ci3 n)):∀p∈n.ps,Fit (bu2 p.e):=ef8 (h.aggs _ (by simp))
structure FxA(p:PA):Prop where
 n:∀n∈p.ns,∀q∈n.ps,Fit (bu2 q.e)
 e:∀n∈p.es,∀q∈n.ps,Fit (bu2 q.e)
theorem eg1{p:PA}(h:Fit (ci4 p)):FxA p:=
 ⟨fun n hn=>ef9 ((cn5 (h.aggs (.sl (p.ns.map ci2)) (by simp))).2 n hn),fun n hn=>eg0 ((cn5 (h.aggs (.sl (p.es.map ci3)) (by simp))).2 n hn)⟩
theorem eg2{x:IT}(h:Fit (ci5 x)):Fit (bu2 x.e):=ef6 h fun c hc=>by
 simp only[cE,es9,ez1,or_false]at hc ⊢;rcases hc with h|h|h|h|h|h|h|h|h<;>simp[h]
theorem eg3{x:SK}(h:Fit (ci6 x)):Fit (bu2 x.e):=ef6 h fun c hc=>by
 simp only[cE,es9,ez1,or_false]at hc ⊢;rcases hc with h|h|h|h|h|h|h|h|h<;>simp[h]
theorem eg4{x:SIt}(h:Fit (ci7 x)):Fit (bu2 x.e):=ef6 h fun c hc=>by
 simp only[cE,es9,ez1,or_false]at hc ⊢;rcases hc with h|h|h|h|h|h|h|h|h<;>simp[h]
structure FxC(c:CL):Prop where
 p:∀p∈c.ps,FxA p
 w:∀e∈c.wh,Fit (bu2 e)
 e:Fit (bu2 c.e)
 i:∀x∈c.it,Fit (bu2 x.e)
 o:∀x∈c.od,Fit (bu2 x.e)
 s:∀x∈c.st,Fit (bu2 x.e)
theorem eg5{c:CL}(h:Fit (ci8 c)):FxC c:=by
 refine⟨fun p hp=>eg1 ((cn5 (h.aggs (.sl (c.ps.map ci4)) (by simp))).2 p hp),fun e he=>?_,ef6 h fun x hc=>?_,fun x hx=>eg2 ((cn5 (h.aggs (.sl (c.it.map ci5)) (by simp))).2 x hx),fun x hx=>eg3 ((cn5 (h.aggs (.sl (c.od.map ci6)) (by simp))).2 x hx),fun x hx=>eg4 ((cn5 (h.aggs (.sl (c.st.map ci7)) (by simp))).2 x hx)⟩
 ·exact(bv0 (h.aggs (.sl (bu1 c.wh)) (by simp))).2 e he
 ·simp only[cE,es9,ez1,or_false]at hc ⊢;rcases hc with h|h|h|h|h|h|h|h|h<;>simp[h]
theorem eg6:∀(ns:List NP) (es:List EP),∀n∈ns,ptN n∈cj7 ns es
 |[],_,n,h=>by simp at h
 |a::r,[],n,h=>by
  rw[cj7];rcases es9.1 h with rfl|h
  ·exact fb7
  ·exact fa9 _ (eg6 r [] n h)
 |a::r,e::q,n,h=>by
  rw[cj7];rcases es9.1 h with rfl|h
  ·exact fb7
  ·exact fa9 _ (fa9 _ (eg6 r q n h))
theorem eg7:∀(ns:List NP) (es:List EP),es.length≤ns.length→∀e∈es,ptE e∈cj7 ns es
 |_,[],_,e,h=>by simp at h
 |[],a::q,hl,e,h=>by simp at hl
 |a::r,b::q,hl,e,h=>by
  rw[cj7];rcases es9.1 h with rfl|h
  ·exact fa9 _ fb7
  ·exact fa9 _ (fa9 _ (eg7 r q (by simpa using hl) e h))
theorem eg8:∀{l:List Ex},ck1 l=0→∀e∈l,ch9 e=0
 |[],_,e,h=>by simp at h
 |a::r,h,e,he=>by
  rw[ck1]at h
  cases hz:ch9 a !=0 with
  |true=>rw[hz]at h;simp at hz;exact absurd h hz
  |false=>
   rw[hz]at h;rcases es9.1 he with rfl|he
   ·simpa using hz
   ·exact eg8 h e he
theorem eg9{p:PA}{cr:Bool}(h:ck3 p cr=0):cj3 p=false∧p.ns.length=p.es.length+1∧(∀e∈p.es,cj4 e=true)∧cj8 p.vr=true∧(∀x∈cj7 p.ns p.es,cj9 x=false)∧∀x∈cj7 p.ns p.es,∀q∈x.ps,ch9 q.e=0:=by
 unfold ck3 at h
 cases c1:cj3 p with
 |true=>rw[c1]at h;simp at h
 |false=>
  rw[c1,cond_false]at h
  cases c2:(p.ns.length !=p.es.length+1||p.es.any fun e=> !cj4 e)with
  |true=>rw[c2]at h;simp at h
  |false=>
   rw[c2,cond_false]at h
   cases c3:(!(cj8 p.vr)||(cj7 p.ns p.es).any cj9)with
   |true=>rw[c3]at h;simp at h
   |false=>
    rw[c3,cond_false]at h
    cases c4:(cj7 p.ns p.es).any ck0 with
    |true=>rw[c4]at h;simp at h
    |false=>
     rw[c4,cond_false]at h
     cases c5:ck1 (ck2 (cj7 p.ns p.es)) !=0 with
     |true=>rw[c5,cond_true]at h;simp at c5;exact absurd h c5
     |false=>
      simp only[bne_eq_false_iff_eq]at c5;rw[ev8]at c2 c3;refine⟨rfl,by simpa using c2.1,fun e he=>?_,by simpa using c3.1,fun x hx=>?_,fun x hx q hq=>eg8 c5 _ (di0 hx hq)⟩
      ·have:=ex7.1 c2.2 e he;simpa using this
      ·have:=ex7.1 c3.2 x hx;simpa using this
theorem eh0:∀{l:List Int},ck9 l=0→∀e∈l,e=0
 |[],_,e,h=>by simp at h
 |a::r,h,e,he=>by
  rw[ck9]at h
  cases hz:a !=0 with
  |true=>rw[hz]at h;simp at hz;exact absurd h hz
  |false=>
   rw[hz]at h;rcases es9.1 he with rfl|he
   ·simpa using hz
   ·exact eh0 h e he
attribute [local irreducible] Ev EvO EvS au7 an1 RGo SGo go
theorem eh1{a b:ByteArray}(h:a.data.toList=b.data.toList):a=b:=ByteArray.ext (Array.toList_inj.1 h)
theorem eh2{α:Type}{f:α→List UInt8}{l:List α}{i:Nat}{x:α}(h:l[i]? =some x):by0 ((l.take (i+1)).map f)=by0 ((l.take i).map f)++ [.str (bs (f x))]:=by
 rw[ew5,h];simp[by0]
structure SDx{α:Type}(l:List α) where
 i:Nat
 hi:i≤l.length
theorem eh3(xs:List (List UInt8))(sep:List UInt8)(hN:xs.length≤1000000)(hlen:(Lib.join xs sep).length≤140737488355328):Ev E 84 [.sl (by0 xs),.str (bs sep)] (.d (.str (bs (Lib.join xs sep)))):=by
 have e1:(xs.map bs).map D.str=by0 xs:=by simp[by0]
 have e2:(xs.map bs).map (·.data.toList)=xs:=by
  rw[List.map_map]
  conv=>rhs;rw[←List.map_id xs]
  exact List.map_congr_left fun x _=>bw6 x
 have hj:=bx9 (xs.map bs) (bs sep) (by simp;omega) (by rw[e2,bw6];omega);rw[e1,e2,bw6]at hj;exact hj
theorem eh4{e:Ex}(h:TxX e):Ev E 231 [bu2 e] (.d (.str (bs (txE e)))):=cn2 e h.1 (by have:=h.2;omega)
def pbT(l:List PP)(b:Bool):List UInt8:=bif b&& !(l.length==0)then [32]++prT l else prT l
theorem bs_pp(x:PP):bs (ppT x)=x.key++⟨#[58,32]⟩++bs (txE x.e):=by
 apply eh1;simp[bs,bl,ppT]
set_option maxHeartbeats 1000000 in
theorem eh5(l:List PP)(b:Bool)(h:TxP l):Ev E 332 [.sl (l.map ci1),.bool b] (.d (.str (bs (pbT l b)))):=by
 have hle:(l.map ci1).length=l.length:=by simp
 have hn:=h.n
 cases hl:l.length==0 with
 |true=>
  have e:bs (pbT l b)=⟨#[]⟩:=by unfold pbT prT;rw[hl];cases b<;>rfl
  have g0:(((l.map ci1).length:Int)==0)=true:=by rw[hle];simpa using hl
  rw[e];refine ye2 func332 ntmps332 fun _ _ _=>?_
  repeat'(first|refine yz ?_|exact zD)
 |false=>
  have g0:(((l.map ci1).length:Int)==0)=false:=by rw[hle];simpa using hl
  have hj:=eh3 (l.map ppT) [44,32] (by have:=h.n;rw[es7];omega) (by have:=eb9 h;omega);have zj:(bs (Lib.join (l.map ppT) [44,32])).size≤600036000:=by rw[bw5];exact eb9 h
  have e:bs (pbT l b)=bif b then⟨#[32]⟩++(⟨#[123]⟩++bs (Lib.join (l.map ppT) [44,32])++⟨#[125]⟩)else⟨#[123]⟩++bs (Lib.join (l.map ppT) [44,32])++⟨#[125]⟩:=by
   unfold pbT prT prJ;rw[hl]
   cases b<;>(apply eh1;simp[bs])
  have y1:(⟨#[32]⟩:ByteArray).size=1:=rfl;have y2:(⟨#[123]⟩:ByteArray).size=1:=rfl;have y3:(⟨#[125]⟩:ByteArray).size=1:=rfl;have y4:(⟨#[58,32]⟩:ByteArray).size=2:=rfl;rw[e];refine ye2 func332 ntmps332 fun _ _ _=>?_
  repeat'(refine yz ?_)
  refine ac7 (α:=SDx l) (fun p=>⟨[(5,bf8 0 (by0 ((l.take p.i).map ppT))),(1,.d (.bool b)),(12,.d (.sl (l.map ci1))),(13,.d (.int (l.map ci1).length)),(14,.d (.int p.i))],aw6 9 1 (by0 ((l.take p.i).map ppT))⟩) (fun p=>l.length-p.i) ⟨0,by omega⟩ (zle 0) ?_;rintro⟨i,hi⟩;dsimp only;have hol:(by0 ((l.take i).map ppT)).length≤1000000:=by have:=h.n;simp[by0];omega
  rcases es1 i l.length with hlt|hge
  ·have g1:decide ((i:Int)<((l.map ci1).length:Int))=true:=by rw[hle];simpa using hlt
   have hx0:=es0 hlt;generalize l[i]=x at hx0;have hx:=cn4 (f:=ci1) hx0;have hm:=es4 hx0;have ht:=eh4 (h.e x hm);have zt:(bs (txE x.e)).size≤400000:=by rw[bw5];exact eb8 (h.e x hm)
   have zk:=h.k x hm;have hnx:=eh2 (f:=ppT) hx0;rw[bs_pp]at hnx;generalize by0 ((l.take i).map ppT)=o at*
   match o,hol with
   |[],hol=>
    dsimp only[bf8,aw6]
    repeat'(first|refine yq 7 [9] ?_|refine yf 7 0 9 ?_|refine yf 7 10 1 ?_|refine rgN ?_|refine yz ?_|refine yi (ci1 x) hx ?_|refine yp bp6 ht ?_|refine rgS (id:=7) (i:=9) rfl rfl rfl rfl (⟨by simp,fun d hd=>by(obtain rfl:=et9.1 hd;rfl),by(show(0+1)*16≤140737488355328;omega),by(show 0+1≤9223372036854775807;omega)⟩) (by repeat(first|exact trivial|refine⟨⟨rfl,rfl⟩,?_⟩|refine⟨trivial,?_⟩)) ?_)
    refine ac1 ?_;refine⟨⟨i+1,by omega⟩,by dsimp only;omega,?_⟩;dsimp only;rw[hnx];exact(bg7 [1])
   |a::q,hol=>
    dsimp only[bf8,aw6]
    repeat'(first|refine yq 7 [9] ?_|refine yf 7 0 9 ?_|refine yf 7 10 1 ?_|refine rgN ?_|refine yz ?_|refine yi (ci1 x) hx ?_|refine yp bp6 ht ?_|refine rgS (id:=7) (i:=9) rfl rfl rfl rfl (⟨by simp,fun d hd=>by(obtain rfl:=et9.1 hd;rfl),by(show((a::q).length+1)*16≤140737488355328;omega),by(show(a::q).length+1≤9223372036854775807;omega)⟩) (by repeat(first|exact trivial|refine⟨⟨rfl,rfl⟩,?_⟩|refine⟨trivial,?_⟩)) ?_)
    refine ac1 ?_;refine⟨⟨i+1,by omega⟩,by dsimp only;omega,?_⟩;dsimp only;rw[hnx];exact(bg7 [2])
  ·have g1:decide ((i:Int)<((l.map ci1).length:Int))=false:=by rw[hle];simp;omega
   rw[eu2 hge];generalize by0 (l.map ppT)=o at*
   cases b with
   |true=>
    match o,hj with
    |[],hj=>
     dsimp only[bf8,aw6]
     repeat'(first|refine yz ?_|refine yp b84 hj ?_|exact zD)
    |a::q,hj=>
     dsimp only[bf8,aw6];refine qA ?_;refine au1 0 rfl ?_
     repeat'(first|refine yz ?_|refine yp b84 hj ?_|exact zD)
   |false=>
    match o,hj with
    |[],hj=>
     dsimp only[bf8,aw6]
     repeat'(first|refine yz ?_|refine yp b84 hj ?_|exact zD)
    |a::q,hj=>
     dsimp only[bf8,aw6];refine qA ?_;refine au1 0 rfl ?_
     repeat'(first|refine yz ?_|refine yp b84 hj ?_|exact zD)
end Go.Proofs.YtndgolmgaenlfaaGreatDoor
namespace Go.Abs
theorem eh6{C:Cx}{r:List It}{s:St}{Q:Exit→St→Prop}{α:Type}(t:Nat){a b:Code}{c:Code}(S:α→St)(b0:α)(h1:go C (.code (.cond (.tmp t) a b):: .stop (fun s'=>∃b,b=b0∧Le C s' (S b)):: .code c::r) s Q)
  (h2:go C (.code c::r) (S b0) Q):go C (.code (.cond (.tmp t) a b):: .code c::r) s Q:=by
 refine bd1 _ h1 ?_;rintro s' ⟨b,rfl,hl⟩;exact ac6 hl h2
end Go.Abs
namespace Go.Proofs.YtndgolmgaenlfaaGreatDoor
set_option maxRecDepth 4000
open Go Go.Abs Go.Val Go.RowKit Go.Proofs.Tryz
attribute [local irreducible] go SGo an1 Ev au7 EvO EvS RGo
theorem eh7{L:List (List UInt8)}{i:Nat}{y:List UInt8}(h:L[i]? =some y):(L.take (i+1)).flatten=(L.take i).flatten++y:=by
 rw[ew5,h];simp
theorem eh8(l:List PP):(prT l).isEmpty=(l.length==0):=by
 unfold prT prJ
 cases l.length==0<;>simp
theorem eh9(S:List UInt8)(l:List PP):S++pbT l (!S.isEmpty)=spT S (prT l):=by
 unfold spT pbT;rw[eh8]
 cases hS:S.isEmpty
 ·cases hl:l.length==0
  ·simp
  ·simp
 ·simp
theorem ei0{l:List PP}(h:TxP l)(b:Bool):(pbT l b).length≤600036083:=by
 have:=ec0 h;unfold pbT
 cases b&& !(l.length==0)<;>simp only[cond_true,cond_false,es2,es3,es8]<;>omega
set_option maxHeartbeats 1000000 in
theorem ei1(n:NP)(h:TxN n):Ev E 287 [ci2 n] (.d (.str (bs (ndT n)))):=by
 obtain⟨vr,lb,ps⟩:=n;have hle:(lb.map D.str).length=lb.length:=by simp
 have hlv:=h.v;have hln:=h.n;have hlb:=h.l;have hns:=ec2 h;have hp:=eh5 ps (!((bs (nsT ⟨vr,lb,ps⟩)).toList==(⟨#[]⟩:ByteArray).toList)) h.p;have zp:=ei0 h.p (!((bs (nsT ⟨vr,lb,ps⟩)).toList==(⟨#[]⟩:ByteArray).toList));dsimp only at hlv hln hlb hp zp;have y1:(⟨#[58]⟩:ByteArray).size=1:=rfl;have y2:(⟨#[40]⟩:ByteArray).size=1:=rfl;have y3:(⟨#[41]⟩:ByteArray).size=1:=rfl;have e0:bs (bl vr++((lbL lb).take 0).flatten)=vr:=by rw[ex0];apply eh1;simp[bs,bl]
 refine ye1 func287 ntmps287 fun _ _ _=>?_
 repeat'(refine yz ?_)
 refine ac7 (α:=SDx lb) (fun p=>⟨[(3,.d (.str (bs (bl vr++((lbL lb).take p.i).flatten)))),(1,.ptr 0 0),(9,.d (.sl (lb.map .str))),(10,.d (.int (lb.map D.str).length)),(11,.d (.int p.i))],[oNP ⟨vr,lb,ps⟩]⟩) (fun p=>lb.length-p.i) ⟨0,by omega⟩ (by dsimp only;rw[e0];exact(zle 1)) ?_;rintro⟨i,hi⟩;dsimp only;rcases es1 i lb.length with hlt|hge
 ·have g1:decide ((i:Int)<((lb.map D.str).length:Int))=true:=by rw[hle];simpa using hlt
  have hx0:=es0 hlt;generalize lb[i]=x at hx0;have hx:=cn4 (f:=D.str) hx0;have zx:=hlb x (es4 hx0);have hfl:=eh7 (L:=lbL lb) (i:=i) (y:=[58]++bl x) (by rw[lbL,es6,hx0];rfl)
  have zs:(bs (bl vr++((lbL lb).take i).flatten)).size≤31520:=by
   have:=ed5 (lbL lb) i;rw[bw5];simp only[nsT,es2]at hns ⊢;omega
  have e1:bs (bl vr++((lbL lb).take (i+1)).flatten)=bs (bl vr++((lbL lb).take i).flatten)++(⟨#[58]⟩++x):=by
   rw[hfl];apply eh1;simp[bs,bl]
  repeat'(first|refine yz ?_|refine yi (.str x) hx ?_)
  refine ac1 ?_;rw[←e1];exact⟨⟨i+1,by omega⟩,by dsimp only;omega,(zle 1)⟩
 ·have g1:decide ((i:Int)<((lb.map D.str).length:Int))=false:=by rw[hle];simp;omega
  have e1:bl vr++((lbL lb).take i).flatten=nsT ⟨vr,lb,ps⟩:=by rw[eu2 (by simp[lbL];omega)];rfl
  have e2:bs (ndT ⟨vr,lb,ps⟩)=⟨#[40]⟩++bs (nsT ⟨vr,lb,ps⟩)++bs (pbT ps (!((bs (nsT ⟨vr,lb,ps⟩)).toList==(⟨#[]⟩:ByteArray).toList)))++⟨#[41]⟩:=by
   rw[eb4];unfold ndT;rw[←eh9];apply eh1;simp[bs]
  rw[e1,e2];rw[←bw5]at hns zp
  repeat'(first|refine yz ?_|refine yp b332 hp ?_|exact zD)
theorem ei2(m:Int):Ev E 331 [.int m] (.d (.str (bs (mwT m)))):=by
 refine ye1 func331 ntmps331 fun _ _ _=>?_
 repeat'(first|refine yz ?_|(refine qV rfl ?_ ?_<;>intro _))
 all_goals(refine congrArg D.str ?_;simp_all [mwT,ew6];rfl)
theorem ei3(n:Int):Ev E 151 [.int n] (.d (.str (bs (Lib.itoa n)))):=bs8 n
def tyS(e:EP):List UInt8:=bl e.vr++tyT e.ty
def spS(s:List UInt8):List UInt8:=bif s.isEmpty then []else s++ [32]
def moS(e:EP):List UInt8:=spT (tyS e) (moT e)
theorem tys_le{e:EP}(h:TxG e):(tyS e).length≤33021:=by
 have:=ec5 h.n h.l;have:=h.v;have:=eb2 e.vr;unfold tyS;rw[es2];omega
theorem ei4{e:EP}(h:TxG e):(moS e).length≤33200:=by
 have:=tys_le h;have:=ec8 h;have:=ec1 (tyS e) (moT e);unfold moS;omega
theorem ei5(e:EP)(h:(e.mode==0)=false):(moT e).isEmpty=false:=by
 unfold moT;rw[h]
 cases mwT e.mode<;>simp
theorem ei6(s t:List UInt8)(h:t.isEmpty=false):spS s++t=spT s t:=by
 unfold spS spT;rw[h]
 cases hs:s.isEmpty with
 |true=>
  have:s=[]:=by cases s<;>simp_all
  subst this;rfl
 |false=>simp
set_option maxHeartbeats 4000000 in
theorem ei7(e:EP)(h:TxG e):Ev E 286 [ci3 e] (.d (.str (bs (edT e)))):=by
 obtain⟨S1,hS1⟩:∃s,tyS e=s:=⟨_,rfl⟩;obtain⟨S2,hS2⟩:∃s,moS e=s:=⟨_,rfl⟩;obtain⟨S3,hS3⟩:∃s,esT e=s:=⟨_,rfl⟩;have z1:=tys_le h;have z2:=ei4 h;have z3:=ec9 h;have zj:=ec4 h.n h.l;have zv:=h.v;have j1:=eh3 (e.ty.map bl) [124] (by have:=h.n;rw[es7];omega) (by omega)
 have ej:by0 (e.ty.map bl)=e.ty.map D.str:=by
  simp only[by0,List.map_map];refine List.map_congr_left fun s _=>?_
  show D.str (bs (bl s))=D.str s;rw[eb3]
 rw[ej]at j1;have hp:=eh5 e.ps (!((bs S2).toList==(⟨#[]⟩:ByteArray).toList)) h.p;have zp:=ei0 h.p (!((bs S2).toList==(⟨#[]⟩:ByteArray).toList));have hm:=ei2 e.mode;have zm:=ec6 e.mode;have hmn:=h.mn;have hmx:=h.mx;have d1:=ei3 e.mn;have d2:=ei3 e.mx;have q1:=ec7 (n:=e.mn) (by omega);have q2:=ec7 (n:=e.mx) (by omega)
 have l3:(!((bs S1).toList==(⟨#[]⟩:ByteArray).toList))=true→bs S1++⟨#[32]⟩=bs (spS S1):=by
  rw[eb4];intro he;unfold spS;rw[Bool.not_eq_true']at he;rw[he];apply eh1;simp[bs]
 have l4:(!((bs S1).toList==(⟨#[]⟩:ByteArray).toList))=false→bs S1=bs (spS S1):=by
  rw[eb4];intro he;unfold spS;rw[Bool.not_eq_false']at he;rw[he];have:S1=[]:=by cases S1<;>simp_all
  rw[this];rfl
 have l5:(!(e.mode==0))=true→bs (spS S1)++(bs (mwT e.mode)++⟨#[42]⟩++bs (Lib.itoa e.mn)++⟨#[46,46]⟩++bs (Lib.itoa e.mx))=bs S2:=by
  intro he;rw[Bool.not_eq_true']at he;rw[←hS2,moS,←ei6 _ _ (ei5 e he),hS1];unfold moT;rw[he];apply eh1;simp[bs]
 have l6:(!(e.mode==0))=false→bs S1=bs S2:=by
  intro he;rw[Bool.not_eq_false']at he;rw[←hS2,moS,hS1];unfold moT spT;rw[he];simp
 have l7:bs S2++bs (pbT e.ps (!((bs S2).toList==(⟨#[]⟩:ByteArray).toList)))=bs S3:=by
  rw[eb4,bw3,eh9,←hS3,←hS2];rfl
 have l8:(e.dir==1)=true→⟨#[45,91]⟩++bs S3++⟨#[93,45,62]⟩=bs (edT e):=by
  intro he;unfold edT;rw[he,hS3];apply eh1;simp[bs]
 have l9:(e.dir==1)=false→(e.dir==2)=true→⟨#[60,45,91]⟩++bs S3++⟨#[93,45]⟩=bs (edT e):=by
  intro he he2;unfold edT;rw[he,he2,hS3];apply eh1;simp[bs]
 have l10:(e.dir==1)=false→(e.dir==2)=false→⟨#[45,91]⟩++bs S3++⟨#[93,45]⟩=bs (edT e):=by
  intro he he2;unfold edT;rw[he,he2,hS3];apply eh1;simp[bs]
 have l1:decide (((e.ty.map D.str).length:Int)>0)=true→e.vr++(⟨#[58]⟩++bs (Lib.join (e.ty.map bl) [124]))=bs S1:=by
  intro he;have:(e.ty.length==0)=false:=by simp at he ⊢;intro h0;rw[h0]at he;simp at he
  rw[←hS1];unfold tyS tyT;rw[this];apply eh1;simp[bs,bl]
 have l2:decide (((e.ty.map D.str).length:Int)>0)=false→e.vr=bs S1:=by
  intro he;have:(e.ty.length==0)=true:=by simp at he ⊢;exact he
  rw[←hS1];unfold tyS tyT;rw[this];apply eh1;simp[bs,bl]
 rw[hS1]at z1;rw[hS2]at z2;rw[hS3]at z3;rw[←bw5]at z1 z2 z3 zj zp zm q1 q2
 have z4:(bs (spS S1)).size≤33030:=by
  have:(spS S1).length≤S1.length+1:=by unfold spS;cases S1.isEmpty<;>simp
  rw[bw5]at z1 ⊢;omega
 generalize bs (edT e)=R at*;obtain⟨vr,ty,dir,mode,mn,mx,ps⟩:=e;dsimp only at*;have y1:(⟨#[58]⟩:ByteArray).size=1:=rfl;have y2:(⟨#[32]⟩:ByteArray).size=1:=rfl;have y3:(⟨#[42]⟩:ByteArray).size=1:=rfl;have y4:(⟨#[46,46]⟩:ByteArray).size=2:=rfl;have y5:(⟨#[45,91]⟩:ByteArray).size=2:=rfl;have y6:(⟨#[93,45,62]⟩:ByteArray).size=3:=rfl;have y7:(⟨#[60,45,91]⟩:ByteArray).size=3:=rfl;have y8:(⟨#[93,45]⟩:ByteArray).size=2:=rfl;clear hS1 hS2 hS3 ej h hmn hmx;generalize bs (Lib.join (ty.map bl) [124])=J at*;generalize bs (pbT ps (!((bs S2).toList==(⟨#[]⟩:ByteArray).toList)))=PB at*;generalize bs (mwT mode)=MW at*;generalize bs (Lib.itoa mn)=I1 at*;generalize bs (Lib.itoa mx)=I2 at*;generalize bs (spS S1)=T1 at*;generalize bs S1=B1 at*;generalize bs S2=B2 at*;generalize bs S3=B3 at*;refine ye1 func286 ntmps286 fun _ _ _=>?_
 repeat'(first|(refine eh6 9 (fun b=>⟨[(3,.d (.str b)),(1,.ptr 0 0)],[oEP ⟨vr,ty,dir,mode,mn,mx,ps⟩]⟩) B1 ?_ ?_)|(refine eh6 18 (fun b=>⟨[(3,.d (.str b)),(1,.ptr 0 0)],[oEP ⟨vr,ty,dir,mode,mn,mx,ps⟩]⟩) B2 ?_ ?_)|(refine eh6 20 (fun b=>⟨[(3,.d (.str b)),(1,.ptr 0 0)],[oEP ⟨vr,ty,dir,mode,mn,mx,ps⟩]⟩) T1 ?_ ?_)|refine bd2 8 (fun b=>⟨[(3,.d (.str b)),(1,.ptr 0 0)],[oEP ⟨vr,ty,dir,mode,mn,mx,ps⟩]⟩) (B3) ?_ ?_|refine yz ?_|refine yp b84 j1 ?_|refine yp b331 hm ?_|refine qP (d:=30) rfl rfl rfl rfl rfl rfl bo8 (d1) ?_|refine qP (d:=35) rfl rfl rfl rfl rfl rfl bo8 (d2) ?_|refine yp b332 hp ?_|refine ac1 ⟨_,?_,(zle 1)⟩|(refine qV rfl ?_ ?_<;>intro _))
 all_goals first|exact l1 (by assumption)|exact l2 (by assumption)|exact l3 (by assumption)|exact l4 (by assumption)|exact l5 (by assumption)|exact l6 (by assumption)|exact l7|exact congrArg D.str (l8 (by assumption))|exact congrArg D.str (l9 (by assumption) (by assumption))|exact congrArg D.str (l10 (by assumption) (by assumption))|skip
theorem pv_bs(p:PA):bs (pvT p)=bif p.vr.toList==(⟨#[]⟩:ByteArray).toList then⟨#[]⟩else p.vr++⟨#[32,61,32]⟩:=by
 unfold pvT s0B isS
 cases p.vr.toList==(⟨#[]⟩:ByteArray).toList
 ·apply eh1;simp[bs,bl]
 ·rfl
theorem ei8{p:PA}(h:p.vr.size≤20):(pvT p).length≤23:=by
 have:=eb2 p.vr;unfold pvT
 cases s0B p.vr<;>simp only[cond_true,cond_false,es2,es3,es8]<;>omega
theorem pat0(p:PA):bs (pvT p++((paL p).take 0).flatten)=bs (pvT p):=by rw[ex0];simp
theorem ei9{p:PA}{i:Nat}(h:(paL p).length≤i):bs (pvT p++((paL p).take i).flatten)=bs (paT p):=by rw[eu2 h];rfl
theorem pat_0{p:PA}{n:NP}(h:p.ns[0]? =some n):bs (pvT p++((paL p).take 0).flatten)++bs (ndT n)=bs (pvT p++((paL p).take 1).flatten):=by
 rw[eh7 (ed1 (a:=[]) rfl h)];apply eh1;simp[bs]
theorem pat_s{p:PA}{i:Nat}{n:NP}{e:EP}(h:p.ns[i]? =some n)(hi:0<i)(he:p.es[i-1]? =some e):bs (pvT p++((paL p).take i).flatten)++bs (edT e)++bs (ndT n)=bs (pvT p++((paL p).take (i+1)).flatten):=by
 have h1:([]::p.es.map edT)[i]? =some (edT e):=by
  obtain⟨j,rfl⟩:∃j,i=j+1:=⟨i-1,by omega⟩;rw[fc2,es6];rw[Nat.add_sub_cancel]at he;rw[he];rfl
 rw[eh7 (ed1 h1 h)];apply eh1;simp[bs]
theorem ej0{p:PA}(h:TxA p)(i:Nat):(bs (pvT p++((paL p).take i).flatten)).size≤8400967000:=by
 have h1:=ed5 (paL p) i;have h2:=ed6 h;have h3:=ei8 h.v;rw[bw5,es2];omega
set_option maxHeartbeats 4000000 in
theorem ej1(l:List PA)(hn:l.length≤8)(h:∀p∈l,TxA p):Ev E 229 [.sl (l.map ci4)] (.d (.str (bs (Lib.join (l.map paT) [44,32])))):=by
 have hle:(l.map ci4).length=l.length:=by simp
 have hj:=eh3 (l.map paT) [44,32] (by rw[es7];omega) (by have:=ed8 hn h;omega);have y1:(⟨#[32,61,32]⟩:ByteArray).size=3:=rfl;refine ye1 func229 ntmps229 fun _ _ _=>?_
 repeat'(refine yz ?_)
 refine ac7 (α:=SDx l) (fun p=>⟨[(3,bf8 0 (by0 ((l.take p.i).map paT))),(9,.d (.sl (l.map ci4))),(10,.d (.int (l.map ci4).length)),(11,.d (.int p.i))],aw6 9 1 (by0 ((l.take p.i).map paT))⟩) (fun p=>l.length-p.i) ⟨0,by omega⟩ (zle 0) ?_;rintro⟨i,hi⟩;dsimp only;have hol:(by0 ((l.take i).map paT)).length≤1000000:=by simp[by0];omega
 rcases es1 i l.length with hlt|hge
 ·have g1:decide ((i:Int)<((l.map ci4).length:Int))=true:=by rw[hle];simpa using hlt
  have hx0:=es0 hlt;generalize l[i]=x at hx0;have hx:=cn4 (f:=ci4) hx0;have hm:=es4 hx0;have hT:=h x hm;have hnx:=eh2 (f:=paT) hx0;have zpa:=ed7 hT;rw[←bw5]at zpa;generalize by0 ((l.take i).map paT)=o at*;clear hx0;have hpv:=pv_bs x;have hzp:(bs (pvT x)).size≤23:=by rw[bw5];exact ei8 hT.v
  have hp0:=pat0 x;have hvr:=hT.v;have hes:=hT.m;have hnn:=hT.n;have hall:=fun j=>ei9 (p:=x) (i:=j)
  have hlen:=ed2 hnn;have hs0:=fun n=>pat_0 (p:=x) (n:=n)
  have hss:=fun j n e=>pat_s (p:=x) (i:=j) (n:=n) (e:=e)
  have hle2:=ej0 hT;have hN:=hT.ns;have hE:=hT.es;obtain⟨vr,ns,es⟩:=x;dsimp only at hpv hvr hes hnn hs0 hss hlen hN hE;have hln:(ns.map ci2).length=ns.length:=by simp
  have hlee:(es.map ci3).length=es.length:=by simp
  have hfin:bs (pvT ⟨vr,ns,es⟩++((paL ⟨vr,ns,es⟩).take ns.length).flatten)=bs (paT ⟨vr,ns,es⟩):=hall _ (by omega)
  match o,hol with
  |[],hol=>
   dsimp only[bf8,aw6]
   cases hv:vr.toList==(⟨#[]⟩:ByteArray).toList with
   |true=>
    rw[hv]at hpv;simp only[cond_true,cond_false]at hpv;have hv2:(!(vr.toList==(⟨#[]⟩:ByteArray).toList))= !true:=by rw[hv]
    simp only[ez2,ey9]at hv2
    repeat'(first|refine yz ?_|refine yi (ci4 ⟨vr,ns,es⟩) hx ?_)
    refine ac7 (α:=SDx ns) (fun p=>⟨[(3,.nilS),(9,.d (.sl (l.map ci4))),(10,.d (.int (l.map ci4).length)),(11,.d (.int i)),(5,.ptr 0 0),(6,.d (.str (bs (pvT ⟨vr,ns,es⟩++((paL ⟨vr,ns,es⟩).take p.i).flatten)))),(22,.d (.sl (ns.map ci2))),(23,.d (.int (ns.map ci2).length)),(24,.d (.int p.i))],[oPA ⟨vr,ns,es⟩]⟩) (fun p=>ns.length-p.i) ⟨0,by omega⟩ (by dsimp only;rw[hp0,hpv];exact(zle 1)) ?_;rintro⟨j,hj⟩;dsimp only;rcases es1 j ns.length with hlt2|hge2
    ·have k1:decide ((j:Int)<((ns.map ci2).length:Int))=true:=by rw[hln];simpa using hlt2
     have hy0:=es0 hlt2;generalize ns[j]=n at hy0;have hy:=cn4 (f:=ci2) hy0;have hTn:=hN n (es4 hy0);have hnd:=ei1 n hTn;have znd:=ec3 hTn;rw[←bw5]at znd;have zs:=hle2 j
     by_cases hj0:j=0
     ·subst hj0;have k2:decide (((0:Nat):Int)>0)=false:=rfl;have e1:=hs0 n hy0
      repeat'(first|refine yz ?_|refine yi (ci2 n) hy ?_|refine yp bp9 hnd ?_)
      refine ac1 ?_;rw[e1];exact⟨⟨1,by omega⟩,by dsimp only;omega,(zle 1)⟩
     ·have k2:decide ((j:Int)>0)=true:=by simp;omega
      have hw0:=es0 (l:=es) (i:=j-1) (by omega);generalize es[j-1]=w at hw0
      have hw:(es.map ci3)[((j:Int) -1).toNat]? =some (ci3 w):=by
       have:=cn4 (f:=ci3) hw0;rw[show((j:Int) -1).toNat=j-1 by omega];rw[ev6]at this;exact this
      have hTe:=hE w (es4 hw0);have hed:=ei7 w hTe;have zed:=ed0 hTe;rw[←bw5]at zed;have e1:=hss j n w hy0 (by omega) hw0
      repeat'(first|refine yz ?_|refine yi (ci2 n) hy ?_|refine yi (ci3 w) hw ?_|refine yp bp9 hnd ?_|refine yp b286 hed ?_)
      refine ac1 ?_;rw[e1];exact⟨⟨j+1,by omega⟩,by dsimp only;omega,(zle 1)⟩
    ·have k1:decide ((j:Int)<((ns.map ci2).length:Int))=false:=by rw[hln];simp;omega
     obtain rfl:j=ns.length:=by omega
     rw[hfin]
     repeat'(first|refine yz ?_|(refine qS rfl ⟨by simp,fun d hd=>by(obtain rfl:=et9.1 hd;rfl),by(show(0+1)*16≤140737488355328;omega),by(show 0+1≤9223372036854775807;omega)⟩ ?_))
     refine ac1 ?_;refine⟨⟨i+1,by omega⟩,by dsimp only;omega,?_⟩;dsimp only;rw[hnx];exact(bg7 [1])
   |false=>
    rw[hv]at hpv;simp only[cond_true,cond_false]at hpv;have hv2:(!(vr.toList==(⟨#[]⟩:ByteArray).toList))= !false:=by rw[hv]
    simp only[ez2,ey9]at hv2
    repeat'(first|refine yz ?_|refine yi (ci4 ⟨vr,ns,es⟩) hx ?_)
    refine ac7 (α:=SDx ns) (fun p=>⟨[(3,.nilS),(9,.d (.sl (l.map ci4))),(10,.d (.int (l.map ci4).length)),(11,.d (.int i)),(5,.ptr 0 0),(6,.d (.str (bs (pvT ⟨vr,ns,es⟩++((paL ⟨vr,ns,es⟩).take p.i).flatten)))),(22,.d (.sl (ns.map ci2))),(23,.d (.int (ns.map ci2).length)),(24,.d (.int p.i))],[oPA ⟨vr,ns,es⟩]⟩) (fun p=>ns.length-p.i) ⟨0,by omega⟩ (by dsimp only;rw[hp0,hpv];exact(zle 1)) ?_;rintro⟨j,hj⟩;dsimp only;rcases es1 j ns.length with hlt2|hge2
    ·have k1:decide ((j:Int)<((ns.map ci2).length:Int))=true:=by rw[hln];simpa using hlt2
     have hy0:=es0 hlt2;generalize ns[j]=n at hy0;have hy:=cn4 (f:=ci2) hy0;have hTn:=hN n (es4 hy0);have hnd:=ei1 n hTn;have znd:=ec3 hTn;rw[←bw5]at znd;have zs:=hle2 j
     by_cases hj0:j=0
     ·subst hj0;have k2:decide (((0:Nat):Int)>0)=false:=rfl;have e1:=hs0 n hy0
      repeat'(first|refine yz ?_|refine yi (ci2 n) hy ?_|refine yp bp9 hnd ?_)
      refine ac1 ?_;rw[e1];exact⟨⟨1,by omega⟩,by dsimp only;omega,(zle 1)⟩
     ·have k2:decide ((j:Int)>0)=true:=by simp;omega
      have hw0:=es0 (l:=es) (i:=j-1) (by omega);generalize es[j-1]=w at hw0
      have hw:(es.map ci3)[((j:Int) -1).toNat]? =some (ci3 w):=by
       have:=cn4 (f:=ci3) hw0;rw[show((j:Int) -1).toNat=j-1 by omega];rw[ev6]at this;exact this
      have hTe:=hE w (es4 hw0);have hed:=ei7 w hTe;have zed:=ed0 hTe;rw[←bw5]at zed;have e1:=hss j n w hy0 (by omega) hw0
      repeat'(first|refine yz ?_|refine yi (ci2 n) hy ?_|refine yi (ci3 w) hw ?_|refine yp bp9 hnd ?_|refine yp b286 hed ?_)
      refine ac1 ?_;rw[e1];exact⟨⟨j+1,by omega⟩,by dsimp only;omega,(zle 1)⟩
    ·have k1:decide ((j:Int)<((ns.map ci2).length:Int))=false:=by rw[hln];simp;omega
     obtain rfl:j=ns.length:=by omega
     rw[hfin]
     repeat'(first|refine yz ?_|(refine qS rfl ⟨by simp,fun d hd=>by(obtain rfl:=et9.1 hd;rfl),by(show(0+1)*16≤140737488355328;omega),by(show 0+1≤9223372036854775807;omega)⟩ ?_))
     refine ac1 ?_;refine⟨⟨i+1,by omega⟩,by dsimp only;omega,?_⟩;dsimp only;rw[hnx];exact(bg7 [1])
  |a::q,hol=>
   dsimp only[bf8,aw6]
   cases hv:vr.toList==(⟨#[]⟩:ByteArray).toList with
   |true=>
    rw[hv]at hpv;simp only[cond_true,cond_false]at hpv;have hv2:(!(vr.toList==(⟨#[]⟩:ByteArray).toList))= !true:=by rw[hv]
    simp only[ez2,ey9]at hv2
    repeat'(first|refine yz ?_|refine yi (ci4 ⟨vr,ns,es⟩) hx ?_)
    refine ac7 (α:=SDx ns) (fun p=>⟨[(3,.own 0),(9,.d (.sl (l.map ci4))),(10,.d (.int (l.map ci4).length)),(11,.d (.int i)),(5,.ptr 1 0),(6,.d (.str (bs (pvT ⟨vr,ns,es⟩++((paL ⟨vr,ns,es⟩).take p.i).flatten)))),(22,.d (.sl (ns.map ci2))),(23,.d (.int (ns.map ci2).length)),(24,.d (.int p.i))],[.row 9 1 (a::q),oPA ⟨vr,ns,es⟩]⟩) (fun p=>ns.length-p.i) ⟨0,by omega⟩ (by dsimp only;rw[hp0,hpv];exact(zle 2)) ?_;rintro⟨j,hj⟩;dsimp only;rcases es1 j ns.length with hlt2|hge2
    ·have k1:decide ((j:Int)<((ns.map ci2).length:Int))=true:=by rw[hln];simpa using hlt2
     have hy0:=es0 hlt2;generalize ns[j]=n at hy0;have hy:=cn4 (f:=ci2) hy0;have hTn:=hN n (es4 hy0);have hnd:=ei1 n hTn;have znd:=ec3 hTn;rw[←bw5]at znd;have zs:=hle2 j
     by_cases hj0:j=0
     ·subst hj0;have k2:decide (((0:Nat):Int)>0)=false:=rfl;have e1:=hs0 n hy0
      repeat'(first|refine yz ?_|refine yi (ci2 n) hy ?_|refine yp bp9 hnd ?_)
      refine ac1 ?_;rw[e1];exact⟨⟨1,by omega⟩,by dsimp only;omega,(zle 2)⟩
     ·have k2:decide ((j:Int)>0)=true:=by simp;omega
      have hw0:=es0 (l:=es) (i:=j-1) (by omega);generalize es[j-1]=w at hw0
      have hw:(es.map ci3)[((j:Int) -1).toNat]? =some (ci3 w):=by
       have:=cn4 (f:=ci3) hw0;rw[show((j:Int) -1).toNat=j-1 by omega];rw[ev6]at this;exact this
      have hTe:=hE w (es4 hw0);have hed:=ei7 w hTe;have zed:=ed0 hTe;rw[←bw5]at zed;have e1:=hss j n w hy0 (by omega) hw0
      repeat'(first|refine yz ?_|refine yi (ci2 n) hy ?_|refine yi (ci3 w) hw ?_|refine yp bp9 hnd ?_|refine yp b286 hed ?_)
      refine ac1 ?_;rw[e1];exact⟨⟨j+1,by omega⟩,by dsimp only;omega,(zle 2)⟩
    ·have k1:decide ((j:Int)<((ns.map ci2).length:Int))=false:=by rw[hln];simp;omega
     obtain rfl:j=ns.length:=by omega
     rw[hfin]
     repeat'(first|refine yz ?_|(refine qS rfl ⟨by simp,fun d hd=>by(obtain rfl:=et9.1 hd;rfl),by(show((a::q).length+1)*16≤140737488355328;omega),by(show(a::q).length+1≤9223372036854775807;omega)⟩ ?_))
     refine ac1 ?_;refine⟨⟨i+1,by omega⟩,by dsimp only;omega,?_⟩;dsimp only;rw[hnx];exact(bg7 [2])
   |false=>
    rw[hv]at hpv;simp only[cond_true,cond_false]at hpv;have hv2:(!(vr.toList==(⟨#[]⟩:ByteArray).toList))= !false:=by rw[hv]
    simp only[ez2,ey9]at hv2
    repeat'(first|refine yz ?_|refine yi (ci4 ⟨vr,ns,es⟩) hx ?_)
    refine ac7 (α:=SDx ns) (fun p=>⟨[(3,.own 0),(9,.d (.sl (l.map ci4))),(10,.d (.int (l.map ci4).length)),(11,.d (.int i)),(5,.ptr 1 0),(6,.d (.str (bs (pvT ⟨vr,ns,es⟩++((paL ⟨vr,ns,es⟩).take p.i).flatten)))),(22,.d (.sl (ns.map ci2))),(23,.d (.int (ns.map ci2).length)),(24,.d (.int p.i))],[.row 9 1 (a::q),oPA ⟨vr,ns,es⟩]⟩) (fun p=>ns.length-p.i) ⟨0,by omega⟩ (by dsimp only;rw[hp0,hpv];exact(zle 2)) ?_;rintro⟨j,hj⟩;dsimp only;rcases es1 j ns.length with hlt2|hge2
    ·have k1:decide ((j:Int)<((ns.map ci2).length:Int))=true:=by rw[hln];simpa using hlt2
     have hy0:=es0 hlt2;generalize ns[j]=n at hy0;have hy:=cn4 (f:=ci2) hy0;have hTn:=hN n (es4 hy0);have hnd:=ei1 n hTn;have znd:=ec3 hTn;rw[←bw5]at znd;have zs:=hle2 j
     by_cases hj0:j=0
     ·subst hj0;have k2:decide (((0:Nat):Int)>0)=false:=rfl;have e1:=hs0 n hy0
      repeat'(first|refine yz ?_|refine yi (ci2 n) hy ?_|refine yp bp9 hnd ?_)
      refine ac1 ?_;rw[e1];exact⟨⟨1,by omega⟩,by dsimp only;omega,(zle 2)⟩
     ·have k2:decide ((j:Int)>0)=true:=by simp;omega
      have hw0:=es0 (l:=es) (i:=j-1) (by omega);generalize es[j-1]=w at hw0
      have hw:(es.map ci3)[((j:Int) -1).toNat]? =some (ci3 w):=by
       have:=cn4 (f:=ci3) hw0;rw[show((j:Int) -1).toNat=j-1 by omega];rw[ev6]at this;exact this
      have hTe:=hE w (es4 hw0);have hed:=ei7 w hTe;have zed:=ed0 hTe;rw[←bw5]at zed;have e1:=hss j n w hy0 (by omega) hw0
      repeat'(first|refine yz ?_|refine yi (ci2 n) hy ?_|refine yi (ci3 w) hw ?_|refine yp bp9 hnd ?_|refine yp b286 hed ?_)
      refine ac1 ?_;rw[e1];exact⟨⟨j+1,by omega⟩,by dsimp only;omega,(zle 2)⟩
    ·have k1:decide ((j:Int)<((ns.map ci2).length:Int))=false:=by rw[hln];simp;omega
     obtain rfl:j=ns.length:=by omega
     rw[hfin]
     repeat'(first|refine yz ?_|(refine qS rfl ⟨by simp,fun d hd=>by(obtain rfl:=et9.1 hd;rfl),by(show((a::q).length+1)*16≤140737488355328;omega),by(show(a::q).length+1≤9223372036854775807;omega)⟩ ?_))
     refine ac1 ?_;refine⟨⟨i+1,by omega⟩,by dsimp only;omega,?_⟩;dsimp only;rw[hnx];exact(bg7 [2])
 ·have g1:decide ((i:Int)<((l.map ci4).length:Int))=false:=by rw[hle];simp;omega
  rw[eu2 hge];generalize by0 (l.map paT)=o at*
  match o,hj with
  |[],hj=>
   dsimp only[bf8,aw6]
   repeat'(first|refine yz ?_|refine yp b84 hj ?_|exact zD)
  |a::q,hj=>
   dsimp only[bf8,aw6];refine qA ?_;refine au1 0 rfl ?_
   repeat'(first|refine yz ?_|refine yp b84 hj ?_|exact zD)
theorem wh_bs(x:Ex)(r:List Ex):bs (whT (x::r))=⟨#[32,87,72,69,82,69,32]⟩++bs (txE x):=by apply eh1;simp[bs,whT]
theorem ej2(l:List Ex)(h:∀e∈l,TxX e):Ev E 230 [.sl (bu1 l)] (.d (.str (bs (whT l)))):=by
 have y1:(⟨#[32,87,72,69,82,69,32]⟩:ByteArray).size=7:=rfl
 match l,h with
 |[],h=>
  have e:bs (whT [])=⟨#[]⟩:=rfl;have g:(((bu1 []).length:Int)==0)=true:=rfl;rw[e];refine ye1 func230 ntmps230 fun _ _ _=>?_
  repeat'(first|refine yz ?_|exact zD)
 |x::r,h=>
  have hx:(bu1 (x::r))[((0:Nat):Int).toNat]? =some (bu2 x):=rfl;have g:(((bu1 (x::r)).length:Int)==0)=false:=by rw[bu8];simp;omega
  have g1:(bu1 (x::r)).length=r.length+1:=by rw[bu8];rfl
  have ht:=eh4 (h x (by simp));have zt:=eb8 (h x (by simp));rw[←bw5]at zt;rw[wh_bs];generalize bu1 (x::r)=L at*;refine ye1 func230 ntmps230 fun _ _ _=>?_
  repeat'(first|refine yz ?_|refine yi (bu2 x) hx ?_|refine yp bp6 ht ?_|exact zD)
theorem cm1t{c:CL}(h:(c.k==1)=true)(ho:c.opt=true):bs (clT c)=⟨#[79,80,84,73,79,78,65,76,32]⟩++(⟨#[77,65,84,67,72,32]⟩++bs (Lib.join (c.ps.map paT) [44,32])++bs (whT c.wh)):=by unfold clT;rw[h,ho];apply eh1;simp[bs]
theorem cm1f{c:CL}(h:(c.k==1)=true)(ho:c.opt=false):bs (clT c)=⟨#[77,65,84,67,72,32]⟩++bs (Lib.join (c.ps.map paT) [44,32])++bs (whT c.wh):=by unfold clT;rw[h,ho];apply eh1;simp[bs]
set_option maxHeartbeats 4000000 in
theorem ej3(c:CL)(h:TxC c)(h1:(c.k==1)=true):Ev E 153 [ci8 c] (.d (.str (bs (clT c)))):=by
 have hp:=ej1 c.ps h.pn h.p;have zp:=ed8 h.pn h.p;have hw:=ej2 c.wh h.w;have zw:=ed9 h.w;rw[←bw5]at zp zw;have y0:(⟨#[79,80,84,73,79,78,65,76,32]⟩:ByteArray).size=9:=rfl;have y1:(⟨#[77,65,84,67,72,32]⟩:ByteArray).size=6:=rfl
 cases ho:c.opt with
 |true=>
  rw[cm1t h1 ho];clear h;obtain⟨k,opt,ds,ps,wh,e,nm,it,od,sk,lm,st,ns⟩:=c;dsimp only at*;refine ye1 func153 ntmps153 fun _ _ _=>?_
  repeat'(first|refine yz ?_|refine yp b229 hp ?_|refine yp b230 hw ?_|exact zD)
 |false=>
  rw[cm1f h1 ho];clear h;obtain⟨k,opt,ds,ps,wh,e,nm,it,od,sk,lm,st,ns⟩:=c;dsimp only at*;refine ye1 func153 ntmps153 fun _ _ _=>?_
  repeat'(first|refine yz ?_|refine yp b229 hp ?_|refine yp b230 hw ?_|exact zD)
end Go.Proofs.YtndgolmgaenlfaaGreatDoor
