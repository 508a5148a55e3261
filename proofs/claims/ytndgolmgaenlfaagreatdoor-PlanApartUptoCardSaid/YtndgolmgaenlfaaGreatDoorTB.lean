/- What the text of a checked plan is made of, and how long it is; What an operator's line is made of, and how long the text of a plan is; Parts of a pla. Conditions: each part's own, as it says. -/
import Derived.Test.YtndgolmgaenlfaaGreatDoorGC
import Derived.Test.YtndgolmgaenlfaaGreatDoorTA
import Derived.Test.YtndgolmgaenlfaaGreatDoorDA
import Derived.Test.YtndgolmgaenlfaaGreatDoorPB
set_option linter.unusedVariables false
set_option linter.unusedSimpArgs false
namespace Go.Proofs.YtndgolmgaenlfaaGreatDoor
set_option maxRecDepth 4000
open Go Go.Abs Go.Val Go.RowKit Go.Proofs.Tryz
theorem eu2{s t:ByteArray}{n:Nat}(h:isS s t=true)(ht:t.size≤n):s.size≤n:=by
 obtain rfl:=dc2 (by simpa[isS]using h:s.toList=t.toList);exact ht
theorem eu3{s:ByteArray}(h:cn8 s=true):s.size≤200:=by
 unfold cn8 at h;simp only[gb0]at h;rcases h with h|h|h|h|h|h<;>exact eu2 h Od
theorem eu4{s:ByteArray}(h:cn6 s≠0):s.size≤200:=by
 unfold cn6 at h
 cases c1:cn4 s with
 |true=>
  unfold cn4 at c1;simp only[gb0]at c1;rcases c1 with h|h|h|h|h|h|h|h|h|h|h|h|h<;>exact eu2 h Od
 |false=>
  cases c2:cn5 s with
  |true=>exact eu2 c2 Od
  |false=>rw[c1,c2]at h;exact absurd rfl h
theorem eu5(e:Ex):ct5 e=0→alE (fun e=>e.nm.size≤200) e:=by
 refine ca0 (P:=fun e=>ct5 e=0→alE (fun e=>e.nm.size≤200) e) (fun op v nm ds ks ih h=>⟨?_,cx8 fun x hx=>ih x hx (dh7 h x hx)⟩) e;show nm.size≤200;have hs:=dg8 (dh0 h).2.2;unfold cs8 at hs;rw[show(Ex.mk op v nm ds ks).op=op from rfl,show(Ex.mk op v nm ds ks).v=v from rfl]at hs
 cases c1:(decide (op<1)||decide (op>24))||(!co3 (.mk op v nm ds ks)|| !co6 (.mk op v nm ds ks))with
 |true=>rw[c1]at hs;exact absurd (show(1:Int)=0 from hs) Od
 |false=>
 cases c2:op==1&& !co8 v with
 |true=>rw[c1,c2]at hs;exact absurd (show(8:Int)=0 from hs) Od
 |false=>
 cases c3:nlF (.mk op v nm ds ks)with
 |true=>rw[c1,c2,c3]at hs;exact absurd (show(6:Int)=0 from hs) Od
 |false=>
  unfold nlF at c3;rw[show(Ex.mk op v nm ds ks).op=op from rfl,show(Ex.mk op v nm ds ks).nm=nm from rfl]at c3
  cases d1:op==2||(op==3||op==4)with
  |true=>
   rw[d1]at c3;have:=eq1 (s:=nm) (by simpa using c3);omega
  |false=>
  cases d2:op==23 with
  |true=>rw[d1,d2]at c3;exact eu4 (by simpa using c3)
  |false=>
  cases d3:op==24 with
  |true=>rw[d1,d2,d3]at c3;exact eu3 (by simpa using c3)
  |false=>
   simp only[gb3,Bool.not_eq_false']at c1;have h2:=c1.2.2;unfold co6 co5 at h2;simp only[show(Ex.mk op v nm ds ks).op=op from rfl,show(Ex.mk op v nm ds ks).nm=nm from rfl]at h2;simp only[gb3]at d1;rw[d1.1,d1.2.1,d1.2.2,d2,d3]at h2;simp only[gd0,fz4]at h2;exact eu2 h2.2.1 Od
theorem eu6{e:Ex}(hf:Fit (bz1 e))(hc:ct5 e=0):TxX e:=
 ⟨cx9 (fun e h=>⟨h.1.1,h.1.2,h.2⟩) e (cy0 e (cy0 e (eq0 hc) (eu5 e hc)) (ep9 e hf)),by have:=(dh0 hc).2.1;omega⟩
theorem eu7{p:PA}{cr:Bool}(hf:FxA p)(hm:ej7 p≤1500)(h:cv9 p cr=0):TxA p:=by
 obtain⟨h1,h2,h3,h4,h5,h6⟩:=er7 h;unfold ej7 at hm
 have hme:p.es.length≤6:=by
  unfold cu9 at h1;simp only[gb3,decide_eq_false_iff_not]at h1;omega
 have bad:∀x∈cv3 p.ns p.es,x.nm.size≤20∧(∀s∈x.ns,s.size≤20)∧∀q∈x.ps,q.key.size≤20:=by
  intro x hx;have:=h5 x hx;unfold cv5 at this;simp only[gb3,Bool.not_eq_false']at this;refine⟨eq3 this.1,fun s hs=>eq1 (ga6.1 this.2.1 s hs),fun q hq=>eq1 (ga6.1 this.2.2 q.key (ga1.2 ⟨q,hq,rfl⟩))⟩
 refine⟨eq3 h4,h2,hme,fun n hn=>?_,fun e he=>?_⟩
 ·have hx:=er4 p.ns p.es n hn;obtain⟨b1,b2,b3⟩:=bad _ hx;have hl:=ej6 (f:=fun n:NP=>n.lb.length+n.ps.length) hn;exact⟨b1,by omega,b2,⟨by omega,b3,fun q hq=>eu6 (hf.n n hn q hq) (h6 _ hx q hq)⟩⟩
 ·have hx:=er5 p.ns p.es Oa e he;obtain⟨b1,b2,b3⟩:=bad _ hx;have hl:=ej6 (f:=fun e:EP=>e.ty.length+e.ps.length) he;have hh:=h3 e he;unfold cv0 at hh
  have hb:(0≤e.mn∧e.mn≤6)∧0≤e.mx∧e.mx≤6:=by
   cases k1:((decide (e.dir<1)||decide (e.dir>3))||(decide (e.mode<0)||decide (e.mode>5)))with
   |true=>rw[k1]at hh;simp at hh
   |false=>
    rw[k1,cond_false]at hh
    cases k2:e.mode==0 with
    |true=>rw[k2,cond_true]at hh;simp at hh;omega
    |false=>rw[k2,cond_false]at hh;simp at hh;omega
  exact⟨b1,by omega,b2,hb.1,hb.2,⟨by omega,b3,fun q hq=>eu6 (hf.e e he q hq) (h6 _ hx q hq)⟩⟩
theorem eu8{c:CL}(hf:FxC c)(hm:ej8 c≤1500)(h:cw7 c=0)(hk:c.k=1):TxC c:=by
 unfold cw7 at h;unfold ej8 at hm
 cases c1:((decide (c.k<1)||decide (c.k>8))||cw2 c)with
 |true=>rw[c1]at h;simp at h
 |false=>
  rw[c1,cond_false]at h
  cases c2:cw3 c with
  |true=>rw[c2]at h;simp at h
  |false=>
   rw[c2,cond_false]at h;have hz:=er8 h;rw[gb3]at c1;have hs:=c1.2;unfold cw2 at hs;rw[hk]at hs;dsimp only at hs;unfold cw3 inN at c2;rw[hk]at c2
   have e0:c.it=[]∧c.od=[]∧c.st=[]∧c.ns=[]∧(-1≤c.sk∧c.sk≤1000000000000000)∧ -1≤c.lm∧c.lm≤1000000000000000:=by
    revert hs;generalize(c.opt&& !((1:Int)==1||(1:Int)==8)||c.ds&& !((1:Int)==3||(1:Int)==4))=a1;generalize(decide (c.ps.length>0) && !((1:Int)==1||((1:Int)==5||(1:Int)==6))||decide (c.wh.length>0) && !((1:Int)==1||(1:Int)==3))=a2;generalize(!((1:Int)==2) &&(!(cw0 c.e)|| !(s0B c.nm)))=a3;generalize(!((1:Int)==3||(1:Int)==4) &&(!(cw1 c.sk)|| !(cw1 c.lm)))=a4
    cases a1<;>cases a2<;>cases a3<;>cases a4<;>simp[gd9]<;>intros<;>simp_all<;>omega
   obtain⟨e1,e2,e3,e4,e5,e6⟩:=e0
   have hp:c.ps.length≤6:=by
    have:((!(decide (1≤c.ps.length) &&decide (c.ps.length≤6)))||decide (c.wh.length>1))=false:=c2;simp at this;omega
   refine⟨by omega,fun p hp=>?_,fun e he=>?_,fun hk2=>by omega,by rw[e1];exact ga8 _,fun x hx=>(by rw[e1]at hx;cases hx),by rw[e2];exact ga8 _,fun x hx=>(by rw[e2]at hx;cases hx),e5,e6,by rw[e3];exact ga8 _,fun x hx=>(by rw[e3]at hx;cases hx),by rw[e4];exact ga8 _,fun x hx=>(by rw[e4]at hx;cases hx)⟩
   ·have hl:=ej6 (f:=ej7) hp;exact eu7 (hf.p p hp) Oa (hz (cv9 p (c.k==5)) (by simp only[gb2];refine .inl (.inl (.inl (.inl (.inl (.inl ?_)))));exact ga1.2 ⟨p,hp,rfl⟩))
   ·exact eu6 (hf.w e he) (hz (ct5 e) (by simp only[gb2];refine .inl (.inl (.inl (.inl (.inl (.inr ?_)))));exact ga1.2 ⟨e,he,rfl⟩))
structure TxE(e:Ex):Prop where
 c:ct5 e=0
 x:TxX e
structure eu9(a:AT):Prop where
 k:a.k=1∨a.k=2∨a.k=3∨a.k=4
 n:a.vs.length=dk7 a.k
 nm:a.k=1∨a.k=2→a.nm.size≤20
 tn:a.ty.length≤1048576
 ty:∀s∈a.ty,1≤s.size∧s.size≤20
 v:a.k=2→(txt a.v).length≤202
 vi:∀n∈a.vs,0≤n∧n≤100
structure TxB(b:PB):Prop where
 op:1≤b.op∧b.op≤11
 vn:b.op=2→b.cj.vs.length≤24∧b.cj.as.length≤12
 vs:b.op=2→∀s∈b.cj.vs,s.size≤1048576
 ats:b.op=2→∀a∈b.cj.as,eu9 a
 cl:b.op=5→cw7 b.cl=0∧TxC b.cl∧b.cl.k=1
 e:b.op=6∨b.op=11→TxE b.e
 it:b.op=7∨b.op=8→b.it.length≤24∧∀x∈b.it,TxE x.e∧x.asn.size≤20
 od:b.op=10→b.od.length≤1500∧∀x∈b.od,TxE x.e
 sl:b.op=10→(-1≤b.sk∧inR .i64 b.sk)∧ -1≤b.lm∧inR .i64 b.lm
 nm:b.op=11→b.nm.size≤20
theorem ev0{n:Int}(h: -1000000000000000≤n∧n≤1000000000000000):(Lib.itoa n).length≤21:=cg4 (by simp only[inR];omega)
theorem ev1:∀l:List SK,l.length≤smT (fun x:SK=>nd x.e) l
 |[]=>ga8 _
 |a::r=>by
  have ih:=ev1 r;have h1:1≤nd a.e:=by rw[cp0];omega
  rw[smT,fy7];omega
theorem ev2{v:V}(h:bq9 v=true):(txt v).length≤202:=by
 unfold bq9 at h;obtain⟨k,n,d,s,l⟩:=v;have hok:Val.okV (.mk k n d s l)=true:=by simp_all
 rw[txt,hok]
 cases c1:k==1 with
 |true=>
  show(bif n==1 then [116,114,117,101]else [102,97,108,115,101]:List UInt8).length≤202
  cases n==1<;>simp
 |false=>
 cases c2:k==2 with
 |true=>
  have hk:k=2:=by simpa using c2
  subst hk;unfold Val.okV at hok;rw[bw2 8 2 n d s l Oa Oa]at hok;simp[bq5,V.k,V.n,V.d,V.s,V.l]at hok;have hm:inM n=true:=hok.2;unfold inM at hm;simp only[fz4,decide_eq_true_eq]at hm;have:=ev0 (n:=n) Oa;show(Lib.itoa n).length≤202;omega
 |false=>
  have hk:k=4:=by simp_all [V.k]
  subst hk;have h4:=ch0 hok;have hl2:=cf9 s.data.toList;have hsl:s.data.toList.length=s.size:=Oc
  show([39]++dbl s.data.toList++ [39]:List UInt8).length≤202;simp only[fy8,fy7,fz2];omega
theorem ev3{a:AT}{n:Int}(h1:dl6 a=true)(h2:dm4 a=true)(h3:∀v∈a.vs,v<n)(hn:n≤24)(ht:a.ty.length≤1048576):eu9 a:=by
 unfold dm4 at h2;rw[fz4]at h2;obtain⟨n1,n2⟩:=h2
 have hnm:∀s:ByteArray,ca2 s=true→1≤s.size∧s.size≤20:=fun s h=>by
  unfold ca2 at h;simp only[fz4,decide_eq_true_eq]at h;exact⟨h.1,h.2.1⟩
 unfold dl6 at h1
 cases c1:dk7 a.k==0||a.vs.length !=dk7 a.k with
 |true=>rw[c1]at h1;cases h1
 |false=>
 cases c2:a.vs.any fun v=>decide (v<0)with
 |true=>rw[c1,c2]at h1;cases h1
 |false=>
 cases c3:(a.k !=3&&decide (a.ty.length>0))||((a.k !=1&&a.k !=2) && !nmE a.nm)with
 |true=>rw[c1,c2,c3]at h1;cases h1
 |false=>
  rw[c1,c2,c3]at h1;have h1:(bif a.k==2 then bq9 a.v else dl3 a.ty&&_)=true:=h1;rw[gb3]at c1;refine⟨?_,by simpa using c1.2,fun hk=>?_,ht,fun s hs=>?_,fun hk=>?_,fun v hv=>?_⟩
  ·have:=c1.1;unfold dk7 at this
   by_cases k1:a.k=1;exact .inl k1
   by_cases k2:a.k=2;exact .inr (.inl k2)
   by_cases k3:a.k=3;exact .inr (.inr (.inl k3))
   by_cases k4:a.k=4;exact .inr (.inr (.inr k4))
   simp[k1,k2,k3,k4,gd9]at this
  ·have:ca2 a.nm=true:=by
    rcases hk with hk|hk<;>rw[hk]at n1<;>simpa using n1
   exact(hnm _ this).2
  ·rw[Bool.not_eq_true',gb9]at n2;exact hnm s (by simpa using n2 s hs)
  ·rw[hk]at h1;exact ev2 h1
  ·have:=gb9.1 c2 v hv;have:=h3 v hv;simp at*;omega
theorem ev4(a:AT):a.ty.length≤bi2 (cj6 a)∧∀s∈a.ty,s.size≤bi2 (cj6 a):=by
 have h1:=eg6 a.ty;unfold cj6;simp only[bi2,bi3];refine⟨by omega,fun s hs=>?_⟩;have h2:=eg4 (gc4 (f:=D.str) hs);have h3:bi2 (D.str s)=s.size+1:=by show bi2 (.imm (.string s))=_;rw[bi2]
 omega
theorem ev5{b:PB}{K:List D}(hb:bi2 (do7 b K)≤1048576)(h:(dq2 b.cj).2=0):(b.cj.vs.length≤24∧b.cj.as.length≤12)∧(∀s∈b.cj.vs,s.size≤1048576)∧∀a∈b.cj.as,eu9 a:=by
 have hB:=ei5 b K;unfold dq2 at h
 cases c1:dn8 b.cj !=0 with
 |true=>rw[c1,cond_true]at h;rw[show dn8 b.cj=0 from h]at c1;cases c1
 |false=>
 have h0:dn8 b.cj=0:=by simpa using c1
 unfold dn8 at h0
 cases d1:decide (b.cj.vs.length>24)||decide (b.cj.as.length>12)with
 |true=>rw[d1]at h0;exact absurd (show(4:Int)=0 from h0) Od
 |false=>
 cases d2:b.cj.as.any (dn6 b.cj.vs.length)with
 |true=>rw[d1,d2]at h0;exact absurd (show(1:Int)=0 from h0) Od
 |false=>
 cases d3:twF b.cj.vs with
 |true=>rw[d1,d2,d3]at h0;exact absurd (show(7:Int)=0 from h0) Od
 |false=>
 cases d4:b.cj.as.any (fun a=> !dm4 a)with
 |true=>rw[d1,d2,d3,d4]at h0;exact absurd (show(6:Int)=0 from h0) Od
 |false=>
  have hl:b.cj.vs.length≤24∧b.cj.as.length≤12:=by simp at d1;omega
  refine⟨hl,fun s hs=>?_,fun a ha=>?_⟩
  ·have h2:=eg4 (gc4 (f:=D.str) hs);have h3:bi2 (D.str s)=s.size+1:=by show bi2 (.imm (.string s))=_;rw[bi2]
   omega
  ·have e1:=gb9.1 d2 a ha;have e2:=gb9.1 d4 a ha;unfold dn6 at e1;simp only[gb0,not_or,ge5,Bool.not_eq_false']at e1;have g1:=eg4 (gc4 (f:=cj6) ha);have g2:=(ev4 a).1;exact ev3 e1.1 (by simpa using e2) (fun v hv=>by have:=gb9.1 e1.2 v hv;simpa using this) (by have:=hl.1;omega) Oa
theorem ev6{b:PB}{K:List D}{cols:List (List ByteArray)}(hf:Fit (do7 b K))(hb:bi2 (do7 b K)≤1048576)(hm:ej8 b.cl≤1500)(ho:b.od.length≤1500)(h0:(dr0 b cols).2=0):TxB b:=by
 have hfa:=hf.aggs
 have fcl:Fit (cu4 b.cl):=Fit.agg _ fun c hc=>hfa c (by
  simp only[do7,fz0,gf8,or_false]at hc ⊢;rcases hc with h|h|h|h|h|h|h|h|h|h|h|h|h|h|h|h|h|h|h|h|h<;>simp[h])
 have fe:Fit (bz1 b.e):=eq4 hf fun c hc=>by
  simp only[cE,fz0,gf8,or_false]at hc ⊢;rcases hc with h|h|h|h|h|h|h|h|h<;>simp[h]
 have fit_:∀x∈b.it,Fit (bz1 x.e):=fun x hx=>er0 ((cz2 (hfa (.sl (b.it.map cu1)) (by simp[do7]))).2 x hx)
 have fod:∀x∈b.od,Fit (bz1 x.e):=fun x hx=>er1 ((cz2 (hfa (.sl (b.od.map cu2)) (by simp[do7]))).2 x hx)
 have fsk:=(hfa (.int b.sk) (by simp[do7])).int;have flm:=(hfa (.int b.lm) (by simp[do7])).int;unfold dr0 at h0
 cases c0:dp5 b cols.length with
 |false=>rw[c0]at h0;exact absurd (show(25:Int)=0 from h0) Od
 |true=>
 rw[c0,gg0,cond_false]at h0;have hk:=ds1 c0;have hop:1≤b.op∧b.op≤11:=by rcases ed0 hk with h|h|h|h|h|h|h|h|h|h|h<;>(have:=h.1;omega)
 have sl:b.op=10→(-1≤b.sk∧inR .i64 b.sk)∧ -1≤b.lm∧inR .i64 b.lm:=fun h=>by
  unfold dp5 dp4 at c0;rw[h]at c0;simp at c0;exact⟨⟨by omega,fsk⟩,by omega,flm⟩
 have vac:∀{n:Int} {P:Prop},b.op≠n→b.op=n→P:=fun h1 h2=>absurd h2 h1
 refine⟨hop,fun h=>?_,fun h=>?_,fun h=>?_,fun h=>?_,fun h=>?_,fun h=>?_,fun h=>?_,sl,fun h=>?_⟩
 ·rw[h]at h0;exact(ev5 hb h0).1
 ·rw[h]at h0;exact(ev5 hb h0).2.1
 ·rw[h]at h0;exact(ev5 hb h0).2.2
 ·have hk:b.cl.k=1:=by
   unfold dp5 fldF at c0;rw[h]at c0;simp only[fz4]at c0;have:=c0.2.1.2.1;simpa using this
  rw[h]at h0;have h0:(dq4 b.cl (cols.getD 0 [])).2=0:=h0;unfold dq4 at h0
  cases c1:cw7 b.cl !=0 with
  |true=>rw[c1,cond_true]at h0;rw[show cw7 b.cl=0 from h0]at c1;cases c1
  |false=>
   have hc:cw7 b.cl=0:=by simpa using c1
   exact⟨hc,eu8 (er3 fcl) hm hc hk,hk⟩
 ·rcases h with h|h
  ·rw[h]at h0;have h0:(dq9 (di8 b.e (cols.getD 0 [])) (cols.getD 0 [])).2=0:=h0;have hc:=(ds3 (ds4 h0).1).1;exact⟨hc,eu6 fe hc⟩
  ·rw[h]at h0;have h0:(dq9 (dq8 b (cols.getD 0 [])) (cols.getD 0 []++ [b.nm])).2=0:=h0;have hc:=(ep8 (ds4 h0).1).1;exact⟨hc,eu6 fe hc⟩
 ·have key:∀g:Bool,(bif decide (b.it.length>24)then erR 4 else dq6 g (cols.getD 0 []) b.it []).2=0→b.it.length≤24∧∀x∈b.it,TxE x.e∧x.asn.size≤20:=by
   intro g h0
   cases l:decide (b.it.length>24)with
   |true=>rw[l]at h0;exact absurd (show(4:Int)=0 from h0) Od
   |false=>
    rw[l,cond_false]at h0;have:=ep6 _ _ _ _ h0;exact⟨by simpa using l,fun x hx=>⟨⟨(this x hx).1,eu6 (fit_ x hx) (this x hx).1⟩,eq1 (this x hx).2⟩⟩
  rcases h with h|h
  ·rw[h]at h0;exact key _ h0
  ·rw[h]at h0;exact key _ h0
 ·rw[h]at h0;have h0:(dq9 (dq7 (cols.getD 0 []) b.od) (cols.getD 0 [])).2=0:=h0;have:=ep7 _ _ (ds4 h0).1;exact⟨ho,fun x hx=>⟨this x hx,eu6 (fod x hx) (this x hx)⟩⟩
 ·rw[h]at h0;have h0:(dq9 (dq8 b (cols.getD 0 [])) (cols.getD 0 []++ [b.nm])).2=0:=h0;exact eq1 (ep8 (ds4 h0).1).2
theorem ev7(p:Pl):Fit (do8 p)→bi2 (do8 p)≤1048576→wtP p≤1500→(dr1 p).2=0→alB TxB p:=by
 refine do6 (P:=fun p=>Fit (do8 p)→bi2 (do8 p)≤1048576→wtP p≤1500→(dr1 p).2=0→alB TxB p) (fun b ks ih hf hb hw h=>?_) p;obtain⟨h1,h2,-⟩:=ds0 h;rw[h2]at h;rw[dp1]at hf hb;have hB:=ei5 b (ks.map do8);rw[wtP]at hw;have hod:=ev1 b.od;have hk:∀x∈ks,Fit (do8 x):=(cz2 (hf.aggs (.sl (ks.map do8)) (by simp[do7]))).2;rw[alB];refine⟨ev6 hf hb Oa Oa h,?_⟩
 have key:∀L:List Pl,(∀x∈L,alB TxB x)→dz5 TxB L:=by
  intro L
  induction L with
  |nil=>intro _;exact trivial
  |cons a r ihr=>intro hx;exact⟨hx a Oc,ihr fun x hm=>hx x (by simp[hm])⟩
 refine key ks fun x hx=>ih x hx (hk x hx) ?_ ?_ (h1 x hx)
 ·have:=eg4 (gc4 (f:=do8) hx);omega
 ·have:=ek7 hx;omega
theorem ev8{e:Ex}(h:TxE e):(txE e).length≤400000:=em6 h.x
theorem ev9{a:AT}(h:eu9 a)(i:Nat):(vtT a i).length≤21:=by
 unfold vtT;rw[gd6]
 cases e:a.vs[i]? with
 |none=>exact ev0 Oc
 |some n=>
  have:=h.vi n (fy6 e);exact ev0 (by simp only[ge1];omega)
theorem ew0{a:AT}(h:eu9 a):(tyT a.ty).length≤23068673:=by
 have h1:=em5 20 [124] Oc (a.ty.map bl) (by
  intro x hx;obtain⟨s,hs,rfl⟩:=ga1.1 hx;have:=(h.ty s hs).2;have:=el9 s;omega)
 rw[fz3]at h1;have:=h.tn;unfold tyT
 cases a.ty.length==0<;>simp only[cond_true,cond_false,fy8,fy7,fz2]<;>omega
theorem ew1{a:AT}(h:eu9 a):(atT a).length≤24000000:=by
 have v0:=ev9 h 0;have v1:=ev9 h 1;have v2:=ev9 h 2;have ht:=ew0 h;have hb:=el9 a.nm;unfold atT
 cases c1:a.k==1 with
 |true=>
  have:=h.nm (.inl (by simpa using c1));simp only[cond_true,fy8,fy7,fz2];omega
 |false=>
 cases c2:a.k==2 with
 |true=>
  have:=h.nm (.inr (by simpa using c2));have:=h.v (by simpa using c2);simp only[cond_true,cond_false,fy8,fy7,fz2];omega
 |false=>cases a.k==3<;>simp only[cond_true,cond_false,fy8,fy7,fz2]<;>omega
theorem ew2{l:List ByteArray}(hn:l.length≤24)(h:∀s∈l,s.size≤1048576):(Lib.join (l.map bl) [44,32]).length≤25165872:=by
 have h1:=em5 1048576 [44,32] Oc (l.map bl) (by
  intro x hx;obtain⟨s,hs,rfl⟩:=ga1.1 hx;have:=h s hs;have:=el9 s;omega)
 rw[fz3]at h1;omega
theorem ew3{l:List AT}(hn:l.length≤12)(h:∀a∈l,eu9 a):((l.map fun a=>[32]++atT a).flatten).length≤288000012:=by
 have h1:=em4 24000001 (l.map fun a=>[32]++atT a) (by
  intro x hx;obtain⟨a,ha,rfl⟩:=ga1.1 hx;have:=ew1 (h a ha);simp only[fy8,fy7,fz2];omega)
 rw[fz3]at h1;omega
theorem ew4{l:List IT}(hn:l.length≤24)(h:∀x∈l,TxE x.e∧x.asn.size≤20):(Lib.join (l.map itT) [44,32]).length≤10000000:=by
 have h1:=em5 400024 [44,32] Oc (l.map itT) (by
  intro x hx;obtain⟨p,hp,rfl⟩:=ga1.1 hx;have:=ev8 (h p hp).1;have:=(h p hp).2;have:=el9 p.asn;simp only[itT,fy8,fy7,fz2];omega)
 rw[fz3]at h1;omega
theorem ew5{l:List SK}(hn:l.length≤1500)(h:∀x∈l,TxE x.e):(Lib.join (l.map odT) [44,32]).length≤601000000:=by
 have h1:=em5 400005 [44,32] Oc (l.map odT) (by
  intro x hx;obtain⟨p,hp,rfl⟩:=ga1.1 hx;exact eo9 (h p hp).x)
 rw[fz3]at h1;omega
theorem ew6{L:List (List UInt8)}{n:Nat}(h:(Lib.join L [44,32]).length≤n):(liT L).length≤n+1:=by
 unfold liT
 cases L.isEmpty<;>simp only[cond_true,cond_false,fy8,fy7,fz2]<;>omega
theorem ew7{w:List UInt8}(hw:w.length≤5){n:Int}(h:inR .i64 n):(bdT w n).length≤28:=by
 have:=cg4 h;unfold bdT
 cases decide (n<0)<;>simp only[cond_true,cond_false,fy8,fy7,fz2]<;>omega
theorem ew8{b:PB}(hn:b.od.length≤1500)(h:∀x∈b.od,TxE x.e)(h1:inR .i64 b.sk)(h2:inR .i64 b.lm):(srT b).length≤601000057:=by
 have:=ew6 (ew5 hn h);have:=ew7 (w:=skT) (by simp[skT]) h1;have:=ew7 (w:=lmT) (by simp[lmT]) h2;unfold srT;simp only[fy8];omega
theorem ml_le{c:CJ}(hn:c.vs.length≤24∧c.as.length≤12)(h1:∀s∈c.vs,s.size≤1048576)(h2:∀a∈c.as,eu9 a):(mlT c).length≤400000000:=by
 have:=ew2 hn.1 h1;have:=ew3 hn.2 h2;unfold mlT;simp only[fy8,fy7,fz2];omega
theorem ew9{b:PB}(h:TxB b):(lnT b).length≤68000001000:=by
 unfold lnT
 cases o1:b.op==1 with
 |true=>simp
 |false=>
 cases o2:b.op==2 with
 |true=>
  have ho:b.op=2:=by simpa using o2
  have:=ml_le (h.vn ho) (h.vs ho) (h.ats ho);simp only[cond_true,cond_false];omega
 |false=>
 cases o3:b.op==3 with
 |true=>simp
 |false=>
 cases o4:b.op==4 with
 |true=>simp
 |false=>
 cases o5:b.op==5 with
 |true=>
  have:=ep4 (h.cl (by simpa using o5)).2.1;simp only[cond_true,cond_false,fy8,fy7,fz2];omega
 |false=>
 cases o6:b.op==6 with
 |true=>
  have:=ev8 (h.e (.inl (by simpa using o6)));simp only[cond_true,cond_false,fy8,fy7,fz2];omega
 |false=>
 cases o7:b.op==7 with
 |true=>
  have hi:=h.it (.inl (by simpa using o7));have:=ew6 (ew4 hi.1 hi.2);simp only[cond_true,cond_false,fy8,fy7,fz2];omega
 |false=>
 cases o8:b.op==8 with
 |true=>
  have hi:=h.it (.inr (by simpa using o8));have:=ew6 (ew4 hi.1 hi.2);simp only[cond_true,cond_false,fy8,fy7,fz2];omega
 |false=>
 cases o9:b.op==9 with
 |true=>simp
 |false=>
 cases o10:b.op==10 with
 |true=>
  have ho:b.op=10:=by simpa using o10
  have:=ew8 (h.od ho).1 (h.od ho).2 (h.sl ho).1.2 (h.sl ho).2.2;simp only[cond_true,cond_false,fy8,fy7,fz2];omega
 |false=>
  have ho:b.op=11:=by
   have:=h.op;simp at o1 o2 o3 o4 o5 o6 o7 o8 o9 o10;omega
  have:=ev8 (h.e (.inr ho));have:=h.nm ho;have:=el9 b.nm;simp only[cond_false,fy8,fy7,fz2];omega
theorem ex0(p:Pl):∀d:Nat,d+dpP p≤2000→alB TxB p→(plT d p).length≤70000000000*szP p:=by
 refine do6 (P:=fun p=>∀d:Nat,d+dpP p≤2000→alB TxB p→(plT d p).length≤70000000000*szP p) (fun b ks ih d hd h=>?_) p;rw[alB]at h;rw[dpP]at hd;have h1:=ew9 h.1
 have key:∀L:List Pl,(∀x∈L,x∈ks)→(∀x∈L,alB TxB x)→(ep5 d L).length≤70000000000*dr4 L:=by
  intro L
  induction L with
  |nil=>intro _ _;exact ga8 _
  |cons a r ihr=>
   intro hm hx;have:=dr7 (hm a Oc);have g1:=ih a (hm a Oc) (d+1) Oa (hx a Oc);have g2:=ihr (fun x h=>hm x (by simp[h])) fun x h=>hx x (by simp[h])
   rw[ep5,dr4,fy8];omega
 have g:=key ks (fun x h=>h) (dz6 h.2);rw[plT,szP];simp only[fy8,fy7,fz2,List.length_replicate];omega
attribute [local irreducible] Ev EvO EvS aw1 an9 PGo RGo RGw SGo go
theorem ex1{e:Ex}(h:TxE e):Ev E 154 [bz1 e] (.tup [.str (bs (txE e)),.int 0]):=by
 obtain⟨d1,d2,-⟩:=dh0 h.c;have h1:=ct6 e Oa Oa;have h2:=es2 h.x;rw[h.c]at h1;generalize bs (txE e)=T at*;clear h d1 d2;refine ye1 func154 ntmps154 fun _ _ _=>?_
 repeat'(first|refine yz ?_|refine yp b61 h1 ?_|refine yp bs8 h2 ?_|exact zL)
theorem ex2{e:Ex}(h:TxE e):Ev E 87 [bz1 e] (.d (.str (bs (txE e)))):=by
 have h1:=ex1 h;generalize bs (txE e)=T at*;clear h;refine ye1 func87 ntmps87 fun _ _ _=>?_
 repeat'(first|refine yz ?_|refine yp b154 h1 ?_|exact zD)
theorem ex3(x:IT):bs (itT x)=bs (txE x.e)++⟨#[32,65,83,32]⟩++x.asn:=by
 apply er9;simp[bs,bl,itT]
theorem ex4{x:IT}(h:TxE x.e)(hs:x.asn.size≤20):Ev E 156 [cu1 x] (.d (.str (bs (itT x)))):=by
 have h1:=ex2 h;have zt:(bs (txE x.e)).size≤400000:=by rw[cf7];exact ev8 h
 have y:(⟨#[32,65,83,32]⟩:ByteArray).size=4:=rfl;rw[ex3];generalize bs (txE x.e)=T at*;obtain⟨xe,asn⟩:=x;dsimp only at*;clear h;refine ye1 func156 ntmps156 fun _ _ _=>?_
 repeat'(first|refine yz ?_|refine bl5 rfl rfl rfl rfl rfl rfl rfl ?_|refine yp b87 h1 ?_|exact zD)
theorem ex5{x:SK}(h:TxE x.e):Ev E 158 [cu2 x] (.d (.str (bs (odT x)))):=by
 have h1:=ex2 h;have zt:(bs (txE x.e)).size≤400000:=by rw[cf7];exact ev8 h
 have y:(⟨#[32,68,69,83,67]⟩:ByteArray).size=5:=rfl
 have e:bs (odT x)=bif x.dc then bs (txE x.e)++⟨#[32,68,69,83,67]⟩else bs (txE x.e):=by
  unfold odT
  cases x.dc with
  |true=>apply er9;simp[bs]
  |false=>rfl
 rw[e];generalize bs (txE x.e)=T at*;obtain⟨xe,dc⟩:=x;dsimp only at*;clear h e
 cases dc with
 |true=>
  refine ye1 func158 ntmps158 fun _ _ _=>?_
  repeat'(first|refine yz ?_|refine bl5 rfl rfl rfl rfl rfl rfl rfl ?_|refine yp b87 h1 ?_|exact zD)
 |false=>
  refine ye1 func158 ntmps158 fun _ _ _=>?_
  repeat'(first|refine yz ?_|refine bl5 rfl rfl rfl rfl rfl rfl rfl ?_|refine yp b87 h1 ?_|exact zD)
theorem ex6{a:List UInt8}{L:List (List UInt8)}:bs (liT (a::L))=⟨#[32]⟩++bs (Lib.join (a::L) [44,32]):=by
 apply er9;simp[liT,bs]
set_option maxHeartbeats 1000000 in
theorem ex7(fn:FuncId)(hb:an9 E fn)(f:IT→List UInt8)(l:List IT)(hf:∀x∈l,Ev E fn [cu1 x] (.d (.str (bs (f x)))))(hn:l.length≤100000)(hlen:(Lib.join (l.map f) [44,32]).length≤1000000000000):
  Ev E 155 [.sl (l.map cu1),.imm (.func (.func fn) #[] #[])] (.d (.str (bs (liT (l.map f))))):=by
 have hle:(l.map cu1).length=l.length:=Oc
 have hj:=es1 (l.map f) [44,32] (by rw[fz3];omega) Oa;have zj:(bs (Lib.join (l.map f) [44,32])).size≤1000000000000:=by rw[cf7];exact hlen
 have y1:(⟨#[32]⟩:ByteArray).size=1:=rfl;refine ye2 func155 ntmps155 fun _ _ _=>?_
 repeat'(refine yz ?_)
 refine ac8 (α:=SDx l) (fun p=>⟨[(5,bh5 0 (ch2 ((l.take p.i).map f))),(1,.d (.imm (.func (.func fn) #[] #[]))),(8,.d (.sl (l.map cu1))),(9,.d (.int (l.map cu1).length)),(10,.d (.int p.i))],ay0 9 1 (ch2 ((l.take p.i).map f))⟩) (fun p=>l.length-p.i) ⟨0,by omega⟩ (zle 0) ?_;rintro⟨i,hi⟩;dsimp only;have hol:(ch2 ((l.take i).map f)).length≤1000000:=by simp[ch2];omega
 rcases fy5 i l.length with hlt|hge
 ·have g1:decide ((i:Int)<((l.map cu1).length:Int))=true:=by rw[hle];simpa using hlt
  have hx0:=fy4 hlt;generalize l[i]=x at hx0;have hx:=cz1 (f:=cu1) hx0;have ht:=hf x (fy6 hx0);have hnx:=es0 (f:=f) hx0;generalize ch2 ((l.take i).map f)=o at*
  match o,hol with
  |[],hol=>
   dsimp only[bh5,ay0]
   repeat'(first|refine yz ?_|refine yi (cu1 x) hx ?_|refine yp hb ht ?_|(refine qS rfl ⟨by simp,fun d hd=>by(obtain rfl:=ga4.1 hd;rfl),by(show(0+1)*16≤140737488355328;omega),by(show 0+1≤9223372036854775807;omega)⟩ ?_))
   refine ac2 ?_;refine⟨⟨i+1,by omega⟩,by dsimp only;omega,?_⟩;dsimp only;rw[hnx];exact(bi7 [1])
  |a::q,hol=>
   dsimp only[bh5,ay0]
   repeat'(first|refine yz ?_|refine yi (cu1 x) hx ?_|refine yp hb ht ?_|(refine qS rfl ⟨by simp,fun d hd=>by(obtain rfl:=ga4.1 hd;rfl),by(show((a::q).length+1)*16≤140737488355328;omega),by(show(a::q).length+1≤9223372036854775807;omega)⟩ ?_))
   refine ac2 ?_;refine⟨⟨i+1,by omega⟩,by dsimp only;omega,?_⟩;dsimp only;rw[hnx];exact(bi7 [2])
 ·have g1:decide ((i:Int)<((l.map cu1).length:Int))=false:=by rw[hle];simp;omega
  rw[ga3 hge];clear hol hi hge hf hn hlen hle;generalize l.map f=L at*
  match L,hj,zj with
  |[],hj,zj=>
   dsimp only[ch2,gd8,bh5,ay0]
   exact Om
  |a::q,hj,zj=>
   rw[ex6];have g2:(((ch2 (a::q)).length:Int)==0)=false:=by simp[ch2];omega
   have e0:ch2 (a::q)=.str (bs a)::ch2 q:=rfl;rw[e0]at hj g2 ⊢;generalize bs (Lib.join (a::q) [44,32])=J at*;dsimp only[bh5,ay0];refine qA ?_;refine av3 0 rfl ?_
   repeat'(first|refine yz ?_|refine yp b84 hj ?_|exact zD)
set_option maxHeartbeats 1000000 in
theorem ex8(fn:FuncId)(hb:an9 E fn)(f:SK→List UInt8)(l:List SK)(hf:∀x∈l,Ev E fn [cu2 x] (.d (.str (bs (f x)))))(hn:l.length≤100000)(hlen:(Lib.join (l.map f) [44,32]).length≤1000000000000):
  Ev E 157 [.sl (l.map cu2),.imm (.func (.func fn) #[] #[])] (.d (.str (bs (liT (l.map f))))):=by
 have hle:(l.map cu2).length=l.length:=Oc
 have hj:=es1 (l.map f) [44,32] (by rw[fz3];omega) Oa;have zj:(bs (Lib.join (l.map f) [44,32])).size≤1000000000000:=by rw[cf7];exact hlen
 have y1:(⟨#[32]⟩:ByteArray).size=1:=rfl;refine ye2 func157 ntmps157 fun _ _ _=>?_
 repeat'(refine yz ?_)
 refine ac8 (α:=SDx l) (fun p=>⟨[(5,bh5 0 (ch2 ((l.take p.i).map f))),(1,.d (.imm (.func (.func fn) #[] #[]))),(8,.d (.sl (l.map cu2))),(9,.d (.int (l.map cu2).length)),(10,.d (.int p.i))],ay0 9 1 (ch2 ((l.take p.i).map f))⟩) (fun p=>l.length-p.i) ⟨0,by omega⟩ (zle 0) ?_;rintro⟨i,hi⟩;dsimp only;have hol:(ch2 ((l.take i).map f)).length≤1000000:=by simp[ch2];omega
 rcases fy5 i l.length with hlt|hge
 ·have g1:decide ((i:Int)<((l.map cu2).length:Int))=true:=by rw[hle];simpa using hlt
  have hx0:=fy4 hlt;generalize l[i]=x at hx0;have hx:=cz1 (f:=cu2) hx0;have ht:=hf x (fy6 hx0);have hnx:=es0 (f:=f) hx0;generalize ch2 ((l.take i).map f)=o at*
  match o,hol with
  |[],hol=>
   dsimp only[bh5,ay0]
   repeat'(first|refine yz ?_|refine yi (cu2 x) hx ?_|refine yp hb ht ?_|(refine qS rfl ⟨by simp,fun d hd=>by(obtain rfl:=ga4.1 hd;rfl),by(show(0+1)*16≤140737488355328;omega),by(show 0+1≤9223372036854775807;omega)⟩ ?_))
   refine ac2 ?_;refine⟨⟨i+1,by omega⟩,by dsimp only;omega,?_⟩;dsimp only;rw[hnx];exact(bi7 [1])
  |a::q,hol=>
   dsimp only[bh5,ay0]
   repeat'(first|refine yz ?_|refine yi (cu2 x) hx ?_|refine yp hb ht ?_|(refine qS rfl ⟨by simp,fun d hd=>by(obtain rfl:=ga4.1 hd;rfl),by(show((a::q).length+1)*16≤140737488355328;omega),by(show(a::q).length+1≤9223372036854775807;omega)⟩ ?_))
   refine ac2 ?_;refine⟨⟨i+1,by omega⟩,by dsimp only;omega,?_⟩;dsimp only;rw[hnx];exact(bi7 [2])
 ·have g1:decide ((i:Int)<((l.map cu2).length:Int))=false:=by rw[hle];simp;omega
  rw[ga3 hge];clear hol hi hge hf hn hlen hle;generalize l.map f=L at*
  match L,hj,zj with
  |[],hj,zj=>
   dsimp only[ch2,gd8,bh5,ay0]
   exact Om
  |a::q,hj,zj=>
   rw[ex6];have g2:(((ch2 (a::q)).length:Int)==0)=false:=by simp[ch2];omega
   have e0:ch2 (a::q)=.str (bs a)::ch2 q:=rfl;rw[e0]at hj g2 ⊢;generalize bs (Lib.join (a::q) [44,32])=J at*;dsimp only[bh5,ay0];refine qA ?_;refine av3 0 rfl ?_
   repeat'(first|refine yz ?_|refine yp b84 hj ?_|exact zD)
theorem ex9(l:List IT)(hn:l.length≤24)(h:∀x∈l,TxE x.e∧x.asn.size≤20):Ev E 88 [.sl (l.map cu1)] (.d (.str (bs (liT (l.map itT))))):=by
 have h1:=ex7 156 b156 itT l (fun x hx=>ex4 (h x hx).1 (h x hx).2) Oa (by have:=ew4 hn h;omega);generalize bs (liT (l.map itT))=T at*;clear h hn;refine ye1 func88 ntmps88 fun _ _ _=>?_
 repeat'(first|refine yz ?_|refine yp b155 h1 ?_|exact zD)
theorem ey0(w:ByteArray)(n:Int):bs (bdT (bl w) n)=bif decide (n<0)then⟨#[]⟩else⟨#[32]⟩++w++⟨#[32]⟩++bs (Lib.itoa n):=by
 unfold bdT
 cases decide (n<0)with
 |true=>rfl
 |false=>apply er9;simp[bs,bl]
theorem ey1(w:ByteArray)(hw:w.size≤5)(n:Int)(hn:inR .i64 n):Ev E 159 [.str w,.int n] (.d (.str (bs (bdT (bl w) n)))):=by
 have h1:=et1 n;have zt:(bs (Lib.itoa n)).size≤21:=by rw[cf7];exact cg4 hn
 have y:(⟨#[32]⟩:ByteArray).size=1:=rfl;rw[ey0];generalize bs (Lib.itoa n)=T at*
 cases g:decide (n<0)with
 |true=>
  refine ye2 func159 ntmps159 fun _ _ _=>?_
  exact Om
 |false=>
  refine ye2 func159 ntmps159 fun _ _ _=>?_
  repeat'(first|refine yz ?_|refine yp br7 h1 ?_|exact zD)
theorem ey2(b:PB):bs (srT b)=bs (liT (b.od.map odT))++bs (bdT (bl ⟨#[83,75,73,80]⟩) b.sk)++bs (bdT (bl ⟨#[76,73,77,73,84]⟩) b.lm):=by
 apply er9;simp[bs,srT,bl,skT,lmT]
theorem ey3(b:PB)(K:List D)(hn:b.od.length≤1500)(h:∀x∈b.od,TxE x.e)(hs:inR .i64 b.sk)(hl:inR .i64 b.lm):Ev E 89 [do7 b K] (.d (.str (bs (srT b)))):=by
 have h1:=ex8 158 b158 odT b.od (fun x hx=>ex5 (h x hx)) Oa (by have:=ew5 hn h;omega);have h2:=ey1 ⟨#[83,75,73,80]⟩ Od b.sk hs;have h3:=ey1 ⟨#[76,73,77,73,84]⟩ Od b.lm hl;have z1:(bs (liT (b.od.map odT))).size≤601000001:=by rw[cf7];exact ew6 (ew5 hn h)
 have z2:(bs (bdT (bl ⟨#[83,75,73,80]⟩) b.sk)).size≤28:=by rw[cf7];exact ew7 Od hs
 have z3:(bs (bdT (bl ⟨#[76,73,77,73,84]⟩) b.lm)).size≤28:=by rw[cf7];exact ew7 Od hl
 rw[ey2];generalize bs (liT (b.od.map odT))=T1 at*;generalize bs (bdT (bl ⟨#[83,75,73,80]⟩) b.sk)=T2 at*;generalize bs (bdT (bl ⟨#[76,73,77,73,84]⟩) b.lm)=T3 at*;clear h hs hl;obtain⟨op,cj,cl,e,nm,it,od,sk,lm⟩:=b;dsimp only at*;refine ye1 func89 ntmps89 fun _ _ _=>?_
 repeat'(first|refine yz ?_|refine yp b157 h1 ?_|refine yp b159 h2 ?_|refine yp b159 h3 ?_|exact zD)
theorem ey4(a:AT)(i:Nat)(hi:i<a.vs.length):EvS E 150 [.d (.int i),.ptr 0 0] [oAT a] (.d (.str (bs (vtT a i)))) [oAT a]:=by
 have hx0:=fy4 hi;have e:vtT a i=Lib.itoa a.vs[i]:=by unfold vtT;rw[gd6,hx0];rfl
 rw[e];generalize a.vs[i]=n at*;have h1:=et1 n;generalize bs (Lib.itoa n)=T at*;obtain⟨k,vs,nm,ty,v⟩:=a;dsimp only at*;have hx:(vs.map D.int)[((i:Nat):Int).toNat]? =some (.int n):=cz1 (f:=D.int) hx0;refine yn func150 ntmps150 fun _ _ _ _=>?_
 repeat'(first|refine yz ?_|refine yi (.int n) hx ?_|refine yp br7 h1 ?_|refine bc6 [0] rfl rfl rfl rfl rfl ?_)
 all_goals rfl
theorem ey5(l:List ByteArray)(sep:ByteArray)(hN:l.length≤2000000)(hlen:(Lib.join (l.map bl) (bl sep)).length≤1000000000000):Ev E 84 [.sl (l.map .str),.str sep] (.d (.str (bs (Lib.join (l.map bl) (bl sep))))):=
 ch1 l sep Oa (by show(Lib.join (l.map bl) (bl sep)).length≤_;omega)
theorem ey6{a:AT}(h:eu9 a):(Lib.join (a.ty.map bl) [124]).isEmpty=a.ty.isEmpty:=by
 have:=h.ty
 cases e:a.ty with
 |nil=>rfl
 |cons s r=>
  rw[e]at this;have hs:=(this s Oc).1;rw[fz7,Lib.join_cons];have hb:=el9 s
  cases e2:bl s with
  |nil=>rw[e2]at hb;simp at hb;omega
  |cons x y=>rfl
theorem ey7{a:AT}(h:eu9 a):bs (tyT a.ty)=bif a.ty.isEmpty then⟨#[]⟩else⟨#[58]⟩++bs (Lib.join (a.ty.map bl) [124]):=by
 unfold tyT
 cases e:a.ty with
 |nil=>rfl
 |cons s r=>apply er9;simp[bs]
set_option maxHeartbeats 4000000 in
theorem ey8(a:AT)(h:eu9 a):Ev E 85 [cj6 a] (.d (.str (bs (atT a)))):=by
 have v0:=ev9 h 0;have v1:=ev9 h 1;have v2:=ev9 h 2;rw[←cf7]at v0 v1 v2;have hn:=h.n;have y1:(⟨#[91]⟩:ByteArray).size=1:=rfl;have y2:(⟨#[93,58]⟩:ByteArray).size=2:=rfl;have y3:(⟨#[93,46]⟩:ByteArray).size=2:=rfl;have y4:(⟨#[61]⟩:ByteArray).size=1:=rfl;have y5:(⟨#[93,45,91]⟩:ByteArray).size=3:=rfl;have y6:(⟨#[93,45,62,91]⟩:ByteArray).size=4:=rfl;have y7:(⟨#[93]⟩:ByteArray).size=1:=rfl;have y8:(⟨#[58]⟩:ByteArray).size=1:=rfl;rcases h.k with hk|hk|hk|hk
 ·have c0:=ey4 a 0 (by rw[hn,hk];decide)
  have e:bs (atT a)=⟨#[91]⟩++bs (vtT a 0)++⟨#[93,58]⟩++a.nm:=by
   unfold atT;rw[hk];apply er9;simp[bs,bl]
  have hs:=h.nm (.inl hk);rw[e];generalize bs (vtT a 0)=T0 at*;clear h e;obtain⟨k,vs,nm,ty,v⟩:=a;dsimp only at*;subst hk;refine ye1 func85 ntmps85 fun _ _ _=>?_
  repeat'(first|refine qCP (id:=4) Ob ?_|refine pgF (id:=4) (i:=0) 1 rfl rfl ?_|refine pgF (id:=4) (i:=2) 6 rfl rfl ?_|refine pgN ?_|refine yz ?_|refine bb9 rfl rfl rfl rfl rfl ?_|refine pgS (id:=4) (i:=1) [0] rfl rfl rfl rfl (FnX.clo _ _) br6 (c0) rfl rfl rfl rfl rfl ?_|exact zD)
 ·have c0:=ey4 a 0 (by rw[hn,hk];decide);have zt:=h.v hk;have ht:=ch5 a.v Oa;rw[←cf7]at zt
  have e:bs (atT a)=⟨#[91]⟩++bs (vtT a 0)++⟨#[93,46]⟩++a.nm++⟨#[61]⟩++bs (txt a.v):=by
   unfold atT;rw[hk];apply er9;simp[bs,bl]
  have hs:=h.nm (.inr hk);rw[e];generalize bs (vtT a 0)=T0 at*;generalize bs (txt a.v)=T at*;clear h e;obtain⟨k,vs,nm,ty,v⟩:=a;dsimp only at*;subst hk;refine ye1 func85 ntmps85 fun _ _ _=>?_
  repeat'(first|refine qCP (id:=6) Ob ?_|refine pgF (id:=6) (i:=0) 1 rfl rfl ?_|refine pgF (id:=6) (i:=2) 11 rfl rfl ?_|refine pgN ?_|refine yz ?_|refine bb9 rfl rfl rfl rfl rfl ?_|refine pgS (id:=6) (i:=1) [0] rfl rfl rfl rfl (FnX.clo _ _) br6 (c0) rfl rfl rfl rfl rfl ?_|refine yp b152 ht ?_|exact zD)
 ·have c0:=ey4 a 0 (by rw[hn,hk];decide);have c1:=ey4 a 1 (by rw[hn,hk];decide);have c2:=ey4 a 2 (by rw[hn,hk];decide);have hty:=ew0 h
  have htj:(Lib.join (a.ty.map bl) [124]).length≤23068673:=by
   have h1:=em5 20 [124] Oc (a.ty.map bl) (by
    intro x hx;obtain⟨s,hs,rfl⟩:=ga1.1 hx;have:=(h.ty s hs).2;have:=el9 s;omega)
   rw[fz3]at h1;have:=h.tn;omega
  have hj:=ey5 a.ty ⟨#[124]⟩ (by have:=h.tn;omega) (by show(Lib.join (a.ty.map bl) [124]).length≤_;omega)
  have e:bs (atT a)=⟨#[91]⟩++bs (vtT a 0)++⟨#[93,45,91]⟩++bs (vtT a 1)++bs (tyT a.ty)++⟨#[93,45,62,91]⟩++bs (vtT a 2)++⟨#[93]⟩:=by
   unfold atT;rw[hk];apply er9;simp[bs]
  have em:=ey6 h;have g0:((bs (Lib.join (a.ty.map bl) [124])).toList==(⟨#[]⟩:ByteArray).toList)=a.ty.isEmpty:=by rw[em1];exact em
  rw[e,ey7 h];rw[←cf7]at htj;have hj:Ev E 84 [.sl (a.ty.map .str),.str ⟨#[124]⟩] (.d (.str (bs (Lib.join (a.ty.map bl) [124])))):=hj;generalize bs (Lib.join (a.ty.map bl) [124])=J at*;generalize bs (vtT a 0)=T0 at*;generalize bs (vtT a 1)=T1 at*;generalize bs (vtT a 2)=T2 at*;generalize a.ty.isEmpty=b0 at*;clear h e em hty;have g1:(!(J.toList==(⟨#[]⟩:ByteArray).toList))= !b0:=by rw[g0]
  obtain⟨k,vs,nm,ty,v⟩:=a;dsimp only at*;subst hk
  cases b0 with
  |true=>
   have e0:J=⟨#[]⟩:=dc2 (by simpa using g0);subst e0;refine ye1 func85 ntmps85 fun _ _ _=>?_
   repeat'(first|refine yz ?_|refine bb9 rfl rfl rfl rfl rfl ?_|refine yp b84 hj ?_|refine bc1 [0] rfl rfl rfl rfl (FnX.clo _ _) br6 (c0) rfl rfl rfl rfl rfl ?_|refine bc1 [0] rfl rfl rfl rfl (FnX.clo _ _) br6 (c1) rfl rfl rfl rfl rfl ?_|refine bc1 [0] rfl rfl rfl rfl (FnX.clo _ _) br6 (c2) rfl rfl rfl rfl rfl ?_|exact zD)
  |false=>
   refine ye1 func85 ntmps85 fun _ _ _=>?_
   repeat'(first|refine yz ?_|refine bb9 rfl rfl rfl rfl rfl ?_|refine yp b84 hj ?_|refine bc1 [0] rfl rfl rfl rfl (FnX.clo _ _) br6 (c0) rfl rfl rfl rfl rfl ?_|refine bc1 [0] rfl rfl rfl rfl (FnX.clo _ _) br6 (c1) rfl rfl rfl rfl rfl ?_|refine bc1 [0] rfl rfl rfl rfl (FnX.clo _ _) br6 (c2) rfl rfl rfl rfl rfl ?_|exact zD)
 ·have c0:=ey4 a 0 (by rw[hn,hk];decide)
  have e:bs (atT a)=⟨#[91]⟩++bs (vtT a 0)++⟨#[93]⟩:=by
   unfold atT;rw[hk];apply er9;simp[bs]
  rw[e];generalize bs (vtT a 0)=T0 at*;clear h e;obtain⟨k,vs,nm,ty,v⟩:=a;dsimp only at*;subst hk;refine ye1 func85 ntmps85 fun _ _ _=>?_
  repeat'(first|refine yz ?_|refine bb9 rfl rfl rfl rfl rfl ?_|refine bc1 [0] rfl rfl rfl rfl (FnX.clo _ _) br6 (c0) rfl rfl rfl rfl rfl ?_|exact zD)
theorem ey9{c:CL}(hok:OkC c)(h0:cw7 c=0)(ht:TxC c)(hk:c.k=1):Ev E 86 [cu4 c] (.tup [.str (bs (clT c)),.int 0]):=by
 have h1:=ef2 c hok;have h2:=eu1 c ht (by rw[hk];rfl);rw[h0]at h1;generalize bs (clT c)=T at*;clear ht h0 hok hk;obtain⟨k,opt,ds,ps,wh,e,nm,it,od,sk,lm,st,ns⟩:=c;refine ye1 func86 ntmps86 fun _ _ _=>?_
 repeat'(first|refine yz ?_|refine yp b64 h1 ?_|refine yp b153 h2 ?_|exact zL)
def ez0(l:List AT):List UInt8:=(l.map fun a=>[32]++atT a).flatten
theorem ez1{l:List AT}{i:Nat}{x:AT}(h:l[i]? =some x):ez0 (l.take (i+1))=ez0 (l.take i)++([32]++atT x):=by
 unfold ez0;rw[gd7,h];simp
theorem ez2(l:List AT)(i:Nat):(ez0 (l.take i)).length≤(ez0 l).length:=by
 have:ez0 l=ez0 (l.take i)++ez0 (l.drop i):=by
  unfold ez0;rw[←List.flatten_append,←gg7,gf7]
 rw[this,fy8];omega
theorem ez3(c:CJ):bs (mlT c)=⟨#[109,117,108,116,105,32,40]⟩++bs (Lib.join (c.vs.map bl) [44,32])++⟨#[41]⟩++bs (ez0 c.as):=by
 apply er9;simp[bs,mlT,ez0]
set_option maxHeartbeats 4000000 in
theorem ez4(b:PB)(K:List D)(ho:b.op=2)(h:TxB b):Ev E 48 [do7 b K] (.d (.str (bs (mlT b.cj)))):=by
 have hvn:=h.vn ho;have hvs:=h.vs ho;have has:=h.ats ho;have zj:=ew2 hvn.1 hvs;have za:=ew3 hvn.2 has;have za:(ez0 b.cj.as).length≤288000012:=za;have hj:=ey5 b.cj.vs ⟨#[44,32]⟩ Oa (by show(Lib.join (b.cj.vs.map bl) [44,32]).length≤_;omega);have hj:Ev E 84 [.sl (b.cj.vs.map .str),.str ⟨#[44,32]⟩] (.d (.str (bs (Lib.join (b.cj.vs.map bl) [44,32])))):=hj;rw[←cf7]at zj;rw[ez3];generalize bs (Lib.join (b.cj.vs.map bl) [44,32])=J at*;have h12:=hvn.2;clear h hvs hvn;obtain⟨op,⟨vs,ats⟩,cl,e,nm,it,od,sk,lm⟩:=b;dsimp only at*;subst ho;have y1:(⟨#[109,117,108,116,105,32,40]⟩:ByteArray).size=7:=rfl;have y2:(⟨#[41]⟩:ByteArray).size=1:=rfl;have y3:(⟨#[32]⟩:ByteArray).size=1:=rfl;have hle:(ats.map cj6).length=ats.length:=Oc
 refine ye1 func48 ntmps48 fun _ _ _=>?_
 repeat'(first|refine yz ?_|refine yp b84 hj ?_)
 obtain⟨P,hP⟩:∃P,P=(⟨#[109,117,108,116,105,32,40]⟩:ByteArray)++J++⟨#[41]⟩:=⟨_,rfl⟩;have zP:P.size≤25165880:=by rw[hP,ByteArray.size_append,ByteArray.size_append];omega
 rw[←hP];have p0:P=P++bs (ez0 (ats.take 0)):=by apply er9;simp[bs,ez0]
 refine ac8 (α:=SDx ats) (fun p=>⟨[(3,.d (.str (P++bs (ez0 (ats.take p.i))))),(1,.ptr 0 0),(22,.d (.sl (ats.map cj6))),(23,.d (.int (ats.map cj6).length)),(24,.d (.int p.i))],[oPlB ⟨2,⟨vs,ats⟩,cl,e,nm,it,od,sk,lm⟩ K]⟩) (fun p=>ats.length-p.i) ⟨0,by omega⟩ (by dsimp only;rw[←p0];exact(zle 1)) ?_;rintro⟨i,hi⟩;dsimp only;clear p0;have hpt:=ez2 ats i;rcases fy5 i ats.length with hlt|hge
 ·have g1:decide ((i:Int)<((ats.map cj6).length:Int))=true:=by rw[hle];simpa using hlt
  have hx0:=fy4 hlt;generalize ats[i]=x at hx0;have hx:=cz1 (f:=cj6) hx0;have hm:=fy6 hx0;have ht:=ey8 x (has x hm);have zt:(bs (atT x)).size≤24000000:=by rw[cf7];exact ew1 (has x hm)
  have zs:(bs (ez0 (ats.take i))).size≤288000012:=by rw[cf7];omega
  have en:P++bs (ez0 (ats.take (i+1)))=P++bs (ez0 (ats.take i))++(⟨#[32]⟩++bs (atT x)):=by
   rw[ez1 hx0];apply er9;simp[bs]
  repeat'(first|refine yz ?_|refine yi (cj6 x) hx ?_|refine yp b85 ht ?_)
  refine ac2 ?_;refine⟨⟨i+1,by omega⟩,by dsimp only;omega,?_⟩;dsimp only;rw[en];exact(zle 1)
 ·have g1:decide ((i:Int)<((ats.map cj6).length:Int))=false:=by rw[hle];simp;omega
  rw[ga3 hge]
  exact Om
theorem ez5(b:PB)(h:b.op=7):bs (lnT b)=⟨#[112,114,111,106,101,99,116]⟩++bs (liT (b.it.map itT)):=by
 unfold lnT;rw[h];apply er9;simp[bs]
theorem ez6(b:PB)(h:b.op=8):bs (lnT b)=⟨#[103,114,111,117,112]⟩++bs (liT (b.it.map itT)):=by
 unfold lnT;rw[h];apply er9;simp[bs]
theorem ez7(b:PB)(h:b.op=5):bs (lnT b)=⟨#[97,112,112,108,121,32]⟩++bs (clT b.cl):=by
 unfold lnT;rw[h];apply er9;simp[bs]
theorem ez8(b:PB)(h:b.op=6):bs (lnT b)=⟨#[102,105,108,116,101,114,32]⟩++bs (txE b.e):=by
 unfold lnT;rw[h];apply er9;simp[bs]
theorem ez9(b:PB)(h:b.op=10):bs (lnT b)=⟨#[115,111,114,116]⟩++bs (srT b):=by
 unfold lnT;rw[h];apply er9;simp[bs]
theorem fa0(b:PB)(h:b.op=11):bs (lnT b)=⟨#[117,110,119,105,110,100,32]⟩++bs (txE b.e)++⟨#[32,65,83,32]⟩++b.nm:=by
 unfold lnT;rw[h];apply er9;simp[bs,bl]
theorem lnT_2(b:PB)(h:b.op=2):lnT b=mlT b.cj:=by unfold lnT;rw[h];rfl
theorem fa1(b:PB):(b.op=1→bs (lnT b)=⟨#[117,110,105,116]⟩)∧(b.op=3→bs (lnT b)=⟨#[106,111,105,110]⟩)∧(b.op=4→bs (lnT b)=⟨#[108,101,102,116]⟩)∧(b.op=9→bs (lnT b)=⟨#[117,110,105,113,117,101]⟩):=by
 refine⟨fun h=>?_,fun h=>?_,fun h=>?_,fun h=>?_⟩<;>(unfold lnT;rw[h];rfl)
theorem op_11{n:Int}(h:1≤n∧n≤11):n=1∨n=2∨n=3∨n=4∨n=5∨n=6∨n=7∨n=8∨n=9∨n=10∨n=11:=Oa
set_option maxHeartbeats 4000000 in
theorem fa2(b:PB)(K:List D)(h:TxB b)(hok:OkC b.cl):Ev E 48 [do7 b K] (.d (.str (bs (lnT b)))):=by
 rcases op_11 h.op with ho|ho|ho|ho|ho|ho|ho|ho|ho|ho|ho
 ·rw[(fa1 b).1 ho];obtain⟨op,⟨vs,ats⟩,cl,e,nm,it,od,sk,lm⟩:=b;dsimp only at ho;clear h hok;subst ho;refine ye1 func48 ntmps48 fun _ _ _=>?_
  exact Om
 ·rw[lnT_2 b ho];exact ez4 b K ho h
 ·rw[(fa1 b).2.1 ho];obtain⟨op,⟨vs,ats⟩,cl,e,nm,it,od,sk,lm⟩:=b;dsimp only at ho;clear h hok;subst ho;refine ye1 func48 ntmps48 fun _ _ _=>?_
  exact Om
 ·rw[(fa1 b).2.2.1 ho];obtain⟨op,⟨vs,ats⟩,cl,e,nm,it,od,sk,lm⟩:=b;dsimp only at ho;clear h hok;subst ho;refine ye1 func48 ntmps48 fun _ _ _=>?_
  exact Om
 ·have hc:=h.cl ho;have h1:=ey9 hok hc.1 hc.2.1 hc.2.2;have zt:(bs (clT b.cl)).size≤68000000000:=by rw[cf7];exact ep4 hc.2.1
  have y:(⟨#[97,112,112,108,121,32]⟩:ByteArray).size=6:=rfl;rw[ez7 b ho];generalize bs (clT b.cl)=T at*;clear h hok hc;obtain⟨op,⟨vs,ats⟩,⟨ck,copt,cds,cps,cwh,ce,cnm,cit,cod,csk,clm,cst,cns⟩,e,nm,it,od,sk,lm⟩:=b;dsimp only at*;subst ho;refine ye1 func48 ntmps48 fun _ _ _=>?_
  repeat'(first|refine yz ?_|refine yp b86 h1 ?_|exact zD)
 ·have h1:=ex2 (h.e (.inl ho));have zt:(bs (txE b.e)).size≤400000:=by rw[cf7];exact ev8 (h.e (.inl ho))
  have y:(⟨#[102,105,108,116,101,114,32]⟩:ByteArray).size=7:=rfl;rw[ez8 b ho];generalize bs (txE b.e)=T at*;clear h hok;obtain⟨op,⟨vs,ats⟩,cl,e,nm,it,od,sk,lm⟩:=b;dsimp only at*;subst ho;refine ye1 func48 ntmps48 fun _ _ _=>?_
  repeat'(first|refine yz ?_|refine yp b87 h1 ?_|exact zD)
 ·have hi:=h.it (.inl ho);have h1:=ex9 b.it hi.1 hi.2;have zt:(bs (liT (b.it.map itT))).size≤10000001:=by rw[cf7];exact ew6 (ew4 hi.1 hi.2)
  have y:(⟨#[112,114,111,106,101,99,116]⟩:ByteArray).size=7:=rfl;rw[ez5 b ho];generalize bs (liT (b.it.map itT))=T at*;clear h hok hi;obtain⟨op,⟨vs,ats⟩,cl,e,nm,it,od,sk,lm⟩:=b;dsimp only at*;subst ho;refine ye1 func48 ntmps48 fun _ _ _=>?_
  repeat'(first|refine yz ?_|refine yp b88 h1 ?_|exact zD)
 ·have hi:=h.it (.inr ho);have h1:=ex9 b.it hi.1 hi.2;have zt:(bs (liT (b.it.map itT))).size≤10000001:=by rw[cf7];exact ew6 (ew4 hi.1 hi.2)
  have y:(⟨#[103,114,111,117,112]⟩:ByteArray).size=5:=rfl;rw[ez6 b ho];generalize bs (liT (b.it.map itT))=T at*;clear h hok hi;obtain⟨op,⟨vs,ats⟩,cl,e,nm,it,od,sk,lm⟩:=b;dsimp only at*;subst ho;refine ye1 func48 ntmps48 fun _ _ _=>?_
  repeat'(first|refine yz ?_|refine yp b88 h1 ?_|exact zD)
 ·rw[(fa1 b).2.2.2 ho];obtain⟨op,⟨vs,ats⟩,cl,e,nm,it,od,sk,lm⟩:=b;dsimp only at ho;clear h hok;subst ho;refine ye1 func48 ntmps48 fun _ _ _=>?_
  exact Om
 ·have hd:=h.od ho;have hs:=h.sl ho;have h1:=ey3 b K hd.1 hd.2 hs.1.2 hs.2.2;have zt:(bs (srT b)).size≤601000057:=by rw[cf7];exact ew8 hd.1 hd.2 hs.1.2 hs.2.2
  have y:(⟨#[115,111,114,116]⟩:ByteArray).size=4:=rfl;rw[ez9 b ho];generalize bs (srT b)=T at*;clear h hok hd hs;obtain⟨op,⟨vs,ats⟩,cl,e,nm,it,od,sk,lm⟩:=b;dsimp only at*;subst ho;refine ye1 func48 ntmps48 fun _ _ _=>?_
  repeat'(first|refine yz ?_|refine yp b89 h1 ?_|exact zD)
 ·have h1:=ex2 (h.e (.inr ho));have zt:(bs (txE b.e)).size≤400000:=by rw[cf7];exact ev8 (h.e (.inr ho))
  have y1:(⟨#[117,110,119,105,110,100,32]⟩:ByteArray).size=7:=rfl;have y2:(⟨#[32,65,83,32]⟩:ByteArray).size=4:=rfl;have hs:=h.nm ho;rw[fa0 b ho];generalize bs (txE b.e)=T at*;clear h hok;obtain⟨op,⟨vs,ats⟩,cl,e,nm,it,od,sk,lm⟩:=b;dsimp only at*;subst ho;refine ye1 func48 ntmps48 fun _ _ _=>?_
  repeat'(first|refine yz ?_|refine yp b87 h1 ?_|exact zD)
end Go.Proofs.YtndgolmgaenlfaaGreatDoor
namespace Go.Proofs.YtndgolmgaenlfaaGreatDoor
set_option maxRecDepth 4000
open Go Go.Abs Go.Val Go.RowKit Go.Proofs.Tryz
theorem rep2:∀n:Nat,Lib.repeatL [32,32] n=List.replicate (2*n) 32
 |0=>rfl
 |n+1=>by
  rw[Lib.repeatL,rep2 n,show 2*(n+1)=(2*n+1)+1 by omega,List.replicate_succ,List.replicate_succ];rfl
theorem fa3(n:Nat)(hn:n≤2000):Ev E 47 [.str ⟨#[32,32]⟩,.int n] (.d (.str (bs (List.replicate (2*n) 32)))):=by
 intro w F vs hF hG hl hr
 match vs,hl with
 |[v,u],_=>
  obtain⟨rfl,-⟩:=Rd.imm_inv (hr 0 _ v rfl rfl);obtain⟨rfl,-⟩:=Rd.imm_inv (hr 1 _ u rfl rfl)
  have hok:Go.Abs.okV (.string (bs (List.replicate (2*n) 32)))=true:=by
   simp only[Go.Abs.okV,decide_eq_true_eq,cf7,maxLen,List.length_replicate];omega
  match n,hok with
  |0,hok=>
   refine(Tryz.strings_Repeat_zero _ w).mono ?_;rintro e w' ⟨rfl,rfl⟩;exact⟨_,F,rfl,Ext.refl hF,Rd.imm _ hok⟩
  |1,hok=>
   refine(Tryz.strings_Repeat_one _ w).mono ?_;rintro e w' ⟨rfl,rfl⟩;exact⟨_,F,rfl,Ext.refl hF,Rd.imm _ hok⟩
  |n+2,hok=>
   refine(Tryz.strings_Repeat_main _ (n+2) w Oa Oa (by show 2*(n+2)≤_;omega) Od).mono ?_;rintro e w' ⟨rfl,hb⟩;refine⟨_,F,rfl,Ext.of_below hb hF,?_⟩
   have e1:(⟨(Lib.repeatL (⟨#[32,32]⟩:ByteArray).data.toList (n+2)).toArray⟩:ByteArray)=bs (List.replicate (2*(n+2)) 32):=by
    show bs (Lib.repeatL [32,32] (n+2))=_;rw[rep2]
   rw[e1];exact Rd.imm _ hok
attribute [local irreducible] go SGo an9 Ev aw1 EvO EvS RGo RGw PGo
theorem fa4{l:List Pl}{i:Nat}{x:Pl}(d:Nat)(h:l[i]? =some x):ep5 d (l.take (i+1))=ep5 d (l.take i)++plT (d+1) x:=by
 induction l generalizing i with
 |nil=>simp at h
 |cons a r ih=>
  cases i with
  |zero=>
   rw[List.getElem?_cons_zero]at h
   cases h
   simp[ep5]
  |succ i=>
   rw[gj5]at h;rw[List.take_succ_cons,List.take_succ_cons,ep5,ep5,ih h,fz5]
theorem fa5(d:Nat):∀(l:List Pl) (i:Nat),(ep5 d (l.take i)).length≤(ep5 d l).length
 |[],i=>by simp
 |a::r,0=>by simp[ep5]
 |a::r,i+1=>by
  have:=fa5 d r i;rw[List.take_succ_cons,ep5,ep5,fy8,fy8];omega
def hdT(d:Nat)(b:PB):List UInt8:=List.replicate (2*d) 32++lnT b++ [10]
theorem fa6(d:Nat)(b:PB):bs (hdT d b)=bs (List.replicate (2*d) 32)++bs (lnT b)++⟨#[10]⟩:=by
 apply er9;simp[bs,hdT]
set_option maxHeartbeats 4000000 in
theorem fa7(p:Pl):∀d:Nat,d+dpP p≤2000→szP p≤2000→70000000000*szP p≤140000000000000→alB TxB p→alB (fun b=>OkC b.cl) p→Ev E 26 [do8 p,.int d] (.d (.str (bs (plT d p)))):=by
 refine do6 (P:=fun p=>∀d:Nat,d+dpP p≤2000→szP p≤2000→70000000000*szP p≤140000000000000→alB TxB p→alB (fun b=>OkC b.cl) p→Ev E 26 [do8 p,.int d] (.d (.str (bs (plT d p))))) (fun b ks ih d hd hz hz2 ht hok=>?_) p;have hL:=ex0 (.mk b ks) d hd ht;rw[alB]at ht hok;rw[dpP]at hd;rw[szP]at hz hz2 hL;have h1:=fa2 b (ks.map do8) ht.1 hok.1;have hr:=fa3 d Oa;have hl1:=ew9 ht.1;have hle:(ks.map do8).length=ks.length:=Oc
 have hkl:=dr8 ks;have e0:plT d (.mk b ks)=hdT d b++ep5 d ks:=by rw[plT];rfl
 rw[dp1,e0];rw[e0,fy8]at hL;have y:(⟨#[10]⟩:ByteArray).size=1:=rfl;have z1:(bs (List.replicate (2*d) 32)).size≤4000:=by rw[cf7,List.length_replicate];omega
 rw[←cf7]at hl1;have ehd:=fa6 d b;generalize bs (List.replicate (2*d) 32)=R at*;generalize bs (lnT b)=Lb at*;have p0:R++Lb++⟨#[10]⟩=bs (hdT d b++ep5 d (ks.take 0)):=by rw[←ehd];simp[ep5]
 generalize hdT d b=H at*;have hdI:((d:Nat):Int)+1=((d+1:Nat):Int):=Oa
 refine ye2 func26 ntmps26 fun _ _ _=>?_
 repeat'(first|refine yz ?_|refine yp b47 hr ?_|refine yp b48 h1 ?_)
 refine ac8 (α:=SPiP ks.length) (fun p=>⟨[(5,.d (.str (bs (H++ep5 d (ks.take p.i))))),(1,.d (.int d)),(15,.d (.sl (ks.map do8))),(16,.d (.int (ks.map do8).length)),(17,.d (.int p.i))],[]⟩) (fun p=>ks.length-p.i) ⟨0,by omega⟩ (by dsimp only;rw[←p0];exact(zle 0)) ?_;rintro⟨i,hi⟩;dsimp only;clear p0 ehd;have hpt:=fa5 d ks i;rcases fy5 i ks.length with hlt|hge
 ·have g1:decide ((i:Int)<((ks.map do8).length:Int))=true:=by rw[hle];simpa using hlt
  have hx0:=fy4 hlt;generalize ks[i]=x at hx0;have hx:=cz1 (f:=do8) hx0;have hm:=fy6 hx0;have hsx:=dr6 hm;have hdx:=dr7 hm;have hc:=ih x hm (d+1) Oa Oa Oa (dz6 ht.2 x hm) (dz6 hok.2 x hm);have hlx:=ex0 x (d+1) Oa (dz6 ht.2 x hm);have hpt2:=fa5 d ks (i+1);have htk:=fa4 d hx0;rw[htk,fy8]at hpt2
  have z2:(bs (H++ep5 d (ks.take i))).size+(bs (plT (d+1) x)).size≤140000000000000:=by
   rw[cf7,cf7,fy8];omega
  have en:bs (H++ep5 d (ks.take (i+1)))=bs (H++ep5 d (ks.take i))++bs (plT (d+1) x):=by
   rw[htk];apply er9;simp[bs]
  rw[←hdI]at hc;generalize bs (plT (d+1) x)=T at*;generalize bs (H++ep5 d (ks.take i))=S at*;rw[eb6]at hx hc
  repeat'(first|refine yz ?_|refine qI (do7 x.b (x.ks.map do8)) rfl (ap9 rfl) rfl rfl rfl rfl rfl rfl Oh hx ?_|refine yp b26 hc ?_)
  refine ac2 ?_;refine⟨⟨i+1,by omega⟩,by dsimp only;omega,?_⟩;dsimp only;rw[en];exact(zle 0)
 ·have g1:decide ((i:Int)<((ks.map do8).length:Int))=false:=by rw[hle];simp;omega
  rw[ga3 hge]
  exact Om
def rTP(p:Pl):ByteArray:=bif (dr5 p).2 !=0 then⟨#[]⟩else bs (plT 0 p)
theorem fa8(p:Pl):bi2 (do8 p)≤1048576→alB (fun b=>OkC b.cl) p:=by
 refine do6 (P:=fun p=>bi2 (do8 p)≤1048576→alB (fun b=>OkC b.cl) p) (fun b ks ih h=>?_) p;rw[dp1]at h;have hB:=ei5 b (ks.map do8);rw[alB];refine⟨(ei4 Oa).ok,?_⟩
 have key:∀L:List Pl,(∀x∈L,alB (fun b=>OkC b.cl) x)→dz5 (fun b=>OkC b.cl) L:=by
  intro L
  induction L with
  |nil=>intro _;exact trivial
  |cons a r ihr=>intro hx;exact⟨hx a Oc,ihr fun x hm=>hx x (by simp[hm])⟩
 exact key ks fun x hx=>ih x hx (by have:=eg4 (gc4 (f:=do8) hx);omega)
theorem fa9(p:Pl)(hb:bi2 (do8 p)≤1048576)(hw:wtP p≤1500):Ev E 15 [do8 p] (.tup [.str (rTP p),.int (dr5 p).2]):=Ev.fit fun hfit=>by
 have hf:=hfit (do8 p) Oc;have hv:=vs_wt p;have hzw:=sz_wt p;have k1:=ej0 p hb Oa;unfold rTP
 cases hc:(dr5 p).2 !=0 with
 |true=>
  rw[cond_true];obtain⟨b,ks⟩:=p;rw[dp1]at k1 ⊢;generalize dr5 (.mk b ks)=ck at*;clear hf hfit;refine ye1 func15 ntmps15 fun _ _ _=>?_
  repeat'(first|refine yz ?_|refine yp b10 k1 ?_|exact zL)
 |false=>
  have hc0:(dr5 p).2=0:=by simpa using hc
  obtain⟨hd,hz,hcf,-⟩:=ds2 hc0;have h2:=fa7 p 0 Oa hz Oa (ev7 p hf hb hw hcf) (fa8 p hb);rw[hc0]at k1 ⊢;rw[cond_false];obtain⟨b,ks⟩:=p;rw[dp1]at k1 h2 ⊢;generalize bs (plT 0 (.mk b ks))=T at*;generalize(dr5 (.mk b ks)).1=c1 at*;clear hf hfit hd hz hcf hc hc0;refine ye1 func15 ntmps15 fun _ _ _=>?_
  repeat'(first|refine yz ?_|refine yp b10 k1 ?_|refine yp b26 h2 ?_|exact zL)
def agL:Ex:=.mk 24 bq3 ⟨#[99,111,117,110,116]⟩ false []
def lsL:Ex:=.mk 22 bq3 ⟨#[]⟩ false [yesX]
def fiL:Pl:=.mk (opB 6 yesX ⟨#[]⟩) [unQ]
def onL:Pl:=.mk (opB 11 lsL ⟨#[120]⟩) [unQ]
def twL:Pl:=.mk (opB 11 lsL ⟨#[120]⟩) [onL]
def cjL:CJ:=⟨[⟨#[97]⟩,⟨#[95,49]⟩,⟨#[98]⟩],[⟨3,[0,1,2],⟨#[]⟩,[⟨#[84]⟩],bq3⟩]⟩
def muL:Pl:=.mk ⟨2,cjL,zCL,zeX,⟨#[]⟩,[],[],0,0⟩ []
def soL:Pl:=.mk ⟨10,⟨[],[]⟩,zCL,zeX,⟨#[]⟩,[],[⟨agL,false⟩],0,0⟩ [unQ]
def joL:Pl:=jnQ [unQ]
theorem fb0(p:Pl)(c:List ByteArray)(e:Int)(h1:decide (bi2 (do8 p)≤1048576)=true)(h2:decide (vsP p≤100000)=true)(h3:dr5 p=(c,e)):Ev E 10 [do8 p] (.tup [.sl (c.map .str),.int e]):=by
 have h:=ej0 p (of_decide_eq_true h1) (of_decide_eq_true h2);rw[h3]at h;exact h
theorem fb1(p:Pl)(s:ByteArray)(h1:decide (bi2 (do8 p)≤1048576)=true)(h2:decide (wtP p≤1500)=true)(h3:rTP p=s)(h4:(dr5 p).2=0):Ev E 15 [do8 p] (.tup [.str s,.int 0]):=by
 have h:=fa9 p (of_decide_eq_true h1) (of_decide_eq_true h2);rw[h3,h4]at h;exact h
theorem ckL1:dr5 fiL=([],0):=Oe
theorem ckL2:dr5 onL=([⟨#[120]⟩],0):=Oe
theorem ckL3:dr5 twL=([],7):=Oe
theorem ckL4:dr5 muL=([⟨#[97]⟩,⟨#[95,49]⟩,⟨#[98]⟩],0):=Oe
theorem ckL5:dr5 soL=([],9):=Oe
theorem ckL6:dr5 joL=([],25):=Oe
theorem txL1:rTP fiL=⟨#[102,105,108,116,101,114,32,84,82,85,69,10,32,32,117,110,105,116,10]⟩:=Oe
theorem txL2:rTP muL=⟨#[109,117,108,116,105,32,40,97,44,32,95,49,44,32,98,41,32,91,48,93,45,91,49,58,84,93,45,62,91,50,93,10]⟩:=Oe
theorem szL:szP twL=3:=Oe
set_option maxHeartbeats 8000000 in
theorem fb2:Ev E 9 [] (.d (.bool true)):=by
 have c1:=fb0 fiL _ _ Oe Oe ckL1;have c2:=fb0 onL _ _ Oe Oe ckL2;have c3:=fb0 twL _ _ Oe Oe ckL3;have c4:=fb0 muL _ _ Oe Oe ckL4;have c5:=fb0 soL _ _ Oe Oe ckL5;have c6:=fb0 joL _ _ Oe Oe ckL6;have t1:=fb1 fiL _ Oe Oe txL1 (by rw[ckL1]);have t2:=fb1 muL _ Oe Oe txL2 (by rw[ckL4]);have s1:=eb7 twL (by rw[szL];decide);rw[szL]at s1;have q1:=ek2 [⟨#[120]⟩] [⟨#[120]⟩] Od;have q2:=ek2 [⟨#[97]⟩,⟨#[95,49]⟩,⟨#[98]⟩] [⟨#[97]⟩,⟨#[95,49]⟩,⟨#[98]⟩] Od;rw[decide_eq_true rfl]at q1 q2;have g0:((0:Int)==0)=true:=rfl;have g7:((7:Int)==7)=true:=rfl;have g9:((9:Int)==9)=true:=rfl;have g25:((25:Int)==25)=true:=rfl;have g3:(((3:Nat):Int)==3)=true:=rfl;have gl:((([]:List D).length:Int)==0)=true:=rfl;have gl2:(((([]:List ByteArray).map D.str).length:Int)==0)=true:=rfl;have gs1:((⟨#[102,105,108,116,101,114,32,84,82,85,69,10,32,32,117,110,105,116,10]⟩:ByteArray).toList==(⟨#[102,105,108,116,101,114,32,84,82,85,69,10,32,32,117,110,105,116,10]⟩:ByteArray).toList)=true:=beq_self_eq_true _;have gs2:((⟨#[109,117,108,116,105,32,40,97,44,32,95,49,44,32,98,41,32,91,48,93,45,91,49,58,84,93,45,62,91,50,93,10]⟩:ByteArray).toList==(⟨#[109,117,108,116,105,32,40,97,44,32,95,49,44,32,98,41,32,91,48,93,45,91,49,58,84,93,45,62,91,50,93,10]⟩:ByteArray).toList)=true:=beq_self_eq_true _;simp only[fiL,onL,twL,muL,soL,joL,jnQ,unQ,dp1,fz7,gd8]at c1 c2 c3 c4 c5 c6 t1 t2 s1;refine aq2 func9 ntmps9 rfl rfl fun w0 F0 O=>?_
 repeat'(first|refine yz ?_|refine qP (d:=58) rfl rfl rfl rfl rfl rfl b10 (c1) ?_|refine qP (d:=63) rfl rfl rfl rfl rfl rfl b10 (c2) ?_|refine qP (d:=68) rfl rfl rfl rfl rfl rfl b10 (c3) ?_|refine qP (d:=73) rfl rfl rfl rfl rfl rfl b10 (c4) ?_|refine qP (d:=78) rfl rfl rfl rfl rfl rfl b10 (c5) ?_|refine qP (d:=83) rfl rfl rfl rfl rfl rfl b15 (t1) ?_|refine qP (d:=88) rfl rfl rfl rfl rfl rfl b15 (t2) ?_|refine qP (d:=95) rfl rfl rfl rfl rfl rfl b10 (c6) ?_|refine qP (d:=112) rfl rfl rfl rfl rfl rfl b12 (q1) ?_|refine qP (d:=125) rfl rfl rfl rfl rfl rfl b12 (q2) ?_|refine yp b13 s1 ?_|refine yx ?_|exact zD)
end Go.Proofs.YtndgolmgaenlfaaGreatDoor
