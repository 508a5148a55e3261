/- As each says. -/
import Derived.Test.YtndgolmgaenlfaaGreatDoorGC
import Derived.Test.YtndgolmgaenlfaaGreatDoorTB
import Derived.Test.YtndgolmgaenlfaaGreatDoorKE
import Derived.Test.YtndgolmgaenlfaaGreatDoorTA
set_option linter.unusedVariables false
set_option linter.unusedSimpArgs false
namespace Go.Proofs.YtndgolmgaenlfaaGreatDoor
set_option maxRecDepth 4000
open Go Go.Abs Go.Val Go.RowKit Go.Proofs.Tryz
attribute [local irreducible] go SGo an1 Ev au8 EvO EvS RGo RGw PGo
theorem fm3(L:List (List UInt8)):(cd4 L).length=L.length:=by simp[cd4]
theorem fm4{L:List (List UInt8)}{i:Nat}{x:List UInt8}(h:L[i]? =some x):(cd4 L)[((i:Nat):Int).toNat]? =some (.str (bs x)):=by
 show(cd4 L)[i]? =_;rw[cd4,fp9,h];rfl
set_option maxHeartbeats 1000000 in
theorem fm5(L:List (List UInt8))(hn:L.length≤1000000)(hlen:(Lib.join L [44,32]).length≤1000000000000):Ev E 90 [.sl (cd4 L)] (.d (.str (bs (Lib.join L [44,32])))):=by
 have hle:=fm3 L;have y1:(⟨#[44,32]⟩:ByteArray).size=2:=rfl;have hmx:∀x∈L,x.length≤1000000000000:=fun x hx=>fs8 (cc7 _ L x hx) hlen
 refine ye1 func90 ntmps90 fun _ _ _=>?_
 repeat'(refine yz ?_)
 refine ac7 (α:=SJ L [44,32]) (fun p=>⟨[(0,.d (.sl (cd4 L))),(3,.d (.str (bs p.s))),(4,.d (.int p.i))],[]⟩) (fun p=>L.length-p.i) ⟨0,[],by omega,fun _=>rfl,fun h=>absurd rfl h⟩ (zle 0) ?_;rintro⟨i,s,hi,h0,h1⟩;dsimp only;rcases fp2 i L.length with hlt|hge
 ·have g1:decide ((i:Int)<((cd4 L).length:Int))=true:=by rw[hle];simpa using hlt
  have hx0:=fp1 hlt;generalize L[i]=x at hx0;have hx:=fm4 hx0;have zt:=hmx x (fp3 hx0);rw[←cb1]at zt
  by_cases hi0:i=0
  ·subst hi0;have hs0:=h0 rfl;subst hs0;have g2:decide (((0:Nat):Int)>0)=false:=rfl;have z2:(bs []).size=0:=rfl;have e1:bs []++bs x=bs ([]++x):=by apply fa8;simp[bs]
   repeat'(first|refine yz ?_|refine qI (.str (bs x)) rfl (ap1 rfl) rfl rfl rfl rfl rfl rfl Oh hx ?_)
   refine ac1 ?_;rw[e1];exact⟨⟨1,[]++x,by omega,fun h=>by omega,fun _=>by have:=bu9 hx0;rw[fu8]at this;rw[fr8];conv=>rhs;rw[this,Lib.join_cons]⟩,by dsimp only;omega,(zle 0)⟩
  ·have g2:decide ((i:Int)>0)=true:=by simp;omega
   have h1':=h1 hi0;rw[cd0 hx0]at h1'
   have hll:s.length≤1000000000000:=by
    have:=congrArg List.length h1';simp only[fp4]at this;omega
   rw[←cb1]at hll;have e1:bs s++⟨#[44,32]⟩++bs x=bs (s++ [44,32]++x):=by apply fa8;simp[bs]
   repeat'(first|refine yz ?_|refine qI (.str (bs x)) rfl (ap1 rfl) rfl rfl rfl rfl rfl rfl Oh hx ?_)
   refine ac1 ?_;rw[e1];exact⟨⟨i+1,s++ [44,32]++x,by omega,fun h=>by omega,fun _=>by rw[←h1'];simp only[fs0]⟩,by dsimp only;omega,(zle 0)⟩
 ·have g1:decide ((i:Int)<((cd4 L).length:Int))=false:=by rw[hle];simp;omega
  have e:Lib.join L [44,32]=s:=by
   by_cases hi0:i=0
   ·have:L=[]:=fx3 Oa;rw[this,h0 hi0];rfl
   ·rw[←h1 hi0,fp8 Oa];simp[Lib.joinTail]
  rw[e]
  exact Ok
theorem vtg{vs:List Int}{i:Nat}(hi:i<vs.length):(vs.map D.int)[i]? =some (.int (vs.getD i 0)):=by
 rw[fp9,fu1,fp1 hi];rfl
set_option maxHeartbeats 4000000 in
theorem fm6(a:AT)(h:ff4 a):Ev E 91 [cd8 a] (.d (.str (bs (atT a)))):=by
 have v0:=fg4 h 0;have v1:=fg4 h 1;have v2:=fg4 h 2;have w0:(vtT a 0).length≤21:=v0;have w1:(vtT a 1).length≤21:=v1;rw[←cb1]at v0 v1 v2;have hn:=h.n;have y1:(⟨#[91]⟩:ByteArray).size=1:=rfl;have y2:(⟨#[93,58]⟩:ByteArray).size=2:=rfl;have y3:(⟨#[93,46]⟩:ByteArray).size=2:=rfl;have y4:(⟨#[61]⟩:ByteArray).size=1:=rfl;have y5:(⟨#[93,45,91]⟩:ByteArray).size=3:=rfl;have y6:(⟨#[93,45,62,91]⟩:ByteArray).size=4:=rfl;have y7:(⟨#[93]⟩:ByteArray).size=1:=rfl;have y8:(⟨#[58]⟩:ByteArray).size=1:=rfl;have y9:(⟨#[124]⟩:ByteArray).size=1:=rfl;have c0:Ev E 160 [.int (a.vs.getD 0 0)] (.d (.str (bs (vtT a 0)))):=cb6 _;have c1:Ev E 160 [.int (a.vs.getD 1 0)] (.d (.str (bs (vtT a 1)))):=cb6 _;have c2:Ev E 160 [.int (a.vs.getD 2 0)] (.d (.str (bs (vtT a 2)))):=cb6 _;rcases h.k with hk|hk|hk|hk
 ·have x0:=vtg (vs:=a.vs) (i:=0) (by rw[hn,hk];decide)
  have e:bs (atT a)=⟨#[91]⟩++bs (vtT a 0)++⟨#[93,58]⟩++a.nm:=by
   unfold atT;rw[hk];apply fa8;simp[bs,bl]
  have hs:=h.nm (.inl hk);rw[e];generalize bs (vtT a 0)=T0 at*;generalize a.vs.getD 0 0=n0 at*;clear h e;obtain⟨k,vs,nm,ty,v⟩:=a;dsimp only at*;subst hk;have x0:(vs.map D.int)[((0:Int)).toNat]? =some (.int n0):=x0;refine ye1 func91 ntmps91 fun _ _ _=>?_
  repeat'(first|refine yz ?_|refine yi (.int n0) x0 ?_|refine yp bq4 c0 ?_|exact zD)
 ·have x0:=vtg (vs:=a.vs) (i:=0) (by rw[hn,hk];decide);have zt:=h.v hk;have ht:=cd3 a.v Oa;rw[←cb1]at zt
  have e:bs (atT a)=⟨#[91]⟩++bs (vtT a 0)++⟨#[93,46]⟩++a.nm++⟨#[61]⟩++bs (txt a.v):=by
   unfold atT;rw[hk];apply fa8;simp[bs,bl]
  have hs:=h.nm (.inr hk);rw[e];generalize bs (vtT a 0)=T0 at*;generalize bs (txt a.v)=T at*;generalize a.vs.getD 0 0=n0 at*;clear h e;obtain⟨k,vs,nm,ty,v⟩:=a;dsimp only at*;subst hk;have x0:(vs.map D.int)[((0:Int)).toNat]? =some (.int n0):=x0;refine ye1 func91 ntmps91 fun _ _ _=>?_
  repeat'(first|refine yz ?_|refine yi (.int n0) x0 ?_|refine yp bq4 c0 ?_|refine yp bq5 ht ?_|exact zD)
 ·have x0:=vtg (vs:=a.vs) (i:=0) (by rw[hn,hk];decide);have x1:=vtg (vs:=a.vs) (i:=1) (by rw[hn,hk];decide);have x2:=vtg (vs:=a.vs) (i:=2) (by rw[hn,hk];decide)
  have htj:(Lib.join (a.ty.map bl) [124]).length≤23068673:=by
   have h1:=ev4 20 [124] Oc (a.ty.map bl) (by
    intro x hx;obtain⟨s,hs,rfl⟩:=fq8.1 hx;have:=(h.ty s hs).2;have:=eu9 s;omega)
   rw[fp6]at h1;have:=h.tn;omega
  obtain⟨P,hP⟩:∃P,P=([91]:List UInt8)++vtT a 0++ [93,45,91]++vtT a 1:=⟨_,rfl⟩;have zP:P.length≤46:=by rw[hP];simp only[fp4,fp5,fq0];omega
  have e:bs (atT a)=bs (P++tyT a.ty)++⟨#[93,45,62,91]⟩++bs (vtT a 2)++⟨#[93]⟩:=by
   unfold atT;rw[hk,hP];apply fa8;simp[bs]
  have e0:⟨#[91]⟩++bs (vtT a 0)++⟨#[93,45,91]⟩++bs (vtT a 1)=bs (P++tyH 0++ []):=by
   rw[hP];apply fa8;simp[bs,tyH]
  have hB:bs (P++tyT a.ty)=bs (P++tyT a.ty):=rfl;have zB:=fg5 h;have zB:(bs (P++tyT a.ty)).size≤23068719:=by rw[cb1,fp4];omega
  have hty:=h.ty;have htn:=h.tn;rw[e];clear e hP w0 w1;generalize bs (vtT a 0)=T0 at*;generalize bs (vtT a 1)=T1 at*;generalize bs (vtT a 2)=T2 at*;generalize hBd:bs (P++tyT a.ty)=B1 at*;generalize a.vs.getD 0 0=n0 at*;generalize a.vs.getD 1 0=n1 at*;generalize a.vs.getD 2 0=n2 at*;clear h;obtain⟨k,vs,nm,ty,v⟩:=a;dsimp only at*;subst hk;have x0:(vs.map D.int)[((0:Int)).toNat]? =some (.int n0):=x0;have x1:(vs.map D.int)[((1:Int)).toNat]? =some (.int n1):=x1;have x2:(vs.map D.int)[((2:Int)).toNat]? =some (.int n2):=x2;have hle:(ty.map D.str).length=ty.length:=Oc
  refine ye1 func91 ntmps91 fun _ _ _=>?_
  repeat'(first|refine yz ?_|refine yi (.int n0) x0 ?_|refine yi (.int n1) x1 ?_|refine yp bq4 c0 ?_|refine yp bq4 c1 ?_)
  refine ac7 (α:=SJ (ty.map bl) [124]) (fun p=>⟨[(1,.ptr 0 0),(3,.d (.str (bs (P++tyH p.i++p.s)))),(4,.d (.int p.i))],[oAT ⟨3,vs,nm,ty,v⟩]⟩) (fun p=>ty.length-p.i) ⟨0,[],by omega,fun _=>rfl,fun h=>absurd rfl h⟩ (by dsimp only;rw[←e0];exact(zle 1)) ?_;rintro⟨i,s,hi,h0,h1⟩;dsimp only;rw[fp6]at hi;rcases fp2 i ty.length with hlt|hge
  ·have g1:decide ((i:Int)<((ty.map D.str).length:Int))=true:=by rw[hle];simpa using hlt
   have hx0:=fp1 hlt;generalize ty[i]=x at hx0;have hx:=cv3 (f:=D.str) hx0;have hm2:=fp3 hx0;have hmm:(ty.map bl)[i]? =some (bl x):=by rw[fp9,hx0];rfl
   have zx:=(hty x hm2).2
   by_cases hi0:i=0
   ·subst hi0;have hs0:=h0 rfl;subst hs0;have g2:(((0:Nat):Int)==0)=true:=rfl;have zs:(bs (P++tyH 0++ [])).size≤46:=by rw[cb1];simp[tyH];omega
    have e1:bs (P++tyH 0++ [])++⟨#[58]⟩++x=bs (P++tyH 1++([]++bl x)):=by apply fa8;simp[bs,bl,tyH]
    repeat'(first|refine yz ?_|refine yi (.str x) hx ?_)
    refine ac1 ?_;rw[e1];exact⟨⟨1,[]++bl x,by rw[fp6];omega,fun h=>by omega,fun _=>by have:=bu9 hmm;rw[fu8]at this;rw[fr8];conv=>rhs;rw[this,Lib.join_cons]⟩,by dsimp only;omega,(zle 1)⟩
   ·have g2:((i:Int)==0)=false:=by simp;omega
    have h1':=h1 hi0;rw[cd0 hmm]at h1'
    have hll:s.length≤23068673:=by
     have:=congrArg List.length h1';simp only[fp4]at this;omega
    have zs:(bs (P++tyH i++s)).size≤23069673:=by
     rw[cb1,fp4,fp4];have:(tyH i).length≤1:=by unfold tyH;split<;>simp
     omega
    have e1:bs (P++tyH i++s)++⟨#[124]⟩++x=bs (P++tyH (i+1)++(s++ [124]++bl x)):=by
     have t1:tyH i=[58]:=by unfold tyH;rw[if_neg hi0]
     have t2:tyH (i+1)=[58]:=by unfold tyH;rw[if_neg Oa]
     rw[t1,t2];apply fa8;simp[bs,bl]
    repeat'(first|refine yz ?_|refine yi (.str x) hx ?_)
    refine ac1 ?_;rw[e1];exact⟨⟨i+1,s++ [124]++bl x,by rw[fp6];omega,fun h=>by omega,fun _=>by rw[←h1'];simp only[fs0]⟩,by dsimp only;omega,(zle 1)⟩
  ·have g1:decide ((i:Int)<((ty.map D.str).length:Int))=false:=by rw[hle];simp;omega
   have e1:bs (P++tyH i++s)=B1:=by
    rw[←hBd]
    by_cases hi0:i=0
    ·have:ty=[]:=fx3 Oa;rw[this,hi0,h0 hi0];apply fa8;simp[bs,tyH,tyT]
    ·have e:=h1 hi0;rw[fp8 (by rw[fp6];omega)]at e;simp only[Lib.joinTail,fv3]at e;have t1:tyH i=[58]:=by unfold tyH;rw[if_neg hi0]
     have t2:(ty.length==0)=false:=by simp;intro h;rw[h]at hi;simp at hi;omega
     unfold tyT;rw[t1,t2,←e];apply fa8;simp[bs]
   rw[e1]
   repeat'(first|refine yz ?_|refine yi (.int n2) x2 ?_|refine yp bq4 c2 ?_|exact zD)
 ·have x0:=vtg (vs:=a.vs) (i:=0) (by rw[hn,hk];decide)
  have e:bs (atT a)=⟨#[91]⟩++bs (vtT a 0)++⟨#[93]⟩:=by
   unfold atT;rw[hk];apply fa8;simp[bs]
  rw[e];generalize bs (vtT a 0)=T0 at*;generalize a.vs.getD 0 0=n0 at*;clear h e;obtain⟨k,vs,nm,ty,v⟩:=a;dsimp only at*;subst hk;have x0:(vs.map D.int)[((0:Int)).toNat]? =some (.int n0):=x0;refine ye1 func91 ntmps91 fun _ _ _=>?_
  repeat'(first|refine yz ?_|refine yi (.int n0) x0 ?_|refine yp bq4 c0 ?_|exact zD)
set_option maxHeartbeats 4000000 in
theorem fm7(l:List IT)(hn:l.length≤24)(h:∀x∈l,TxE x.e∧x.asn.size≤20):Ev E 94 [.sl (l.map cp5)] (.d (.str (bs (liT (l.map itT))))):=by
 have hle:(l.map cp5).length=l.length:=Oc
 have hlen:=fg9 hn h;have hj:=fm5 (l.map itT) (by rw[fp6];omega) Oa;have zj:(bs (Lib.join (l.map itT) [44,32])).size≤10000000:=by rw[cb1];exact hlen
 have y1:(⟨#[32]⟩:ByteArray).size=1:=rfl;have y4:(⟨#[32,65,83,32]⟩:ByteArray).size=4:=rfl;refine ye1 func94 ntmps94 fun _ _ _=>?_
 repeat'(refine yz ?_)
 refine ac7 (α:=SDx l) (fun p=>⟨[(3,bf9 0 (cd4 ((l.take p.i).map itT))),(0,.d (.sl (l.map cp5))),(4,.d (.int p.i))],aw7 9 1 (cd4 ((l.take p.i).map itT))⟩) (fun p=>l.length-p.i) ⟨0,by omega⟩ (zle 0) ?_;rintro⟨i,hi⟩;dsimp only;have hol:(cd4 ((l.take i).map itT)).length≤24:=by simp[cd4];omega
 rcases fp2 i l.length with hlt|hge
 ·have g1:decide ((i:Int)<((l.map cp5).length:Int))=true:=by rw[hle];simpa using hlt
  have hx0:=fp1 hlt;generalize l[i]=x at hx0;have hx:=cv3 (f:=cp5) hx0;have hm:=h x (fp3 hx0);have ht:=fh9 hm.1;have zt:(bs (txE x.e)).size≤400000:=by rw[cb1];exact fg3 hm.1
  have zs:=hm.2;have hnx:=fa9 (f:=itT) hx0;rw[fi0]at hnx;generalize bs (txE x.e)=T at*;generalize cd4 ((l.take i).map itT)=o at*;obtain⟨xe,asn⟩:=x;dsimp only at*
  match o,hol with
  |[],hol=>
   dsimp only[bf9,aw7]
   repeat'(first|refine yq 5 [15] ?_|refine yf 5 0 15 ?_|refine yf 5 16 1 ?_|refine rgN ?_|refine yz ?_|refine yi (cp5 ⟨xe,asn⟩) hx ?_|refine bj8 9 rfl rfl rfl rfl rfl rfl ?_|refine yp b93 ht ?_|refine rgS (id:=5) (i:=15) rfl rfl rfl rfl (⟨by simp,fun d hd=>by(obtain rfl:=fq2.1 hd;rfl),by(show(0+1)*16≤140737488355328;omega),by(show 0+1≤9223372036854775807;omega)⟩) Oj ?_)
   refine ac1 ?_;refine⟨⟨i+1,by omega⟩,by dsimp only;omega,?_⟩;dsimp only;rw[hnx];exact(bh0 [0])
  |a::q,hol=>
   dsimp only[bf9,aw7]
   repeat'(first|refine yq 5 [15] ?_|refine yf 5 0 15 ?_|refine yf 5 16 1 ?_|refine rgN ?_|refine yz ?_|refine yi (cp5 ⟨xe,asn⟩) hx ?_|refine bj8 9 rfl rfl rfl rfl rfl rfl ?_|refine yp b93 ht ?_|refine rgS (id:=5) (i:=15) rfl rfl rfl rfl (⟨by simp,fun d hd=>by(obtain rfl:=fq2.1 hd;rfl),by(show((a::q).length+1)*16≤140737488355328;omega),by(show(a::q).length+1≤9223372036854775807;omega)⟩) Oj ?_)
   refine ac1 ?_;refine⟨⟨i+1,by omega⟩,by dsimp only;omega,?_⟩;dsimp only;rw[hnx];exact(bh0 [1])
 ·have g1:decide ((i:Int)<((l.map cp5).length:Int))=false:=by rw[hle];simp;omega
  rw[fq6 hge];clear hol hi hge hn hlen hle h;generalize l.map itT=L at*
  match L,hj,zj with
  |[],hj,zj=>
   dsimp only[cd4,fv9,bf9,aw7]
   exact Ok
  |a::q,hj,zj=>
   rw[fi3];have g2:(((cd4 (a::q)).length:Int)==0)=false:=by simp[cd4];omega
   have e0:cd4 (a::q)=.str (bs a)::cd4 q:=rfl;rw[e0]at hj g2 ⊢;generalize bs (Lib.join (a::q) [44,32])=J at*;dsimp only[bf9,aw7];refine qA ?_;refine au2 0 rfl ?_
   repeat'(first|refine yz ?_|refine yp b90 hj ?_|exact zD)
theorem srT_q(b:PB):bs (srT b)=bif decide (b.lm≥0)then(bif decide (b.sk≥0)then bs (liT (b.od.map odT))++⟨#[32,83,75,73,80,32]⟩++bs (Lib.itoa b.sk)else bs (liT (b.od.map odT)))++⟨#[32,76,73,77,73,84,32]⟩++bs (Lib.itoa b.lm)else bif decide (b.sk≥0)then bs (liT (b.od.map odT))++⟨#[32,83,75,73,80,32]⟩++bs (Lib.itoa b.sk)else bs (liT (b.od.map odT)):=by
 have k:∀n:Int,decide (n<0)= !decide (n≥0):=fun n=>by
  rw[←decide_not];exact decide_eq_decide.2 Oa
 unfold srT bdT;rw[k,k]
 cases decide (b.lm≥0)<;>cases decide (b.sk≥0)<;>(apply fa8;simp[bs,skT,lmT])
set_option maxHeartbeats 8000000 in
theorem fm8(b:PB)(K:List D)(hn:b.od.length≤1500)(h:∀x∈b.od,TxE x.e)(hs:inR .i64 b.sk)(hl:inR .i64 b.lm):Ev E 95 [dn5 b K] (.d (.str (bs (srT b)))):=by
 have hlen:=fh0 hn h;have hj:=fm5 (b.od.map odT) (by rw[fp6];omega) Oa;have zj:(bs (Lib.join (b.od.map odT) [44,32])).size≤601000000:=by rw[cb1];exact hlen
 have i1:=cb6 b.sk;have i2:=cb6 b.lm;have z1:(bs (Lib.itoa b.sk)).size≤21:=by rw[cb1];exact cc3 hs
 have z2:(bs (Lib.itoa b.lm)).size≤21:=by rw[cb1];exact cc3 hl
 have y1:(⟨#[32]⟩:ByteArray).size=1:=rfl;have y2:(⟨#[32,83,75,73,80,32]⟩:ByteArray).size=6:=rfl;have y3:(⟨#[32,76,73,77,73,84,32]⟩:ByteArray).size=7:=rfl;have y5:(⟨#[32,68,69,83,67]⟩:ByteArray).size=5:=rfl;have y0:(⟨#[]⟩:ByteArray).size=0:=rfl;rw[srT_q];generalize bs (Lib.itoa b.sk)=I1 at*;generalize bs (Lib.itoa b.lm)=I2 at*;obtain⟨op,cj,cl,e,nm,it,od,sk,lm⟩:=b;dsimp only at*;have hle:(od.map cp6).length=od.length:=Oc
 refine ye1 func95 ntmps95 fun _ _ _=>?_
 repeat'(refine yz ?_)
 refine ac7 (α:=SDx od) (fun p=>⟨[(3,bf9 1 (cd4 ((od.take p.i).map odT))),(1,.ptr 0 0),(4,.d (.int p.i))],ed9 ⟨op,cj,cl,e,nm,it,od,sk,lm⟩ K::aw7 9 1 (cd4 ((od.take p.i).map odT))⟩) (fun p=>od.length-p.i) ⟨0,by omega⟩ (zle 1) ?_;rintro⟨i,hi⟩;dsimp only;have hol:(cd4 ((od.take i).map odT)).length≤1500:=by simp[cd4];omega
 rcases fp2 i od.length with hlt|hge
 ·have g1:decide ((i:Int)<((od.map cp6).length:Int))=true:=by rw[hle];simpa using hlt
  have hx0:=fp1 hlt;generalize od[i]=x at hx0;have hx:=cv3 (f:=cp6) hx0;have hm:=h x (fp3 hx0);have ht:=fh9 hm;have zt:(bs (txE x.e)).size≤400000:=by rw[cb1];exact fg3 hm
  have hnx:=fa9 (f:=odT) hx0
  have eo:bs (odT x)=bif x.dc then bs (txE x.e)++⟨#[32,68,69,83,67]⟩else bs (txE x.e):=by
   unfold odT
   cases x.dc with
   |true=>apply fa8;simp[bs]
   |false=>rfl
  rw[eo]at hnx;clear eo;generalize bs (txE x.e)=T at*;generalize cd4 ((od.take i).map odT)=o at*;obtain⟨xe,dc⟩:=x;dsimp only at*
  match o,hol with
  |[],hol=>
   dsimp only[bf9,aw7]
   cases dc with
   |true=>
    repeat'(first|refine yz ?_|refine yi (cp6 ⟨xe,true⟩) hx ?_|refine bj8 9 rfl rfl rfl rfl rfl rfl ?_|refine yp b93 ht ?_|(refine qS rfl ⟨by simp,fun d hd=>by(obtain rfl:=fq2.1 hd;rfl),by(show(0+1)*16≤140737488355328;omega),by(show 0+1≤9223372036854775807;omega)⟩ ?_))
    refine ac1 ?_;refine⟨⟨i+1,by omega⟩,by dsimp only;omega,?_⟩;dsimp only;rw[hnx];exact(bh0 [0,1])
   |false=>
    repeat'(first|refine yz ?_|refine yi (cp6 ⟨xe,false⟩) hx ?_|refine bj8 9 rfl rfl rfl rfl rfl rfl ?_|refine yp b93 ht ?_|(refine qS rfl ⟨by simp,fun d hd=>by(obtain rfl:=fq2.1 hd;rfl),by(show(0+1)*16≤140737488355328;omega),by(show 0+1≤9223372036854775807;omega)⟩ ?_))
    refine ac1 ?_;refine⟨⟨i+1,by omega⟩,by dsimp only;omega,?_⟩;dsimp only;rw[hnx];exact(bh0 [0,1])
  |a::q,hol=>
   dsimp only[bf9,aw7]
   cases dc with
   |true=>
    repeat'(first|refine yz ?_|refine yi (cp6 ⟨xe,true⟩) hx ?_|refine bj8 9 rfl rfl rfl rfl rfl rfl ?_|refine yp b93 ht ?_|(refine qS rfl ⟨by simp,fun d hd=>by(obtain rfl:=fq2.1 hd;rfl),by(show((a::q).length+1)*16≤140737488355328;omega),by(show(a::q).length+1≤9223372036854775807;omega)⟩ ?_))
    refine ac1 ?_;refine⟨⟨i+1,by omega⟩,by dsimp only;omega,?_⟩;dsimp only;rw[hnx];exact(bh0 [0,2])
   |false=>
    repeat'(first|refine yz ?_|refine yi (cp6 ⟨xe,false⟩) hx ?_|refine bj8 9 rfl rfl rfl rfl rfl rfl ?_|refine yp b93 ht ?_|(refine qS rfl ⟨by simp,fun d hd=>by(obtain rfl:=fq2.1 hd;rfl),by(show((a::q).length+1)*16≤140737488355328;omega),by(show(a::q).length+1≤9223372036854775807;omega)⟩ ?_))
    refine ac1 ?_;refine⟨⟨i+1,by omega⟩,by dsimp only;omega,?_⟩;dsimp only;rw[hnx];exact(bh0 [0,2])
 ·have g1:decide ((i:Int)<((od.map cp6).length:Int))=false:=by rw[hle];simp;omega
  rw[fq6 hge];clear hol hi hge hlen hn h;generalize od.map odT=L at*
  match L,hj,zj with
  |[],hj,zj=>
   have eL:bs (liT [])=⟨#[]⟩:=rfl;rw[eL];dsimp only[cd4,fv9,bf9,aw7]
   cases k1:decide (lm≥0)<;>cases k2:decide (sk≥0)<;>dsimp only[cond_true,cond_false]
   ·exact Ok
   ·repeat'(first|refine yz ?_|refine yp bq4 i1 ?_|exact zD)
   ·repeat'(first|refine yz ?_|refine yp bq4 i2 ?_|exact zD)
   ·repeat'(first|refine yz ?_|refine yp bq4 i1 ?_|refine yp bq4 i2 ?_|exact zD)
  |a::q,hj,zj=>
   rw[fi3];have g2:decide (((cd4 (a::q)).length:Int)>0)=true:=by rw[decide_eq_true_eq,fm3,fp5];omega
   have e0:cd4 (a::q)=.str (bs a)::cd4 q:=rfl;rw[e0]at hj g2 ⊢;generalize bs (Lib.join (a::q) [44,32])=J at*;dsimp only[bf9,aw7];refine qA ?_;refine au2 1 rfl ?_
   cases k1:decide (lm≥0)<;>cases k2:decide (sk≥0)<;>dsimp only[cond_true,cond_false]
   ·repeat'(first|refine yz ?_|refine yp b90 hj ?_|exact zD)
   ·repeat'(first|refine yz ?_|refine yp b90 hj ?_|refine yp bq4 i1 ?_|exact zD)
   ·repeat'(first|refine yz ?_|refine yp b90 hj ?_|refine yp bq4 i2 ?_|exact zD)
   ·repeat'(first|refine yz ?_|refine yp b90 hj ?_|refine yp bq4 i1 ?_|refine yp bq4 i2 ?_|exact zD)
set_option maxHeartbeats 4000000 in
theorem fm9(b:PB)(K:List D)(ho:b.op=2)(h:TxB b):Ev E 49 [dn5 b K] (.d (.str (bs (mlT b.cj)))):=by
 have hvn:=h.vn ho;have hvs:=h.vs ho;have has:=h.ats ho;have zj:=fg7 hvn.1 hvs;have za:=fg8 hvn.2 has;have za:(fj8 b.cj.as).length≤288000012:=za;have hj:=fm5 (b.cj.vs.map bl) (by rw[fp6];omega) Oa
 have es:cd4 (b.cj.vs.map bl)=b.cj.vs.map D.str:=by
  have hb:∀s:ByteArray,bs (bl s)=s:=fun s=>by apply fa8;simp[bs,bl]
  simp[cd4,hb]
 rw[es]at hj;rw[←cb1]at zj;rw[fk1];generalize bs (Lib.join (b.cj.vs.map bl) [44,32])=J at*;have h12:=hvn.2;clear h hvs hvn es;obtain⟨op,⟨vs,ats⟩,cl,e,nm,it,od,sk,lm⟩:=b;dsimp only at*;subst ho;have y1:(⟨#[109,117,108,116,105,32,40]⟩:ByteArray).size=7:=rfl;have y2:(⟨#[41]⟩:ByteArray).size=1:=rfl;have y3:(⟨#[32]⟩:ByteArray).size=1:=rfl;have hle:(ats.map cd8).length=ats.length:=Oc
 refine ye1 func49 ntmps49 fun _ _ _=>?_
 repeat'(first|refine yz ?_|refine yp b90 hj ?_)
 obtain⟨P,hP⟩:∃P,P=(⟨#[109,117,108,116,105,32,40]⟩:ByteArray)++J++⟨#[41]⟩:=⟨_,rfl⟩;have zP:P.size≤25165880:=by rw[hP,ByteArray.size_append,ByteArray.size_append];omega
 rw[←hP];have p0:P=P++bs (fj8 (ats.take 0)):=by apply fa8;simp[bs,fj8]
 refine ac7 (α:=SDx ats) (fun p=>⟨[(3,.d (.str (P++bs (fj8 (ats.take p.i))))),(1,.ptr 0 0),(4,.d (.int p.i))],[ed9 ⟨2,⟨vs,ats⟩,cl,e,nm,it,od,sk,lm⟩ K]⟩) (fun p=>ats.length-p.i) ⟨0,by omega⟩ (by dsimp only;rw[←p0];exact(zle 1)) ?_;rintro⟨i,hi⟩;dsimp only;clear p0;have hpt:=fk0 ats i;rcases fp2 i ats.length with hlt|hge
 ·have g1:decide ((i:Int)<((ats.map cd8).length:Int))=true:=by rw[hle];simpa using hlt
  have hx0:=fp1 hlt;generalize ats[i]=x at hx0;have hx:=cv3 (f:=cd8) hx0;have hm:=fp3 hx0;have ht:=fm6 x (has x hm);have zt:(bs (atT x)).size≤24000000:=by rw[cb1];exact fg6 (has x hm)
  have zs:(bs (fj8 (ats.take i))).size≤288000012:=by rw[cb1];omega
  have en:P++bs (fj8 (ats.take (i+1)))=P++bs (fj8 (ats.take i))++⟨#[32]⟩++bs (atT x):=by
   rw[fj9 hx0];apply fa8;simp[bs]
  repeat'(first|refine yz ?_|refine yi (cd8 x) hx ?_|refine yp b91 ht ?_)
  refine ac1 ?_;refine⟨⟨i+1,by omega⟩,by dsimp only;omega,?_⟩;dsimp only;rw[en];exact(zle 1)
 ·have g1:decide ((i:Int)<((ats.map cd8).length:Int))=false:=by rw[hle];simp;omega
  rw[fq6 hge]
  exact Ok
set_option maxHeartbeats 4000000 in
theorem fn0(b:PB)(K:List D)(h:TxB b)(hok:OkC b.cl):Ev E 49 [dn5 b K] (.d (.str (bs (lnT b)))):=by
 rcases fl1 h.op with ho|ho|ho|ho|ho|ho|ho|ho|ho|ho|ho
 ·rw[(fl0 b).1 ho];obtain⟨op,⟨vs,ats⟩,cl,e,nm,it,od,sk,lm⟩:=b;dsimp only at ho;clear h hok;subst ho;refine ye1 func49 ntmps49 fun _ _ _=>?_
  exact Ok
 ·rw[fk9 b ho];exact fm9 b K ho h
 ·rw[(fl0 b).2.1 ho];obtain⟨op,⟨vs,ats⟩,cl,e,nm,it,od,sk,lm⟩:=b;dsimp only at ho;clear h hok;subst ho;refine ye1 func49 ntmps49 fun _ _ _=>?_
  exact Ok
 ·rw[(fl0 b).2.2.1 ho];obtain⟨op,⟨vs,ats⟩,cl,e,nm,it,od,sk,lm⟩:=b;dsimp only at ho;clear h hok;subst ho;refine ye1 func49 ntmps49 fun _ _ _=>?_
  exact Ok
 ·have hc:=h.cl ho;have h1:=fj7 hok hc.1 hc.2.1 hc.2.2;have zt:(bs (clT b.cl)).size≤68000000000:=by rw[cb1];exact ey3 hc.2.1
  have y:(⟨#[97,112,112,108,121,32]⟩:ByteArray).size=6:=rfl;rw[fk5 b ho];generalize bs (clT b.cl)=T at*;clear h hok hc;obtain⟨op,⟨vs,ats⟩,⟨ck,copt,cds,cps,cwh,ce,cnm,cit,cod,csk,clm,cst,cns⟩,e,nm,it,od,sk,lm⟩:=b;dsimp only at*;subst ho;refine ye1 func49 ntmps49 fun _ _ _=>?_
  repeat'(first|refine yz ?_|refine yp b92 h1 ?_|exact zD)
 ·have h1:=fh9 (h.e (.inl ho));have zt:(bs (txE b.e)).size≤400000:=by rw[cb1];exact fg3 (h.e (.inl ho))
  have y:(⟨#[102,105,108,116,101,114,32]⟩:ByteArray).size=7:=rfl;rw[fk6 b ho];generalize bs (txE b.e)=T at*;clear h hok;obtain⟨op,⟨vs,ats⟩,cl,e,nm,it,od,sk,lm⟩:=b;dsimp only at*;subst ho;refine ye1 func49 ntmps49 fun _ _ _=>?_
  repeat'(first|refine yz ?_|refine yp b93 h1 ?_|exact zD)
 ·have hi:=h.it (.inl ho);have h1:=fm7 b.it hi.1 hi.2;have zt:(bs (liT (b.it.map itT))).size≤10000001:=by rw[cb1];exact fh1 (fg9 hi.1 hi.2)
  have y:(⟨#[112,114,111,106,101,99,116]⟩:ByteArray).size=7:=rfl;rw[fk3 b ho];generalize bs (liT (b.it.map itT))=T at*;clear h hok hi;obtain⟨op,⟨vs,ats⟩,cl,e,nm,it,od,sk,lm⟩:=b;dsimp only at*;subst ho;refine ye1 func49 ntmps49 fun _ _ _=>?_
  repeat'(first|refine yz ?_|refine yp b94 h1 ?_|exact zD)
 ·have hi:=h.it (.inr ho);have h1:=fm7 b.it hi.1 hi.2;have zt:(bs (liT (b.it.map itT))).size≤10000001:=by rw[cb1];exact fh1 (fg9 hi.1 hi.2)
  have y:(⟨#[103,114,111,117,112]⟩:ByteArray).size=5:=rfl;rw[fk4 b ho];generalize bs (liT (b.it.map itT))=T at*;clear h hok hi;obtain⟨op,⟨vs,ats⟩,cl,e,nm,it,od,sk,lm⟩:=b;dsimp only at*;subst ho;refine ye1 func49 ntmps49 fun _ _ _=>?_
  repeat'(first|refine yz ?_|refine yp b94 h1 ?_|exact zD)
 ·rw[(fl0 b).2.2.2 ho];obtain⟨op,⟨vs,ats⟩,cl,e,nm,it,od,sk,lm⟩:=b;dsimp only at ho;clear h hok;subst ho;refine ye1 func49 ntmps49 fun _ _ _=>?_
  exact Ok
 ·have hd:=h.od ho;have hs:=h.sl ho;have h1:=fm8 b K hd.1 hd.2 hs.1.2 hs.2.2;have zt:(bs (srT b)).size≤601000057:=by rw[cb1];exact fh3 hd.1 hd.2 hs.1.2 hs.2.2
  have y:(⟨#[115,111,114,116]⟩:ByteArray).size=4:=rfl;rw[fk7 b ho];generalize bs (srT b)=T at*;clear h hok hd hs;obtain⟨op,⟨vs,ats⟩,cl,e,nm,it,od,sk,lm⟩:=b;dsimp only at*;subst ho;refine ye1 func49 ntmps49 fun _ _ _=>?_
  repeat'(first|refine yz ?_|refine yp b95 h1 ?_|exact zD)
 ·have h1:=fh9 (h.e (.inr ho));have zt:(bs (txE b.e)).size≤400000:=by rw[cb1];exact fg3 (h.e (.inr ho))
  have y1:(⟨#[117,110,119,105,110,100,32]⟩:ByteArray).size=7:=rfl;have y2:(⟨#[32,65,83,32]⟩:ByteArray).size=4:=rfl;have hs:=h.nm ho;rw[fk8 b ho];generalize bs (txE b.e)=T at*;clear h hok;obtain⟨op,⟨vs,ats⟩,cl,e,nm,it,od,sk,lm⟩:=b;dsimp only at*;subst ho;refine ye1 func49 ntmps49 fun _ _ _=>?_
  repeat'(first|refine yz ?_|refine yp b93 h1 ?_|exact zD)
theorem fn1(d:Nat):bs (List.replicate (2*d) 32)++⟨#[32,32]⟩=bs (List.replicate (2*(d+1)) 32):=by
 rw[show 2*(d+1)=2*d+2 by omega,←List.replicate_append_replicate];apply fa8;simp[bs]
set_option maxHeartbeats 4000000 in
theorem fn2(p:Pl):∀d:Nat,d+dpP p≤2000→szP p≤2000→70000000000*szP p≤140000000000000→alB TxB p→alB (fun b=>OkC b.cl) p→Ev E 27 [dn6 p,.str (bs (List.replicate (2*d) 32))] (.d (.str (bs (plT d p)))):=by
 refine dn4 (P:=fun p=>∀d:Nat,d+dpP p≤2000→szP p≤2000→70000000000*szP p≤140000000000000→alB TxB p→alB (fun b=>OkC b.cl) p→Ev E 27 [dn6 p,.str (bs (List.replicate (2*d) 32))] (.d (.str (bs (plT d p))))) (fun b ks ih d hd hz hz2 ht hok=>?_) p;have hL:=fh5 (.mk b ks) d hd ht;rw[alB]at ht hok;rw[dpP]at hd;rw[szP]at hz hz2 hL;have h1:=fn0 b (ks.map dn6) ht.1 hok.1;have hl1:=fh4 ht.1;have hle:(ks.map dn6).length=ks.length:=Oc
 have hkl:=dq5 ks;have e0:plT d (.mk b ks)=hdT d b++ey4 d ks:=by rw[plT];rfl
 rw[dn9,e0];rw[e0,fp4]at hL;have y:(⟨#[10]⟩:ByteArray).size=1:=rfl;have y2:(⟨#[32,32]⟩:ByteArray).size=2:=rfl;have z1:(bs (List.replicate (2*d) 32)).size≤4000:=by rw[cb1,List.length_replicate];omega
 rw[←cb1]at hl1;have ehd:=fl6 d b;have hrn:=fn1 d
 have ih:∀x∈ks,(d+1)+dpP x≤2000→szP x≤2000→70000000000*szP x≤140000000000000→alB TxB x→alB (fun b=>OkC b.cl) x→Ev E 27 [dn6 x,.str (bs (List.replicate (2*d) 32)++⟨#[32,32]⟩)] (.d (.str (bs (plT (d+1) x)))):=fun x hx=>by
  rw[hrn];exact ih x hx (d+1)
 generalize bs (List.replicate (2*d) 32)=R at*;generalize bs (lnT b)=Lb at*;have p0:R++Lb++⟨#[10]⟩=bs (hdT d b++ey4 d (ks.take 0)):=by rw[←ehd];simp[ey4]
 generalize hdT d b=H at*;refine ye2 func27 ntmps27 fun _ _ _=>?_
 repeat'(first|refine yz ?_|refine yp b49 h1 ?_)
 refine ac7 (α:=ec7 ks.length) (fun p=>⟨[(5,.d (.str (bs (H++ey4 d (ks.take p.i))))),(1,.d (.str R)),(2,.ptr 0 0),(6,.d (.int p.i))],[ed9 b (ks.map dn6)]⟩) (fun p=>ks.length-p.i) ⟨0,by omega⟩ (by dsimp only;rw[←p0];exact(zle 1)) ?_;rintro⟨i,hi⟩;dsimp only;clear p0 ehd;have hpt:=fl5 d ks i;rcases fp2 i ks.length with hlt|hge
 ·have g1:decide ((i:Int)<((ks.map dn6).length:Int))=true:=by rw[hle];simpa using hlt
  have hx0:=fp1 hlt;generalize ks[i]=x at hx0;have hx:=cv3 (f:=dn6) hx0;have hm:=fp3 hx0;have hsx:=dq3 hm;have hdx:=dq4 hm;have hc:=ih x hm Oa Oa Oa (ea7 ht.2 x hm) (ea7 hok.2 x hm);have hpt2:=fl5 d ks (i+1);have htk:=fl4 d hx0;rw[htk,fp4]at hpt2
  have z2:(bs (H++ey4 d (ks.take i))).size+(bs (plT (d+1) x)).size≤140000000000000:=by
   rw[cb1,cb1,fp4];omega
  have en:bs (H++ey4 d (ks.take (i+1)))=bs (H++ey4 d (ks.take i))++bs (plT (d+1) x):=by
   rw[htk];apply fa8;simp[bs]
  generalize bs (plT (d+1) x)=T at*;generalize bs (H++ey4 d (ks.take i))=S at*;rw[ec8]at hx hc
  repeat'(first|refine yz ?_|refine qI (dn5 x.b (x.ks.map dn6)) rfl (ap1 rfl) rfl rfl rfl rfl rfl rfl Oh hx ?_|refine yp b27 hc ?_)
  refine ac1 ?_;refine⟨⟨i+1,by omega⟩,by dsimp only;omega,?_⟩;dsimp only;rw[en];exact(zle 1)
 ·have g1:decide ((i:Int)<((ks.map dn6).length:Int))=false:=by rw[hle];simp;omega
  rw[fq6 hge]
  exact Ok
theorem fn3(p:Pl)(hb:bg5 (dn6 p)≤1048576)(hw:wtP p≤1500):Ev E 16 [dn6 p] (.tup [.str (rTP p),.int (dq2 p).2]):=Ev.fit fun hfit=>by
 have hf:=hfit (dn6 p) Oc;have hv:=et7 p;have hzw:=et8 p;have k1:=es1 p hb Oa;unfold rTP
 cases hc:(dq2 p).2 !=0 with
 |true=>
  rw[cond_true];obtain⟨b,ks⟩:=p;rw[dn9]at k1 ⊢;generalize dq2 (.mk b ks)=ck at*;clear hf hfit;refine ye1 func16 ntmps16 fun _ _ _=>?_
  repeat'(first|refine yz ?_|refine yp b11 k1 ?_|exact zL)
 |false=>
  have hc0:(dq2 p).2=0:=by simpa using hc
  obtain⟨hd,hz,hcf,-⟩:=dr0 hc0;have h2:=fn2 p 0 Oa hz Oa (fg2 p hf hb hw hcf) (fl8 p hb);rw[show bs (List.replicate (2*0) 32)=⟨#[]⟩from rfl]at h2;rw[hc0]at k1 ⊢;rw[cond_false];obtain⟨b,ks⟩:=p;rw[dn9]at k1 h2 ⊢;generalize bs (plT 0 (.mk b ks))=T at*;generalize(dq2 (.mk b ks)).1=c1 at*;clear hf hfit hd hz hcf hc hc0;refine ye1 func16 ntmps16 fun _ _ _=>?_
  repeat'(first|refine yz ?_|refine yp b11 k1 ?_|refine yp b27 h2 ?_|exact zL)
theorem law_texts35(hlv:Ev E 9 [] (.d (.bool true)))(p:Pl)(h:bg6 [dn6 p]≤1048576):Ev E 4 [dn6 p] (.d (.bool true)):=by
 have h0:bg5 (dn6 p)≤1048576:=by rw[bg6,bg6]at h;omega
 have hw:=eu8 p h0;obtain⟨b,ks⟩:=p
 cases c1:decide ((wtP (.mk b ks):Int)>1500)with
 |true=>
  rw[dn9]at hw ⊢;generalize wtP (.mk b ks)=w at*;refine ye1 func4 ntmps4 fun _ _ _=>?_
  repeat'(first|refine yz ?_|refine yp b8 hw ?_|refine yp b9 hlv ?_|exact zD)
 |false=>
  have hwt:wtP (.mk b ks)≤1500:=by have:=of_decide_eq_false c1;omega
  have k1:=fl9 (.mk b ks) h0 hwt;have k2:=fn3 (.mk b ks) h0 hwt;have g1:((rTP (.mk b ks)).toList==(rTP (.mk b ks)).toList)=true:=beq_self_eq_true _;have g2:((dq2 (.mk b ks)).2==(dq2 (.mk b ks)).2)=true:=beq_self_eq_true _;rw[dn9]at hw k1 k2 ⊢;generalize wtP (.mk b ks)=w at*;generalize(dq2 (.mk b ks)).2=ck at*;generalize rTP (.mk b ks)=S at*;refine ye1 func4 ntmps4 fun _ _ _=>?_
  repeat'(first|refine yz ?_|refine yp b8 hw ?_|refine yp b9 hlv ?_|refine yp b15 k1 ?_|refine yp b16 k2 ?_|refine yx ?_|exact zD)
end Go.Proofs.YtndgolmgaenlfaaGreatDoor
