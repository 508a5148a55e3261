/- The check of a clause, by the specification. Conditions: as each says. -/
import Derived.Test.YtndgolmgaenlfaaGreatDoorCA
import Derived.Test.YtndgolmgaenlfaaGreatDoorMA
import Derived.Test.YtndgolmgaenlfaaGreatDoorGC
import Derived.Test.YtndgolmgaenlfaaGreatDoorCB
import Derived.Test.YtndgolmgaenlfaaGreatDoorFA
set_option linter.unusedVariables false
set_option linter.unusedSimpArgs false
namespace Go.Proofs.YtndgolmgaenlfaaGreatDoor
set_option maxRecDepth 4000
open Go Go.Abs Go.Val Go.RowKit Go.Proofs.Tryz
attribute [local irreducible] go SGo an1 Ev au8 EvO EvS RGo
theorem en3(x:Int)(r:List Int):cq8 (x::r)=bif x !=0 then x else cq8 r:=rfl
theorem en4:∀l:List ByteArray,cq8 (l.map cq9)=bif l.all cm2 then 0 else 6
 |[]=>rfl
 |s::r=>by
  rw[fm5,en3,en4 r,fn8];unfold cq9
  cases cm2 s<;>rfl
structure SFr{α:Type}(l:List α)(f:α→List Int)(R:List Int) where
 i:Nat
 hi:i≤l.length
 ok:cq8 (l.flatMap f++R)=cq8 ((l.drop i).flatMap f++R)
def p1F(c:CL)(x:PA):List Int:=[cq2 x (c.k==5)]
def p2F(x:Ex):List Int:=[cn6 x]
def p3F(x:IT):List Int:=[cn6 x.e,cq9 x.asn]
def p4F(x:SK):List Int:=[cn6 x.e]
def p5F(x:SIt):List Int:=[cq7 x]
def r5F(c:CL):List Int:=c.st.flatMap p5F++c.ns.map cq9
def r4F(c:CL):List Int:=c.od.flatMap p4F++r5F c
def r3F(c:CL):List Int:=c.it.flatMap p3F++r4F c
def rEF(c:CL):List Int:=(bif c.k==2 then [cn6 c.e,cq9 c.nm]else [])++r3F c
def r2F(c:CL):List Int:=c.wh.flatMap p2F++rEF c
def r1F(c:CL):List Int:=c.ps.flatMap (p1F c)++r2F c
theorem en5{α:Type}(g:α→Int):∀l:List α,l.flatMap (fun x=>[g x])=l.map g
 |[]=>rfl
 |x::r=>by rw[fm6,en5 g r];rfl
theorem r1_eq(c:CL):cq8 (r1F c)=a7F c:=by
 rw[ef0];congr 1;unfold r1F r2F rEF r3F r4F r5F p1F p2F p3F p4F p5F;rw[en5,en5,en5,en5];simp only[fn7]
set_option maxHeartbeats 8000000 in
theorem en6(c:CL)(hok:OkC c):Ev E 214 [co6 c] (.d (.int (cq8 (r1F c)))):=Ev.fit fun hfit=>by
 have hkp:=hok.p;have hkw:=hok.w;have hke:=cn8 c.e hok.e.1 hok.e.2;have hki:=hok.i;have hko:=hok.o;have hks:=hok.s;have l1:(c.ps.map co2).length=c.ps.length:=Oc
 have l2:(by0 c.wh).length=c.wh.length:=by7 _;have l3:(c.it.map co3).length=c.it.length:=Oc
 have l4:(c.od.map co4).length=c.od.length:=Oc
 have l5:(c.st.map co5).length=c.st.length:=Oc
 have hft:=hfit (co6 c) Oc;have m1:=(ct4 (hft.aggs (.sl (c.ps.map co2)) Oc)).1;have m2:=(by9 (hft.aggs (.sl (by0 c.wh)) Oc)).1;have m3:=(ct4 (hft.aggs (.sl (c.it.map co3)) Oc)).1;have m4:=(ct4 (hft.aggs (.sl (c.od.map co4)) Oc)).1;have m5:=(ct4 (hft.aggs (.sl (c.st.map co5)) Oc)).1;have hwd:=cm5 c.nm;have hws:=dq5 c.ns;have e5:r5F c=c.st.flatMap p5F++c.ns.map cq9:=rfl;have e4:r4F c=c.od.flatMap p4F++r5F c:=rfl;have e3:r3F c=c.it.flatMap p3F++r4F c:=rfl;have eE:rEF c=(bif c.k==2 then [cn6 c.e,cq9 c.nm]else [])++r3F c:=rfl;have e2:r2F c=c.wh.flatMap p2F++rEF c:=rfl;have e1:r1F c=c.ps.flatMap (p1F c)++r2F c:=rfl;obtain⟨f1,hf1⟩:∃f,p1F c=f:=⟨_,rfl⟩;have hf1':∀x,f1 x=[cq2 x (c.k==5)]:=by intro x;rw[←hf1];rfl
 rw[hf1]at e1;clear hf1 hok hfit hft;rw[e1];generalize r2F c=R2 at*;generalize rEF c=RE at*;generalize r3F c=R3 at*;generalize r4F c=R4 at*;generalize r5F c=R5 at*;obtain⟨k,opt,ds,ps,wh,e,nm,it,od,sk,lm,st,ns⟩:=c;dsimp only at*;refine ye1 func214 ntmps214 fun _ _ _=>?_
 repeat'(refine yz ?_)
 refine ac7 (α:=SFr ps f1 R2) (fun p=>⟨[(1,.ptr 0 0),(3,.d (.int p.i))],[oCL ⟨k,opt,ds,ps,wh,e,nm,it,od,sk,lm,st,ns⟩]⟩) (fun p=>ps.length-p.i) ⟨0,by omega,rfl⟩ (zle 1) ?_;rintro⟨i,hi,ok⟩;dsimp only at ok ⊢;rcases fj8 i ps.length with hlt|hge
 ·have g1:decide ((i:Int)<((ps.map co2).length:Int))=true:=by rw[l1];simpa using hlt
  have hx0:=fj7 hlt;generalize ps[i]=x at hx0;have hx:=ct3 (f:=co2) hx0;have hm:=fj9 hx0;rw[ct2 hx0,fm6]at ok;have h1:=ds2 x (k==5) (hkp x hm);rw[hf1']at ok;rw [fu0, fn1, en3] at ok
  cases hy:(cq2 x (k==5)) !=0 with
  |true=>
   rw[hy,cond_true]at ok;rw[ok]
   repeat'(first|refine yz ?_|refine yi (co2 x) hx ?_|refine yp b273 h1 ?_|exact zD)
  |false=>
   rw[hy,cond_false]at ok
   repeat'(first|refine yz ?_|refine yi (co2 x) hx ?_|refine yp b273 h1 ?_)
   refine ac1 ?_;exact⟨⟨i+1,by omega,ok⟩,by dsimp only;omega,(zle 1)⟩
 ·have g1:decide ((i:Int)<((ps.map co2).length:Int))=false:=by rw[l1];simp;omega
  rw[fk5 hge,fr6,fm7]at ok;rw[ok];clear ok hi hge;rw[e2]
  repeat'(refine yz ?_)
  refine ac7 (α:=SFr wh p2F RE) (fun p=>⟨[(1,.ptr 0 0),(5,.d (.int p.i))],[oCL ⟨k,opt,ds,ps,wh,e,nm,it,od,sk,lm,st,ns⟩]⟩) (fun p=>wh.length-p.i) ⟨0,by omega,rfl⟩ (zle 1) ?_;rintro⟨i,hi,ok⟩;dsimp only at ok ⊢;rcases fj8 i wh.length with hlt|hge
  ·have g1:decide ((i:Int)<((by0 wh).length:Int))=true:=by rw[l2];simpa using hlt
   have hx0:=fj7 hlt;generalize wh[i]=x at hx0;have hx:=(show(by0 wh)[((i:Nat):Int).toNat]? =some (by1 x) by rw[fm2];exact by5 hx0);have hm:=fj9 hx0;rw[ct2 hx0,fm6]at ok;have h1:=cn8 x (hkw x hm).1 (hkw x hm).2;rw[show p2F x=[cn6 x]from rfl]at ok;rw [fu0, fn1, en3] at ok
   cases hy:(cn6 x) !=0 with
   |true=>
    rw[hy,cond_true]at ok;rw[ok]
    repeat'(first|refine yz ?_|refine yi (by1 x) hx ?_|refine yp b76 h1 ?_|exact zD)
   |false=>
    rw[hy,cond_false]at ok
    repeat'(first|refine yz ?_|refine yi (by1 x) hx ?_|refine yp b76 h1 ?_)
    refine ac1 ?_;exact⟨⟨i+1,by omega,ok⟩,by dsimp only;omega,(zle 1)⟩
  ·have g1:decide ((i:Int)<((by0 wh).length:Int))=false:=by rw[l2];simp;omega
   rw[fk5 hge,fr6,fm7]at ok;rw[ok];clear ok hi hge;rw[eE]
   cases hk2:k==2 with
   |true=>
    rw[cond_true,fn1,fn1,fm7,en3,en3];unfold cq9
    cases hy:cn6 e !=0 with
    |true=>
     rw[cond_true]
     repeat'(first|refine yz ?_|refine yp b76 hke ?_|exact zD)
    |false=>
     rw[cond_false]
     cases hw:cm2 nm with
     |false=>
      rw[hw]at hwd;rw[cond_false,show((6:Int) !=0)=true from rfl,cond_true]
      repeat'(first|refine yz ?_|refine yp b76 hke ?_|refine yp b77 hwd ?_|exact zD)
     |true=>
      rw[hw]at hwd;rw[cond_true,show((0:Int) !=0)=false from rfl,cond_false]
      repeat'(first|refine yz ?_|refine yp b76 hke ?_|refine yp b77 hwd ?_)
      rw[e3];refine ac7 (α:=SFr it p3F R4) (fun p=>⟨[(1,.ptr 0 0),(8,.d (.int p.i))],[oCL ⟨k,opt,ds,ps,wh,e,nm,it,od,sk,lm,st,ns⟩]⟩) (fun p=>it.length-p.i) ⟨0,by omega,rfl⟩ (zle 1) ?_;rintro⟨i,hi,ok⟩;dsimp only at ok ⊢;rcases fj8 i it.length with hlt|hge
      ·have g1:decide ((i:Int)<((it.map co3).length:Int))=true:=by rw[l3];simpa using hlt
       have hx0:=fj7 hlt;generalize it[i]=x at hx0;have hx:=ct3 (f:=co3) hx0;have hm:=fj9 hx0;rw[ct2 hx0,fm6]at ok;have h1:=cn8 x.e (hki x hm).1 (hki x hm).2;rw[show p3F x=[cn6 x.e,cq9 x.asn]from rfl]at ok;simp only [fn1, fm7, en3] at ok
       cases hy:(cn6 x.e) !=0 with
       |true=>
        rw[hy,cond_true]at ok;rw[ok]
        repeat'(first|refine yz ?_|refine yi (co3 x) hx ?_|refine bj8 9 rfl rfl rfl rfl rfl rfl ?_|refine yp b76 h1 ?_|exact zD)
       |false=>
        rw[hy,cond_false]at ok;have h3:=cm5 x.asn;unfold cq9 at ok
        cases hw:cm2 x.asn with
        |true=>
         rw[hw]at ok h3;rw[cond_true,show((0:Int) !=0)=false from rfl,cond_false]at ok
         repeat'(first|refine yz ?_|refine yi (co3 x) hx ?_|refine bj8 9 rfl rfl rfl rfl rfl rfl ?_|refine yp b76 h1 ?_|refine yp b77 h3 ?_)
         refine ac1 ?_;exact⟨⟨i+1,by omega,ok⟩,by dsimp only;omega,(zle 1)⟩
        |false=>
         rw[hw]at ok h3;rw[cond_false,show((6:Int) !=0)=true from rfl,cond_true]at ok;rw[ok]
         repeat'(first|refine yz ?_|refine yi (co3 x) hx ?_|refine bj8 9 rfl rfl rfl rfl rfl rfl ?_|refine yp b76 h1 ?_|refine yp b77 h3 ?_|exact zD)
      ·have g1:decide ((i:Int)<((it.map co3).length:Int))=false:=by rw[l3];simp;omega
       rw[fk5 hge,fr6,fm7]at ok;rw[ok];clear ok hi hge;rw[e4]
       repeat'(refine yz ?_)
       refine ac7 (α:=SFr od p4F R5) (fun p=>⟨[(1,.ptr 0 0),(10,.d (.int p.i))],[oCL ⟨k,opt,ds,ps,wh,e,nm,it,od,sk,lm,st,ns⟩]⟩) (fun p=>od.length-p.i) ⟨0,by omega,rfl⟩ (zle 1) ?_;rintro⟨i,hi,ok⟩;dsimp only at ok ⊢;rcases fj8 i od.length with hlt|hge
       ·have g1:decide ((i:Int)<((od.map co4).length:Int))=true:=by rw[l4];simpa using hlt
        have hx0:=fj7 hlt;generalize od[i]=x at hx0;have hx:=ct3 (f:=co4) hx0;have hm:=fj9 hx0;rw[ct2 hx0,fm6]at ok;have h1:=cn8 x.e (hko x hm).1 (hko x hm).2;rw[show p4F x=[cn6 x.e]from rfl]at ok;rw [fu0, fn1, en3] at ok
        cases hy:(cn6 x.e) !=0 with
        |true=>
         rw[hy,cond_true]at ok;rw[ok]
         repeat'(first|refine yz ?_|refine yi (co4 x) hx ?_|refine bj8 9 rfl rfl rfl rfl rfl rfl ?_|refine yp b76 h1 ?_|exact zD)
        |false=>
         rw[hy,cond_false]at ok
         repeat'(first|refine yz ?_|refine yi (co4 x) hx ?_|refine bj8 9 rfl rfl rfl rfl rfl rfl ?_|refine yp b76 h1 ?_)
         refine ac1 ?_;exact⟨⟨i+1,by omega,ok⟩,by dsimp only;omega,(zle 1)⟩
       ·have g1:decide ((i:Int)<((od.map co4).length:Int))=false:=by rw[l4];simp;omega
        rw[fk5 hge,fr6,fm7]at ok;rw[ok];clear ok hi hge;rw[e5]
        repeat'(refine yz ?_)
        refine ac7 (α:=SFr st p5F (ns.map cq9)) (fun p=>⟨[(1,.ptr 0 0),(12,.d (.int p.i))],[oCL ⟨k,opt,ds,ps,wh,e,nm,it,od,sk,lm,st,ns⟩]⟩) (fun p=>st.length-p.i) ⟨0,by omega,rfl⟩ (zle 1) ?_;rintro⟨i,hi,ok⟩;dsimp only at ok ⊢;rcases fj8 i st.length with hlt|hge
        ·have g1:decide ((i:Int)<((st.map co5).length:Int))=true:=by rw[l5];simpa using hlt
         have hx0:=fj7 hlt;generalize st[i]=x at hx0;have hx:=ct3 (f:=co5) hx0;have hm:=fj9 hx0;rw[ct2 hx0,fm6]at ok;have h1:=ec6 x (hks x hm);rw[show p5F x=[cq7 x]from rfl]at ok;rw [fu0, fn1, en3] at ok
         cases hy:(cq7 x) !=0 with
         |true=>
          rw[hy,cond_true]at ok;rw[ok]
          repeat'(first|refine yz ?_|refine yi (co5 x) hx ?_|refine yp b274 h1 ?_|exact zD)
         |false=>
          rw[hy,cond_false]at ok
          repeat'(first|refine yz ?_|refine yi (co5 x) hx ?_|refine yp b274 h1 ?_)
          refine ac1 ?_;exact⟨⟨i+1,by omega,ok⟩,by dsimp only;omega,(zle 1)⟩
        ·have g1:decide ((i:Int)<((st.map co5).length:Int))=false:=by rw[l5];simp;omega
         rw[fk5 hge,fr6,fm7]at ok;rw[ok];clear ok hi hge;rw[en4]
         cases hn:ns.all cm2 with
         |true=>
          rw[hn]at hws
          repeat'(first|refine yz ?_|refine yp br7 hws ?_|exact zD)
         |false=>
          rw[hn]at hws
          repeat'(first|refine yz ?_|refine yp br7 hws ?_|exact zD)
   |false=>
    rw[cond_false,fm7]
    repeat'(refine yz ?_)
    rw[e3];refine ac7 (α:=SFr it p3F R4) (fun p=>⟨[(1,.ptr 0 0),(8,.d (.int p.i))],[oCL ⟨k,opt,ds,ps,wh,e,nm,it,od,sk,lm,st,ns⟩]⟩) (fun p=>it.length-p.i) ⟨0,by omega,rfl⟩ (zle 1) ?_;rintro⟨i,hi,ok⟩;dsimp only at ok ⊢;rcases fj8 i it.length with hlt|hge
    ·have g1:decide ((i:Int)<((it.map co3).length:Int))=true:=by rw[l3];simpa using hlt
     have hx0:=fj7 hlt;generalize it[i]=x at hx0;have hx:=ct3 (f:=co3) hx0;have hm:=fj9 hx0;rw[ct2 hx0,fm6]at ok;have h1:=cn8 x.e (hki x hm).1 (hki x hm).2;rw[show p3F x=[cn6 x.e,cq9 x.asn]from rfl]at ok;simp only [fn1, fm7, en3] at ok
     cases hy:(cn6 x.e) !=0 with
     |true=>
      rw[hy,cond_true]at ok;rw[ok]
      repeat'(first|refine yz ?_|refine yi (co3 x) hx ?_|refine bj8 9 rfl rfl rfl rfl rfl rfl ?_|refine yp b76 h1 ?_|exact zD)
     |false=>
      rw[hy,cond_false]at ok;have h3:=cm5 x.asn;unfold cq9 at ok
      cases hw:cm2 x.asn with
      |true=>
       rw[hw]at ok h3;rw[cond_true,show((0:Int) !=0)=false from rfl,cond_false]at ok
       repeat'(first|refine yz ?_|refine yi (co3 x) hx ?_|refine bj8 9 rfl rfl rfl rfl rfl rfl ?_|refine yp b76 h1 ?_|refine yp b77 h3 ?_)
       refine ac1 ?_;exact⟨⟨i+1,by omega,ok⟩,by dsimp only;omega,(zle 1)⟩
      |false=>
       rw[hw]at ok h3;rw[cond_false,show((6:Int) !=0)=true from rfl,cond_true]at ok;rw[ok]
       repeat'(first|refine yz ?_|refine yi (co3 x) hx ?_|refine bj8 9 rfl rfl rfl rfl rfl rfl ?_|refine yp b76 h1 ?_|refine yp b77 h3 ?_|exact zD)
    ·have g1:decide ((i:Int)<((it.map co3).length:Int))=false:=by rw[l3];simp;omega
     rw[fk5 hge,fr6,fm7]at ok;rw[ok];clear ok hi hge;rw[e4]
     repeat'(refine yz ?_)
     refine ac7 (α:=SFr od p4F R5) (fun p=>⟨[(1,.ptr 0 0),(10,.d (.int p.i))],[oCL ⟨k,opt,ds,ps,wh,e,nm,it,od,sk,lm,st,ns⟩]⟩) (fun p=>od.length-p.i) ⟨0,by omega,rfl⟩ (zle 1) ?_;rintro⟨i,hi,ok⟩;dsimp only at ok ⊢;rcases fj8 i od.length with hlt|hge
     ·have g1:decide ((i:Int)<((od.map co4).length:Int))=true:=by rw[l4];simpa using hlt
      have hx0:=fj7 hlt;generalize od[i]=x at hx0;have hx:=ct3 (f:=co4) hx0;have hm:=fj9 hx0;rw[ct2 hx0,fm6]at ok;have h1:=cn8 x.e (hko x hm).1 (hko x hm).2;rw[show p4F x=[cn6 x.e]from rfl]at ok;rw [fu0, fn1, en3] at ok
      cases hy:(cn6 x.e) !=0 with
      |true=>
       rw[hy,cond_true]at ok;rw[ok]
       repeat'(first|refine yz ?_|refine yi (co4 x) hx ?_|refine bj8 9 rfl rfl rfl rfl rfl rfl ?_|refine yp b76 h1 ?_|exact zD)
      |false=>
       rw[hy,cond_false]at ok
       repeat'(first|refine yz ?_|refine yi (co4 x) hx ?_|refine bj8 9 rfl rfl rfl rfl rfl rfl ?_|refine yp b76 h1 ?_)
       refine ac1 ?_;exact⟨⟨i+1,by omega,ok⟩,by dsimp only;omega,(zle 1)⟩
     ·have g1:decide ((i:Int)<((od.map co4).length:Int))=false:=by rw[l4];simp;omega
      rw[fk5 hge,fr6,fm7]at ok;rw[ok];clear ok hi hge;rw[e5]
      repeat'(refine yz ?_)
      refine ac7 (α:=SFr st p5F (ns.map cq9)) (fun p=>⟨[(1,.ptr 0 0),(12,.d (.int p.i))],[oCL ⟨k,opt,ds,ps,wh,e,nm,it,od,sk,lm,st,ns⟩]⟩) (fun p=>st.length-p.i) ⟨0,by omega,rfl⟩ (zle 1) ?_;rintro⟨i,hi,ok⟩;dsimp only at ok ⊢;rcases fj8 i st.length with hlt|hge
      ·have g1:decide ((i:Int)<((st.map co5).length:Int))=true:=by rw[l5];simpa using hlt
       have hx0:=fj7 hlt;generalize st[i]=x at hx0;have hx:=ct3 (f:=co5) hx0;have hm:=fj9 hx0;rw[ct2 hx0,fm6]at ok;have h1:=ec6 x (hks x hm);rw[show p5F x=[cq7 x]from rfl]at ok;rw [fu0, fn1, en3] at ok
       cases hy:(cq7 x) !=0 with
       |true=>
        rw[hy,cond_true]at ok;rw[ok]
        repeat'(first|refine yz ?_|refine yi (co5 x) hx ?_|refine yp b274 h1 ?_|exact zD)
       |false=>
        rw[hy,cond_false]at ok
        repeat'(first|refine yz ?_|refine yi (co5 x) hx ?_|refine yp b274 h1 ?_)
        refine ac1 ?_;exact⟨⟨i+1,by omega,ok⟩,by dsimp only;omega,(zle 1)⟩
      ·have g1:decide ((i:Int)<((st.map co5).length:Int))=false:=by rw[l5];simp;omega
       rw[fk5 hge,fr6,fm7]at ok;rw[ok];clear ok hi hge;rw[en4]
       cases hn:ns.all cm2 with
       |true=>
        rw[hn]at hws
        repeat'(first|refine yz ?_|refine yp br7 hws ?_|exact zD)
       |false=>
        rw[hn]at hws
        repeat'(first|refine yz ?_|refine yp br7 hws ?_|exact zD)
theorem en7{c:CL}(h:ed5 c=false∨ed7 c=true):cq5 c=true:=by
 rw[ee1];rcases h with h|h
 ·rw[h];rfl
 ·rw[h];simp
theorem en8{c:CL}(h:((decide (c.k<1)||decide (c.k>8))||cq5 c)=true):cr0 c=1:=by unfold cr0;rw[h];rfl
set_option maxHeartbeats 4000000 in
theorem en9(c:CL)(hok:OkC c):Ev E 136 [co6 c] (.d (.int (cr0 c))):=by
 have hu:=ed6 c;have hc:=ec8 c;have hp:=en6 c hok;rw[r1_eq]at hp;have f1:decide (c.k<1)=true→cr0 c=1:=fun h=>en8 (by rw[h];rfl)
 have f2:decide (c.k>8)=true→cr0 c=1:=fun h=>en8 (by rw[h];simp)
 have f3:ed5 c=false→cr0 c=1:=fun h=>en8 (by rw[en7 (.inl h)];simp)
 have f4:ed7 c=true→cr0 c=1:=fun h=>en8 (by rw[en7 (.inr h)];simp)
 unfold ed7 at f4
 have f5:decide (c.k<1)=false→decide (c.k>8)=false→ed5 c=true→ed7 c=false→cq6 c=true→cr0 c=4:=by
  intro h1 h2 h3 h4 h5;unfold cr0;rw[h1,h2,ee1,h3,h4,h5];rfl
 have f6:decide (c.k<1)=false→decide (c.k>8)=false→ed5 c=true→ed7 c=false→cq6 c=false→a7F c=cr0 c:=by
  intro h1 h2 h3 h4 h5;refine(ef1 c ?_ h5).symm;rw[h1,h2,ee1,h3,h4];rfl
 unfold ed7 at f5 f6;obtain⟨u,hu'⟩:∃b,ed5 c=b:=⟨_,rfl⟩;obtain⟨w,hw'⟩:∃b,cq6 c=b:=⟨_,rfl⟩;rw[hu']at hu f3 f5 f6;rw[hw']at hc f5 f6;generalize cr0 c=R at*;generalize a7F c=A at*;clear hu' hw' hok;obtain⟨k,opt,ds,ps,wh,e,nm,it,od,sk,lm,st,ns⟩:=c;dsimp only at*;refine ye1 func136 ntmps136 fun _ _ _=>?_
 repeat'(first|refine yz ?_|refine yp b212 hu ?_|refine yp b213 hc ?_|refine yp b214 hp ?_|(refine yy ?_ ?_<;>intro _)|(refine qV rfl ?_ ?_<;>intro _))
 all_goals(refine congrArg D.int ?_;clear hu hc hp)
 all_goals first|(rw[f1 Of];done)|(rw[f2 Of];done)|(rw[f3 (by simpa using ‹(!u)=true›)];done)|(rw[f4 (by simp_all)];done)|(rw[f5 (by simp_all) (by simp_all) (by simp_all) (by simp_all) (by simp_all)];done)|exact f6 (by simp_all) (by simp_all) (by simp_all) (by simp_all) (by simp_all)|skip
end Go.Proofs.YtndgolmgaenlfaaGreatDoor
