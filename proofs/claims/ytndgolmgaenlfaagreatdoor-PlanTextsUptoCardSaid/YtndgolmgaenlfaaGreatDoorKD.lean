/- As each says. -/
import Derived.Test.YtndgolmgaenlfaaGreatDoorCA
import Derived.Test.YtndgolmgaenlfaaGreatDoorMA
import Derived.Test.YtndgolmgaenlfaaGreatDoorGC
import Derived.Test.YtndgolmgaenlfaaGreatDoorCB
import Derived.Test.YtndgolmgaenlfaaGreatDoorFA
set_option linter.unusedVariables false
set_option linter.unusedSimpArgs false
namespace Go.Proofs.YtndgolmgaenlfaaGreatDoor
set_option maxRecDepth 4000
open Go Go.Abs Go.Val Go.RowKit Go.Proofs.Tryz
attribute [local irreducible] go SGo an1 Ev au8 EvO EvS RGo
theorem ep5(x:Int)(r:List Int):cs0 (x::r)=bif x !=0 then x else cs0 r:=rfl
theorem ep6:∀l:List ByteArray,cs0 (l.map cs1)=bif l.all cn4 then 0 else 6
 |[]=>rfl
 |s::r=>by
  rw[fs1,ep5,ep6 r,ft3];unfold cs1
  cases cn4 s<;>rfl
structure SFr{α:Type}(l:List α)(f:α→List Int)(R:List Int) where
 i:Nat
 hi:i≤l.length
 ok:cs0 (l.flatMap f++R)=cs0 ((l.drop i).flatMap f++R)
def p1F(c:CL)(x:PA):List Int:=[cr4 x (c.k==5)]
def p2F(x:Ex):List Int:=[co8 x]
def p3F(x:IT):List Int:=[co8 x.e,cs1 x.asn]
def p4F(x:SK):List Int:=[co8 x.e]
def p5F(x:SIt):List Int:=[cr9 x]
def r5F(c:CL):List Int:=c.st.flatMap p5F++c.ns.map cs1
def r4F(c:CL):List Int:=c.od.flatMap p4F++r5F c
def r3F(c:CL):List Int:=c.it.flatMap p3F++r4F c
def rEF(c:CL):List Int:=(bif c.k==2 then [co8 c.e,cs1 c.nm]else [])++r3F c
def r2F(c:CL):List Int:=c.wh.flatMap p2F++rEF c
def r1F(c:CL):List Int:=c.ps.flatMap (p1F c)++r2F c
theorem ep7{α:Type}(g:α→Int):∀l:List α,l.flatMap (fun x=>[g x])=l.map g
 |[]=>rfl
 |x::r=>by rw[fs2,ep7 g r];rfl
theorem r1_eq(c:CL):cs0 (r1F c)=a7F c:=by
 rw[eh2];congr 1;unfold r1F r2F rEF r3F r4F r5F p1F p2F p3F p4F p5F;rw[ep7,ep7,ep7,ep7];simp only[fs0]
set_option maxHeartbeats 8000000 in
theorem ep8(c:CL)(hok:OkC c):Ev E 214 [cp8 c] (.d (.int (cs0 (r1F c)))):=Ev.fit fun hfit=>by
 have hkp:=hok.p;have hkw:=hok.w;have hke:=cp0 c.e hok.e.1 hok.e.2;have hki:=hok.i;have hko:=hok.o;have hks:=hok.s;have l1:(c.ps.map cp4).length=c.ps.length:=Oc
 have l2:(by5 c.wh).length=c.wh.length:=bz2 _;have l3:(c.it.map cp5).length=c.it.length:=Oc
 have l4:(c.od.map cp6).length=c.od.length:=Oc
 have l5:(c.st.map cp7).length=c.st.length:=Oc
 have hft:=hfit (cp8 c) Oc;have m1:=(cv4 (hft.aggs (.sl (c.ps.map cp4)) Oc)).1;have m2:=(bz4 (hft.aggs (.sl (by5 c.wh)) Oc)).1;have m3:=(cv4 (hft.aggs (.sl (c.it.map cp5)) Oc)).1;have m4:=(cv4 (hft.aggs (.sl (c.od.map cp6)) Oc)).1;have m5:=(cv4 (hft.aggs (.sl (c.st.map cp7)) Oc)).1;have hwd:=cn7 c.nm;have hws:=ds5 c.ns;have e5:r5F c=c.st.flatMap p5F++c.ns.map cs1:=rfl;have e4:r4F c=c.od.flatMap p4F++r5F c:=rfl;have e3:r3F c=c.it.flatMap p3F++r4F c:=rfl;have eE:rEF c=(bif c.k==2 then [co8 c.e,cs1 c.nm]else [])++r3F c:=rfl;have e2:r2F c=c.wh.flatMap p2F++rEF c:=rfl;have e1:r1F c=c.ps.flatMap (p1F c)++r2F c:=rfl;obtain⟨f1,hf1⟩:∃f,p1F c=f:=⟨_,rfl⟩;have hf1':∀x,f1 x=[cr4 x (c.k==5)]:=by intro x;rw[←hf1];rfl
 rw[hf1]at e1;clear hf1 hok hfit hft;rw[e1];generalize r2F c=R2 at*;generalize rEF c=RE at*;generalize r3F c=R3 at*;generalize r4F c=R4 at*;generalize r5F c=R5 at*;obtain⟨k,opt,ds,ps,wh,e,nm,it,od,sk,lm,st,ns⟩:=c;dsimp only at*;refine ye1 func214 ntmps214 fun _ _ _=>?_
 repeat'(refine yz ?_)
 refine ac7 (α:=SFr ps f1 R2) (fun p=>⟨[(1,.ptr 0 0),(3,.d (.int p.i))],[oCL ⟨k,opt,ds,ps,wh,e,nm,it,od,sk,lm,st,ns⟩]⟩) (fun p=>ps.length-p.i) ⟨0,by omega,rfl⟩ (zle 1) ?_;rintro⟨i,hi,ok⟩;dsimp only at ok ⊢;rcases fp2 i ps.length with hlt|hge
 ·have g1:decide ((i:Int)<((ps.map cp4).length:Int))=true:=by rw[l1];simpa using hlt
  have hx0:=fp1 hlt;generalize ps[i]=x at hx0;have hx:=cv3 (f:=cp4) hx0;have hm:=fp3 hx0;rw[cv2 hx0,fs2]at ok;have h1:=du2 x (k==5) (hkp x hm);rw[hf1']at ok;rw [fy4, fs9, ep5] at ok
  cases hy:(cr4 x (k==5)) !=0 with
  |true=>
   rw[hy,cond_true]at ok;rw[ok]
   repeat'(first|refine yz ?_|refine yi (cp4 x) hx ?_|refine yp b273 h1 ?_|exact zD)
  |false=>
   rw[hy,cond_false]at ok
   repeat'(first|refine yz ?_|refine yi (cp4 x) hx ?_|refine yp b273 h1 ?_)
   refine ac1 ?_;exact⟨⟨i+1,by omega,ok⟩,by dsimp only;omega,(zle 1)⟩
 ·have g1:decide ((i:Int)<((ps.map cp4).length:Int))=false:=by rw[l1];simp;omega
  rw[fp8 hge,fx1,fr8]at ok;rw[ok];clear ok hi hge;rw[e2]
  repeat'(refine yz ?_)
  refine ac7 (α:=SFr wh p2F RE) (fun p=>⟨[(1,.ptr 0 0),(5,.d (.int p.i))],[oCL ⟨k,opt,ds,ps,wh,e,nm,it,od,sk,lm,st,ns⟩]⟩) (fun p=>wh.length-p.i) ⟨0,by omega,rfl⟩ (zle 1) ?_;rintro⟨i,hi,ok⟩;dsimp only at ok ⊢;rcases fp2 i wh.length with hlt|hge
  ·have g1:decide ((i:Int)<((by5 wh).length:Int))=true:=by rw[l2];simpa using hlt
   have hx0:=fp1 hlt;generalize wh[i]=x at hx0;have hx:=(show(by5 wh)[((i:Nat):Int).toNat]? =some (by6 x) by rw[fr2];exact bz0 hx0);have hm:=fp3 hx0;rw[cv2 hx0,fs2]at ok;have h1:=cp0 x (hkw x hm).1 (hkw x hm).2;rw[show p2F x=[co8 x]from rfl]at ok;rw [fy4, fs9, ep5] at ok
   cases hy:(co8 x) !=0 with
   |true=>
    rw[hy,cond_true]at ok;rw[ok]
    repeat'(first|refine yz ?_|refine yi (by6 x) hx ?_|refine yp b76 h1 ?_|exact zD)
   |false=>
    rw[hy,cond_false]at ok
    repeat'(first|refine yz ?_|refine yi (by6 x) hx ?_|refine yp b76 h1 ?_)
    refine ac1 ?_;exact⟨⟨i+1,by omega,ok⟩,by dsimp only;omega,(zle 1)⟩
  ·have g1:decide ((i:Int)<((by5 wh).length:Int))=false:=by rw[l2];simp;omega
   rw[fp8 hge,fx1,fr8]at ok;rw[ok];clear ok hi hge;rw[eE]
   cases hk2:k==2 with
   |true=>
    rw[cond_true,fs9,fs9,fr8,ep5,ep5];unfold cs1
    cases hy:co8 e !=0 with
    |true=>
     rw[cond_true]
     repeat'(first|refine yz ?_|refine yp b76 hke ?_|exact zD)
    |false=>
     rw[cond_false]
     cases hw:cn4 nm with
     |false=>
      rw[hw]at hwd;rw[cond_false,show((6:Int) !=0)=true from rfl,cond_true]
      repeat'(first|refine yz ?_|refine yp b76 hke ?_|refine yp b77 hwd ?_|exact zD)
     |true=>
      rw[hw]at hwd;rw[cond_true,show((0:Int) !=0)=false from rfl,cond_false]
      repeat'(first|refine yz ?_|refine yp b76 hke ?_|refine yp b77 hwd ?_)
      rw[e3];refine ac7 (α:=SFr it p3F R4) (fun p=>⟨[(1,.ptr 0 0),(8,.d (.int p.i))],[oCL ⟨k,opt,ds,ps,wh,e,nm,it,od,sk,lm,st,ns⟩]⟩) (fun p=>it.length-p.i) ⟨0,by omega,rfl⟩ (zle 1) ?_;rintro⟨i,hi,ok⟩;dsimp only at ok ⊢;rcases fp2 i it.length with hlt|hge
      ·have g1:decide ((i:Int)<((it.map cp5).length:Int))=true:=by rw[l3];simpa using hlt
       have hx0:=fp1 hlt;generalize it[i]=x at hx0;have hx:=cv3 (f:=cp5) hx0;have hm:=fp3 hx0;rw[cv2 hx0,fs2]at ok;have h1:=cp0 x.e (hki x hm).1 (hki x hm).2;rw[show p3F x=[co8 x.e,cs1 x.asn]from rfl]at ok;simp only [fs9, fr8, ep5] at ok
       cases hy:(co8 x.e) !=0 with
       |true=>
        rw[hy,cond_true]at ok;rw[ok]
        repeat'(first|refine yz ?_|refine yi (cp5 x) hx ?_|refine bj8 9 rfl rfl rfl rfl rfl rfl ?_|refine yp b76 h1 ?_|exact zD)
       |false=>
        rw[hy,cond_false]at ok;have h3:=cn7 x.asn;unfold cs1 at ok
        cases hw:cn4 x.asn with
        |true=>
         rw[hw]at ok h3;rw[cond_true,show((0:Int) !=0)=false from rfl,cond_false]at ok
         repeat'(first|refine yz ?_|refine yi (cp5 x) hx ?_|refine bj8 9 rfl rfl rfl rfl rfl rfl ?_|refine yp b76 h1 ?_|refine yp b77 h3 ?_)
         refine ac1 ?_;exact⟨⟨i+1,by omega,ok⟩,by dsimp only;omega,(zle 1)⟩
        |false=>
         rw[hw]at ok h3;rw[cond_false,show((6:Int) !=0)=true from rfl,cond_true]at ok;rw[ok]
         repeat'(first|refine yz ?_|refine yi (cp5 x) hx ?_|refine bj8 9 rfl rfl rfl rfl rfl rfl ?_|refine yp b76 h1 ?_|refine yp b77 h3 ?_|exact zD)
      ·have g1:decide ((i:Int)<((it.map cp5).length:Int))=false:=by rw[l3];simp;omega
       rw[fp8 hge,fx1,fr8]at ok;rw[ok];clear ok hi hge;rw[e4]
       repeat'(refine yz ?_)
       refine ac7 (α:=SFr od p4F R5) (fun p=>⟨[(1,.ptr 0 0),(10,.d (.int p.i))],[oCL ⟨k,opt,ds,ps,wh,e,nm,it,od,sk,lm,st,ns⟩]⟩) (fun p=>od.length-p.i) ⟨0,by omega,rfl⟩ (zle 1) ?_;rintro⟨i,hi,ok⟩;dsimp only at ok ⊢;rcases fp2 i od.length with hlt|hge
       ·have g1:decide ((i:Int)<((od.map cp6).length:Int))=true:=by rw[l4];simpa using hlt
        have hx0:=fp1 hlt;generalize od[i]=x at hx0;have hx:=cv3 (f:=cp6) hx0;have hm:=fp3 hx0;rw[cv2 hx0,fs2]at ok;have h1:=cp0 x.e (hko x hm).1 (hko x hm).2;rw[show p4F x=[co8 x.e]from rfl]at ok;rw [fy4, fs9, ep5] at ok
        cases hy:(co8 x.e) !=0 with
        |true=>
         rw[hy,cond_true]at ok;rw[ok]
         repeat'(first|refine yz ?_|refine yi (cp6 x) hx ?_|refine bj8 9 rfl rfl rfl rfl rfl rfl ?_|refine yp b76 h1 ?_|exact zD)
        |false=>
         rw[hy,cond_false]at ok
         repeat'(first|refine yz ?_|refine yi (cp6 x) hx ?_|refine bj8 9 rfl rfl rfl rfl rfl rfl ?_|refine yp b76 h1 ?_)
         refine ac1 ?_;exact⟨⟨i+1,by omega,ok⟩,by dsimp only;omega,(zle 1)⟩
       ·have g1:decide ((i:Int)<((od.map cp6).length:Int))=false:=by rw[l4];simp;omega
        rw[fp8 hge,fx1,fr8]at ok;rw[ok];clear ok hi hge;rw[e5]
        repeat'(refine yz ?_)
        refine ac7 (α:=SFr st p5F (ns.map cs1)) (fun p=>⟨[(1,.ptr 0 0),(12,.d (.int p.i))],[oCL ⟨k,opt,ds,ps,wh,e,nm,it,od,sk,lm,st,ns⟩]⟩) (fun p=>st.length-p.i) ⟨0,by omega,rfl⟩ (zle 1) ?_;rintro⟨i,hi,ok⟩;dsimp only at ok ⊢;rcases fp2 i st.length with hlt|hge
        ·have g1:decide ((i:Int)<((st.map cp7).length:Int))=true:=by rw[l5];simpa using hlt
         have hx0:=fp1 hlt;generalize st[i]=x at hx0;have hx:=cv3 (f:=cp7) hx0;have hm:=fp3 hx0;rw[cv2 hx0,fs2]at ok;have h1:=ee8 x (hks x hm);rw[show p5F x=[cr9 x]from rfl]at ok;rw [fy4, fs9, ep5] at ok
         cases hy:(cr9 x) !=0 with
         |true=>
          rw[hy,cond_true]at ok;rw[ok]
          repeat'(first|refine yz ?_|refine yi (cp7 x) hx ?_|refine yp b274 h1 ?_|exact zD)
         |false=>
          rw[hy,cond_false]at ok
          repeat'(first|refine yz ?_|refine yi (cp7 x) hx ?_|refine yp b274 h1 ?_)
          refine ac1 ?_;exact⟨⟨i+1,by omega,ok⟩,by dsimp only;omega,(zle 1)⟩
        ·have g1:decide ((i:Int)<((st.map cp7).length:Int))=false:=by rw[l5];simp;omega
         rw[fp8 hge,fx1,fr8]at ok;rw[ok];clear ok hi hge;rw[ep6]
         cases hn:ns.all cn4 with
         |true=>
          rw[hn]at hws
          repeat'(first|refine yz ?_|refine yp bs0 hws ?_|exact zD)
         |false=>
          rw[hn]at hws
          repeat'(first|refine yz ?_|refine yp bs0 hws ?_|exact zD)
   |false=>
    rw[cond_false,fr8]
    repeat'(refine yz ?_)
    rw[e3];refine ac7 (α:=SFr it p3F R4) (fun p=>⟨[(1,.ptr 0 0),(8,.d (.int p.i))],[oCL ⟨k,opt,ds,ps,wh,e,nm,it,od,sk,lm,st,ns⟩]⟩) (fun p=>it.length-p.i) ⟨0,by omega,rfl⟩ (zle 1) ?_;rintro⟨i,hi,ok⟩;dsimp only at ok ⊢;rcases fp2 i it.length with hlt|hge
    ·have g1:decide ((i:Int)<((it.map cp5).length:Int))=true:=by rw[l3];simpa using hlt
     have hx0:=fp1 hlt;generalize it[i]=x at hx0;have hx:=cv3 (f:=cp5) hx0;have hm:=fp3 hx0;rw[cv2 hx0,fs2]at ok;have h1:=cp0 x.e (hki x hm).1 (hki x hm).2;rw[show p3F x=[co8 x.e,cs1 x.asn]from rfl]at ok;simp only [fs9, fr8, ep5] at ok
     cases hy:(co8 x.e) !=0 with
     |true=>
      rw[hy,cond_true]at ok;rw[ok]
      repeat'(first|refine yz ?_|refine yi (cp5 x) hx ?_|refine bj8 9 rfl rfl rfl rfl rfl rfl ?_|refine yp b76 h1 ?_|exact zD)
     |false=>
      rw[hy,cond_false]at ok;have h3:=cn7 x.asn;unfold cs1 at ok
      cases hw:cn4 x.asn with
      |true=>
       rw[hw]at ok h3;rw[cond_true,show((0:Int) !=0)=false from rfl,cond_false]at ok
       repeat'(first|refine yz ?_|refine yi (cp5 x) hx ?_|refine bj8 9 rfl rfl rfl rfl rfl rfl ?_|refine yp b76 h1 ?_|refine yp b77 h3 ?_)
       refine ac1 ?_;exact⟨⟨i+1,by omega,ok⟩,by dsimp only;omega,(zle 1)⟩
      |false=>
       rw[hw]at ok h3;rw[cond_false,show((6:Int) !=0)=true from rfl,cond_true]at ok;rw[ok]
       repeat'(first|refine yz ?_|refine yi (cp5 x) hx ?_|refine bj8 9 rfl rfl rfl rfl rfl rfl ?_|refine yp b76 h1 ?_|refine yp b77 h3 ?_|exact zD)
    ·have g1:decide ((i:Int)<((it.map cp5).length:Int))=false:=by rw[l3];simp;omega
     rw[fp8 hge,fx1,fr8]at ok;rw[ok];clear ok hi hge;rw[e4]
     repeat'(refine yz ?_)
     refine ac7 (α:=SFr od p4F R5) (fun p=>⟨[(1,.ptr 0 0),(10,.d (.int p.i))],[oCL ⟨k,opt,ds,ps,wh,e,nm,it,od,sk,lm,st,ns⟩]⟩) (fun p=>od.length-p.i) ⟨0,by omega,rfl⟩ (zle 1) ?_;rintro⟨i,hi,ok⟩;dsimp only at ok ⊢;rcases fp2 i od.length with hlt|hge
     ·have g1:decide ((i:Int)<((od.map cp6).length:Int))=true:=by rw[l4];simpa using hlt
      have hx0:=fp1 hlt;generalize od[i]=x at hx0;have hx:=cv3 (f:=cp6) hx0;have hm:=fp3 hx0;rw[cv2 hx0,fs2]at ok;have h1:=cp0 x.e (hko x hm).1 (hko x hm).2;rw[show p4F x=[co8 x.e]from rfl]at ok;rw [fy4, fs9, ep5] at ok
      cases hy:(co8 x.e) !=0 with
      |true=>
       rw[hy,cond_true]at ok;rw[ok]
       repeat'(first|refine yz ?_|refine yi (cp6 x) hx ?_|refine bj8 9 rfl rfl rfl rfl rfl rfl ?_|refine yp b76 h1 ?_|exact zD)
      |false=>
       rw[hy,cond_false]at ok
       repeat'(first|refine yz ?_|refine yi (cp6 x) hx ?_|refine bj8 9 rfl rfl rfl rfl rfl rfl ?_|refine yp b76 h1 ?_)
       refine ac1 ?_;exact⟨⟨i+1,by omega,ok⟩,by dsimp only;omega,(zle 1)⟩
     ·have g1:decide ((i:Int)<((od.map cp6).length:Int))=false:=by rw[l4];simp;omega
      rw[fp8 hge,fx1,fr8]at ok;rw[ok];clear ok hi hge;rw[e5]
      repeat'(refine yz ?_)
      refine ac7 (α:=SFr st p5F (ns.map cs1)) (fun p=>⟨[(1,.ptr 0 0),(12,.d (.int p.i))],[oCL ⟨k,opt,ds,ps,wh,e,nm,it,od,sk,lm,st,ns⟩]⟩) (fun p=>st.length-p.i) ⟨0,by omega,rfl⟩ (zle 1) ?_;rintro⟨i,hi,ok⟩;dsimp only at ok ⊢;rcases fp2 i st.length with hlt|hge
      ·have g1:decide ((i:Int)<((st.map cp7).length:Int))=true:=by rw[l5];simpa using hlt
       have hx0:=fp1 hlt;generalize st[i]=x at hx0;have hx:=cv3 (f:=cp7) hx0;have hm:=fp3 hx0;rw[cv2 hx0,fs2]at ok;have h1:=ee8 x (hks x hm);rw[show p5F x=[cr9 x]from rfl]at ok;rw [fy4, fs9, ep5] at ok
       cases hy:(cr9 x) !=0 with
       |true=>
        rw[hy,cond_true]at ok;rw[ok]
        repeat'(first|refine yz ?_|refine yi (cp7 x) hx ?_|refine yp b274 h1 ?_|exact zD)
       |false=>
        rw[hy,cond_false]at ok
        repeat'(first|refine yz ?_|refine yi (cp7 x) hx ?_|refine yp b274 h1 ?_)
        refine ac1 ?_;exact⟨⟨i+1,by omega,ok⟩,by dsimp only;omega,(zle 1)⟩
      ·have g1:decide ((i:Int)<((st.map cp7).length:Int))=false:=by rw[l5];simp;omega
       rw[fp8 hge,fx1,fr8]at ok;rw[ok];clear ok hi hge;rw[ep6]
       cases hn:ns.all cn4 with
       |true=>
        rw[hn]at hws
        repeat'(first|refine yz ?_|refine yp bs0 hws ?_|exact zD)
       |false=>
        rw[hn]at hws
        repeat'(first|refine yz ?_|refine yp bs0 hws ?_|exact zD)
theorem ep9{c:CL}(h:ef7 c=false∨ef9 c=true):cr7 c=true:=by
 rw[eg3];rcases h with h|h
 ·rw[h];rfl
 ·rw[h];simp
theorem eq0{c:CL}(h:((decide (c.k<1)||decide (c.k>8))||cr7 c)=true):cs2 c=1:=by unfold cs2;rw[h];rfl
set_option maxHeartbeats 4000000 in
theorem eq1(c:CL)(hok:OkC c):Ev E 136 [cp8 c] (.d (.int (cs2 c))):=by
 have hu:=ef8 c;have hc:=ef0 c;have hp:=ep8 c hok;rw[r1_eq]at hp;have f1:decide (c.k<1)=true→cs2 c=1:=fun h=>eq0 (by rw[h];rfl)
 have f2:decide (c.k>8)=true→cs2 c=1:=fun h=>eq0 (by rw[h];simp)
 have f3:ef7 c=false→cs2 c=1:=fun h=>eq0 (by rw[ep9 (.inl h)];simp)
 have f4:ef9 c=true→cs2 c=1:=fun h=>eq0 (by rw[ep9 (.inr h)];simp)
 unfold ef9 at f4
 have f5:decide (c.k<1)=false→decide (c.k>8)=false→ef7 c=true→ef9 c=false→cr8 c=true→cs2 c=4:=by
  intro h1 h2 h3 h4 h5;unfold cs2;rw[h1,h2,eg3,h3,h4,h5];rfl
 have f6:decide (c.k<1)=false→decide (c.k>8)=false→ef7 c=true→ef9 c=false→cr8 c=false→a7F c=cs2 c:=by
  intro h1 h2 h3 h4 h5;refine(eh3 c ?_ h5).symm;rw[h1,h2,eg3,h3,h4];rfl
 unfold ef9 at f5 f6;obtain⟨u,hu'⟩:∃b,ef7 c=b:=⟨_,rfl⟩;obtain⟨w,hw'⟩:∃b,cr8 c=b:=⟨_,rfl⟩;rw[hu']at hu f3 f5 f6;rw[hw']at hc f5 f6;generalize cs2 c=R at*;generalize a7F c=A at*;clear hu' hw' hok;obtain⟨k,opt,ds,ps,wh,e,nm,it,od,sk,lm,st,ns⟩:=c;dsimp only at*;refine ye1 func136 ntmps136 fun _ _ _=>?_
 repeat'(first|refine yz ?_|refine yp b212 hu ?_|refine yp b213 hc ?_|refine yp b214 hp ?_|(refine yy ?_ ?_<;>intro _)|(refine qV rfl ?_ ?_<;>intro _))
 all_goals(refine congrArg D.int ?_;clear hu hc hp)
 all_goals first|(rw[f1 Of];done)|(rw[f2 Of];done)|(rw[f3 (by simpa using ‹(!u)=true›)];done)|(rw[f4 (by simp_all)];done)|(rw[f5 (by simp_all) (by simp_all) (by simp_all) (by simp_all) (by simp_all)];done)|exact f6 (by simp_all) (by simp_all) (by simp_all) (by simp_all) (by simp_all)|skip
end Go.Proofs.YtndgolmgaenlfaaGreatDoor
