/- As each says. -/
import Derived.Test.YtndgolmgaenlfaaGreatDoorGC
import Derived.Test.YtndgolmgaenlfaaGreatDoorPB
import Derived.Test.YtndgolmgaenlfaaGreatDoorCA
import Derived.Test.YtndgolmgaenlfaaGreatDoorFA
import Derived.Test.YtndgolmgaenlfaaGreatDoorKE
import Derived.Test.YtndgolmgaenlfaaGreatDoorFB
set_option linter.unusedVariables false
set_option linter.unusedSimpArgs false
namespace Go.Proofs.YtndgolmgaenlfaaGreatDoor
set_option maxRecDepth 4000
open Go Go.Abs Go.Val Go.RowKit Go.Proofs.Tryz
attribute [local irreducible] go SGo an1 Ev au8 EvO EvS RGo RGw PGo
def smT{α:Type}(f:α→Nat):List α→Nat
 |[]=>0
 |x::r=>f x+smT f r
theorem es2{α:Type}(f:α→Nat):∀a b:List α,smT f (a++b)=smT f a+smT f b
 |[],b=>by simp[smT]
 |x::r,b=>by rw[fs9,smT,smT,es2 f r b];omega
theorem es3{α:Type}{f:α→Nat}{l:List α}{i:Nat}{x:α}(h:l[i]? =some x):smT f (l.take (i+1))=smT f (l.take i)+f x:=by
 rw[fs5,h,es2];show _+(f x+0)=_;omega
theorem es4{α:Type}(f:α→Nat)(l:List α)(i:Nat):smT f (l.take i)≤smT f l:=by
 have h:=es2 f (l.take i) (l.drop i);rw[fv5]at h;omega
theorem es5{α:Type}{f:α→Nat}:∀{l:List α} {x:α},x∈l→f x≤smT f l
 |a::r,x,h=>by
  rw[smT];rcases fq1.1 h with rfl|h
  ·omega
  ·have:=es5 (f:=f) h;omega
def es6(p:PA):Nat:=p.ns.length+p.es.length+smT nd (cr3 (cq8 p.ns p.es))+smT (fun e:EP=>e.ty.length+e.ps.length) p.es+smT (fun n:NP=>n.lb.length+n.ps.length) p.ns
def es7(c:CL):Nat:=c.ns.length+nd c.e+smT es6 c.ps+smT nd c.wh+smT (fun x:IT=>nd x.e) c.it+smT (fun x:SK=>nd x.e) c.od+smT (fun x:SIt=>nd x.e) c.st
abbrev es8(c:CL):aa5:=.var 38 (.w (.d (cp8 c)))
structure es9(n:Nat) where
 i:Nat
 hi:i≤n
set_option maxHeartbeats 8000000 in
theorem et0(c:CL)(hs:SmC c)(hb:es7 c≤1000000000):Ev E 20 [cp8 c] (.d (.int (es7 c))):=Ev.fit fun hfit=>by
 have hfc:=(hfit (cp8 c) Oc).aggs;have m1:c.ps.length≤9223372036854775807:=(cv4 (hfc (.sl (c.ps.map cp4)) (by simp[cp8]))).1;have m2:c.wh.length≤9223372036854775807:=(bz4 (hfc (.sl (by5 c.wh)) (by simp[cp8]))).1;have m3:c.it.length≤9223372036854775807:=(cv4 (hfc (.sl (c.it.map cp5)) (by simp[cp8]))).1;have m4:c.od.length≤9223372036854775807:=(cv4 (hfc (.sl (c.od.map cp6)) (by simp[cp8]))).1;have m5:c.st.length≤9223372036854775807:=(cv4 (hfc (.sl (c.st.map cp7)) (by simp[cp8]))).1;have l1:(c.ps.map cp4).length=c.ps.length:=Oc
 have l2:(by5 c.wh).length=c.wh.length:=bz2 _;have l3:(c.it.map cp5).length=c.it.length:=Oc
 have l4:(c.od.map cp6).length=c.od.length:=Oc
 have l5:(c.st.map cp7).length=c.st.length:=Oc
 have l6:(c.ns.map D.str).length=c.ns.length:=Oc
 have hse:=cj8 c.e hs.ok.e.2;have b0:=hb;unfold es7 at b0;clear hfc hfit;refine ye1 func20 ntmps20 fun _ _ _=>?_
 repeat'(first|refine yz ?_|refine yp b21 hse ?_)
 refine ac7 (α:=es9 c.ps.length) (fun s=>⟨[(1,.ptr 0 0),(3,.d (.int ((c.ns.length+nd c.e+smT es6 (c.ps.take s.i):Nat):Int))),(4,.d (.int s.i))],[es8 c]⟩) (fun s=>c.ps.length-s.i) ⟨0,by omega⟩ (by
  dsimp only;rw[show c.ns.length+nd c.e+smT es6 (c.ps.take 0)=c.ns.length+nd c.e by rw[fu6,smT];omega];exact(by
  have eb:((c.ns.map D.str).length:Int)+((nd c.e:Nat):Int)=((c.ns.length+nd c.e:Nat):Int):=by rw[l6];omega
  rw[←eb];exact(zle 1))) ?_
 rintro⟨i4,hi4⟩;dsimp only;have hp4:=es4 es6 c.ps i4;rcases fp2 i4 c.ps.length with hlt4|hge4
 ·have g4:decide ((i4:Int)<((c.ps.map cp4).length:Int))=true:=by rw[l1];simpa using hlt4
  have hx40:=fp1 hlt4;generalize c.ps[i4]=x4 at hx40;have hx4:(c.ps.map cp4)[(i4:Int).toNat]? =some (cp4 x4):=cv3 (f:=cp4) hx40;have hm4:=fp3 hx40;have ht4:=es3 (f:=es6) hx40;have hz4:=es4 es6 c.ps (i4+1);have hok:=hs.ok.p x4 hm4;have hpr:=dt2 x4 hok.x hok.n;have hpm:es6 x4≤smT es6 c.ps:=es5 hm4;unfold es6 at hpm;have q1:(x4.ns.map cp2).length=x4.ns.length:=Oc
  have q2:(x4.es.map cp3).length=x4.es.length:=Oc
  have hoe:=hok.e;obtain⟨B,hB⟩:∃B,B=c.ns.length+nd c.e+smT es6 (c.ps.take i4):=⟨_,rfl⟩;rw[←hB];have hBb:B+es6 x4≤1000000000:=Oa
  unfold es6 at hBb;obtain⟨X,hX⟩:∃X,X=cr3 (cq8 x4.ns x4.es):=⟨_,rfl⟩;have hman:es6 x4=x4.ns.length+x4.es.length+smT nd X+smT (fun e:EP=>e.ty.length+e.ps.length) x4.es+smT (fun n:NP=>n.lb.length+n.ps.length) x4.ns:=by rw[hX];rfl
  rw[←hX]at hpr hoe hBb hpm;have hXl:(X.map by6).length=X.length:=Oc
  have hXm:=hok.x;rw[←hX]at hXm
  repeat'(first|refine yz ?_|refine yi (cp4 x4) hx4 ?_|refine yp b33 hpr ?_)
  refine ac7 (α:=es9 X.length) (fun s=>⟨[(1,.ptr 0 0),(3,.d (.int ((B+x4.ns.length+x4.es.length+smT nd (X.take s.i):Nat):Int))),(6,.d (.int s.i)),(4,.d (.int i4)),(5,.d (.sl (X.map by6)))],[es8 c]⟩) (fun s=>X.length-s.i) ⟨0,by omega⟩ (by
   dsimp only;rw[show B+x4.ns.length+x4.es.length+smT nd (X.take 0)=B+x4.ns.length+x4.es.length by rw[fu6,smT];omega];exact(by
   have eb:((B:Nat):Int)+((x4.ns.map cp2).length:Int)+((x4.es.map cp3).length:Int)=((B+x4.ns.length+x4.es.length:Nat):Int):=by rw[q1,q2];omega
   rw[←eb];exact(zle 1))) ?_
  rintro⟨i6,hi6⟩;dsimp only;have hp6:=es4 nd X i6;rcases fp2 i6 X.length with hlt6|hge6
  ·have g6:decide ((i6:Int)<((X.map by6).length:Int))=true:=by rw[hXl];simpa using hlt6
   have hx60:=fp1 hlt6;generalize X[i6]=x6 at hx60;have hx6:(X.map by6)[(i6:Int).toNat]? =some (by6 x6):=cv3 (f:=by6) hx60;have hm6:=fp3 hx60;have ht6:=es3 (f:=nd) hx60;have hz6:=es4 nd X (i6+1);have hsz:=cj8 x6 (hoe x6 hm6).2
   repeat'(first|refine yz ?_|refine yi (by6 x6) hx6 ?_|refine yp b21 hsz ?_)
   refine ac1 ?_;refine⟨⟨i6+1,by omega⟩,by dsimp only;omega,?_⟩;dsimp only;rw[ht6];rw[show((B+x4.ns.length+x4.es.length+(smT nd (X.take i6)+nd x6):Nat):Int)=((B+x4.ns.length+x4.es.length+smT nd (X.take i6):Nat):Int)+(nd x6:Nat) by omega];exact(zle 1)
  ·have g6:decide ((i6:Int)<((X.map by6).length:Int))=false:=by rw[hXl];simp;omega
   rw[fq6 hge6]
   repeat'(refine yz ?_)
   refine ac7 (α:=es9 x4.es.length) (fun s=>⟨[(1,.ptr 0 0),(3,.d (.int ((B+x4.ns.length+x4.es.length+smT nd X+smT (fun e:EP=>e.ty.length+e.ps.length) (x4.es.take s.i):Nat):Int))),(7,.d (.int s.i)),(4,.d (.int i4))],[es8 c]⟩) (fun s=>x4.es.length-s.i) ⟨0,by omega⟩ (by
    dsimp only;rw[show B+x4.ns.length+x4.es.length+smT nd X+smT (fun e:EP=>e.ty.length+e.ps.length) (x4.es.take 0)=B+x4.ns.length+x4.es.length+smT nd X by rw[fu6,smT];omega];exact(zle 1)) ?_
   rintro⟨i7,hi7⟩;dsimp only;have hp7:=es4 (fun e:EP=>e.ty.length+e.ps.length) x4.es i7;rcases fp2 i7 x4.es.length with hlt7|hge7
   ·have g7:decide ((i7:Int)<((x4.es.map cp3).length:Int))=true:=by rw[q2];simpa using hlt7
    have hx70:=fp1 hlt7;generalize x4.es[i7]=x7 at hx70;have hx7:(x4.es.map cp3)[(i7:Int).toNat]? =some (cp3 x7):=cv3 (f:=cp3) hx70;have hm7:=fp3 hx70;have ht7:=es3 (f:=(fun e:EP=>e.ty.length+e.ps.length)) hx70;have hz7:=es4 (fun e:EP=>e.ty.length+e.ps.length) x4.es (i7+1);have r1:(x7.ty.map D.str).length=x7.ty.length:=Oc
    have r2:(x7.ps.map cp1).length=x7.ps.length:=Oc
    have hx7s:=es5 (f:=(fun e:EP=>e.ty.length+e.ps.length)) hm7
    try dsimp only at hx7s
    repeat'(first|refine yz ?_|refine yi (cp4 x4) hx4 ?_|refine yi (cp3 x7) hx7 ?_)
    refine ac1 ?_;refine⟨⟨i7+1,by omega⟩,by dsimp only;omega,?_⟩;dsimp only;rw[ht7];rw[show((B+x4.ns.length+x4.es.length+smT nd X+(smT (fun e:EP=>e.ty.length+e.ps.length) (x4.es.take i7)+(x7.ty.length+x7.ps.length)):Nat):Int)=((B+x4.ns.length+x4.es.length+smT nd X+smT (fun e:EP=>e.ty.length+e.ps.length) (x4.es.take i7):Nat):Int)+((x7.ty.map D.str).length:Int)+((x7.ps.map cp1).length:Int) by omega];exact(zle 1)
   ·have g7:decide ((i7:Int)<((x4.es.map cp3).length:Int))=false:=by rw[q2];simp;omega
    rw[fq6 hge7]
    repeat'(first|refine yz ?_|refine yi (cp4 x4) hx4 ?_)
    refine ac7 (α:=es9 x4.ns.length) (fun s=>⟨[(1,.ptr 0 0),(3,.d (.int ((B+x4.ns.length+x4.es.length+smT nd X+smT (fun e:EP=>e.ty.length+e.ps.length) x4.es+smT (fun n:NP=>n.lb.length+n.ps.length) (x4.ns.take s.i):Nat):Int))),(8,.d (.int s.i)),(4,.d (.int i4))],[es8 c]⟩) (fun s=>x4.ns.length-s.i) ⟨0,by omega⟩ (by
     dsimp only;rw[show B+x4.ns.length+x4.es.length+smT nd X+smT (fun e:EP=>e.ty.length+e.ps.length) x4.es+smT (fun n:NP=>n.lb.length+n.ps.length) (x4.ns.take 0)=B+x4.ns.length+x4.es.length+smT nd X+smT (fun e:EP=>e.ty.length+e.ps.length) x4.es by rw[fu6,smT];omega];exact(zle 1)) ?_
    rintro⟨i8,hi8⟩;dsimp only;have hp8:=es4 (fun n:NP=>n.lb.length+n.ps.length) x4.ns i8;rcases fp2 i8 x4.ns.length with hlt8|hge8
    ·have g8:decide ((i8:Int)<((x4.ns.map cp2).length:Int))=true:=by rw[q1];simpa using hlt8
     have hx80:=fp1 hlt8;generalize x4.ns[i8]=x8 at hx80;have hx8:(x4.ns.map cp2)[(i8:Int).toNat]? =some (cp2 x8):=cv3 (f:=cp2) hx80;have hm8:=fp3 hx80;have ht8:=es3 (f:=(fun n:NP=>n.lb.length+n.ps.length)) hx80;have hz8:=es4 (fun n:NP=>n.lb.length+n.ps.length) x4.ns (i8+1);have r1:(x8.lb.map D.str).length=x8.lb.length:=Oc
     have r2:(x8.ps.map cp1).length=x8.ps.length:=Oc
     have hx8s:=es5 (f:=(fun n:NP=>n.lb.length+n.ps.length)) hm8
     try dsimp only at hx8s
     repeat'(first|refine yz ?_|refine yi (cp4 x4) hx4 ?_|refine yi (cp2 x8) hx8 ?_)
     refine ac1 ?_;refine⟨⟨i8+1,by omega⟩,by dsimp only;omega,?_⟩;dsimp only;rw[ht8];rw[show((B+x4.ns.length+x4.es.length+smT nd X+smT (fun e:EP=>e.ty.length+e.ps.length) x4.es+(smT (fun n:NP=>n.lb.length+n.ps.length) (x4.ns.take i8)+(x8.lb.length+x8.ps.length)):Nat):Int)=((B+x4.ns.length+x4.es.length+smT nd X+smT (fun e:EP=>e.ty.length+e.ps.length) x4.es+smT (fun n:NP=>n.lb.length+n.ps.length) (x4.ns.take i8):Nat):Int)+((x8.lb.map D.str).length:Int)+((x8.ps.map cp1).length:Int) by omega];exact(zle 1)
    ·have g8:decide ((i8:Int)<((x4.ns.map cp2).length:Int))=false:=by rw[q1];simp;omega
     rw[fq6 hge8]
     repeat'(first|refine yz ?_|refine yi (cp4 x4) hx4 ?_)
     refine ac1 ?_;refine⟨⟨i4+1,by omega⟩,by dsimp only;omega,?_⟩;dsimp only;rw[ht4];rw[show c.ns.length+nd c.e+(smT es6 (c.ps.take i4)+es6 x4)=B+x4.ns.length+x4.es.length+smT nd X+smT (fun e:EP=>e.ty.length+e.ps.length) x4.es+smT (fun n:NP=>n.lb.length+n.ps.length) x4.ns by rw[hman];omega];exact(zle 1)
 ·have g4:decide ((i4:Int)<((c.ps.map cp4).length:Int))=false:=by rw[l1];simp;omega
  rw[fq6 hge4]
  repeat'(refine yz ?_)
  refine ac7 (α:=es9 c.wh.length) (fun s=>⟨[(1,.ptr 0 0),(3,.d (.int ((c.ns.length+nd c.e+smT es6 c.ps+smT nd (c.wh.take s.i):Nat):Int))),(9,.d (.int s.i))],[es8 c]⟩) (fun s=>c.wh.length-s.i) ⟨0,by omega⟩ (by
   dsimp only;rw[show c.ns.length+nd c.e+smT es6 c.ps+smT nd (c.wh.take 0)=c.ns.length+nd c.e+smT es6 c.ps by rw[fu6,smT];omega];exact(zle 1)) ?_
  rintro⟨i9,hi9⟩;dsimp only;have hp9:=es4 nd c.wh i9;rcases fp2 i9 c.wh.length with hlt9|hge9
  ·have g9:decide ((i9:Int)<((by5 c.wh).length:Int))=true:=by rw[l2];simpa using hlt9
   have hx90:=fp1 hlt9;generalize c.wh[i9]=x9 at hx90;have hx9:(by5 c.wh)[(i9:Int).toNat]? =some (by6 x9):=bz0 (by rw[fr2];exact hx90);have hm9:=fp3 hx90;have ht9:=es3 (f:=nd) hx90;have hz9:=es4 nd c.wh (i9+1);have hsz:=cj8 x9 (hs.ok.w x9 hm9).2
   repeat'(first|refine yz ?_|refine yi (by6 x9) hx9 ?_|refine yp b21 hsz ?_)
   refine ac1 ?_;refine⟨⟨i9+1,by omega⟩,by dsimp only;omega,?_⟩;dsimp only;rw[ht9];rw[show((c.ns.length+nd c.e+smT es6 c.ps+(smT nd (c.wh.take i9)+nd x9):Nat):Int)=((c.ns.length+nd c.e+smT es6 c.ps+smT nd (c.wh.take i9):Nat):Int)+(nd x9:Nat) by omega];exact(zle 1)
  ·have g9:decide ((i9:Int)<((by5 c.wh).length:Int))=false:=by rw[l2];simp;omega
   rw[fq6 hge9]
   repeat'(refine yz ?_)
   refine ac7 (α:=es9 c.it.length) (fun s=>⟨[(1,.ptr 0 0),(3,.d (.int ((c.ns.length+nd c.e+smT es6 c.ps+smT nd c.wh+smT (fun x:IT=>nd x.e) (c.it.take s.i):Nat):Int))),(10,.d (.int s.i))],[es8 c]⟩) (fun s=>c.it.length-s.i) ⟨0,by omega⟩ (by
    dsimp only;rw[show c.ns.length+nd c.e+smT es6 c.ps+smT nd c.wh+smT (fun x:IT=>nd x.e) (c.it.take 0)=c.ns.length+nd c.e+smT es6 c.ps+smT nd c.wh by rw[fu6,smT];omega];exact(zle 1)) ?_
   rintro⟨i10,hi10⟩;dsimp only;have hp10:=es4 (fun x:IT=>nd x.e) c.it i10;rcases fp2 i10 c.it.length with hlt10|hge10
   ·have g10:decide ((i10:Int)<((c.it.map cp5).length:Int))=true:=by rw[l3];simpa using hlt10
    have hx100:=fp1 hlt10;generalize c.it[i10]=x10 at hx100;have hx10:(c.it.map cp5)[(i10:Int).toNat]? =some (cp5 x10):=cv3 (f:=cp5) hx100;have hm10:=fp3 hx100;have ht10:=es3 (f:=(fun x:IT=>nd x.e)) hx100;have hz10:=es4 (fun x:IT=>nd x.e) c.it (i10+1);have hsz:=cj8 x10.e (hs.ok.i x10 hm10).2
    repeat'(first|refine yz ?_|refine yi (cp5 x10) hx10 ?_|refine bj8 9 rfl rfl rfl rfl rfl rfl ?_|refine yp b21 hsz ?_)
    refine ac1 ?_;refine⟨⟨i10+1,by omega⟩,by dsimp only;omega,?_⟩;dsimp only;rw[ht10];rw[show((c.ns.length+nd c.e+smT es6 c.ps+smT nd c.wh+(smT (fun x:IT=>nd x.e) (c.it.take i10)+nd x10.e):Nat):Int)=((c.ns.length+nd c.e+smT es6 c.ps+smT nd c.wh+smT (fun x:IT=>nd x.e) (c.it.take i10):Nat):Int)+(nd x10.e:Nat) by omega];exact(zle 1)
   ·have g10:decide ((i10:Int)<((c.it.map cp5).length:Int))=false:=by rw[l3];simp;omega
    rw[fq6 hge10]
    repeat'(refine yz ?_)
    refine ac7 (α:=es9 c.od.length) (fun s=>⟨[(1,.ptr 0 0),(3,.d (.int ((c.ns.length+nd c.e+smT es6 c.ps+smT nd c.wh+smT (fun x:IT=>nd x.e) c.it+smT (fun x:SK=>nd x.e) (c.od.take s.i):Nat):Int))),(11,.d (.int s.i))],[es8 c]⟩) (fun s=>c.od.length-s.i) ⟨0,by omega⟩ (by
     dsimp only;rw[show c.ns.length+nd c.e+smT es6 c.ps+smT nd c.wh+smT (fun x:IT=>nd x.e) c.it+smT (fun x:SK=>nd x.e) (c.od.take 0)=c.ns.length+nd c.e+smT es6 c.ps+smT nd c.wh+smT (fun x:IT=>nd x.e) c.it by rw[fu6,smT];omega];exact(zle 1)) ?_
    rintro⟨i11,hi11⟩;dsimp only;have hp11:=es4 (fun x:SK=>nd x.e) c.od i11;rcases fp2 i11 c.od.length with hlt11|hge11
    ·have g11:decide ((i11:Int)<((c.od.map cp6).length:Int))=true:=by rw[l4];simpa using hlt11
     have hx110:=fp1 hlt11;generalize c.od[i11]=x11 at hx110;have hx11:(c.od.map cp6)[(i11:Int).toNat]? =some (cp6 x11):=cv3 (f:=cp6) hx110;have hm11:=fp3 hx110;have ht11:=es3 (f:=(fun x:SK=>nd x.e)) hx110;have hz11:=es4 (fun x:SK=>nd x.e) c.od (i11+1);have hsz:=cj8 x11.e (hs.ok.o x11 hm11).2
     repeat'(first|refine yz ?_|refine yi (cp6 x11) hx11 ?_|refine bj8 9 rfl rfl rfl rfl rfl rfl ?_|refine yp b21 hsz ?_)
     refine ac1 ?_;refine⟨⟨i11+1,by omega⟩,by dsimp only;omega,?_⟩;dsimp only;rw[ht11];rw[show((c.ns.length+nd c.e+smT es6 c.ps+smT nd c.wh+smT (fun x:IT=>nd x.e) c.it+(smT (fun x:SK=>nd x.e) (c.od.take i11)+nd x11.e):Nat):Int)=((c.ns.length+nd c.e+smT es6 c.ps+smT nd c.wh+smT (fun x:IT=>nd x.e) c.it+smT (fun x:SK=>nd x.e) (c.od.take i11):Nat):Int)+(nd x11.e:Nat) by omega];exact(zle 1)
    ·have g11:decide ((i11:Int)<((c.od.map cp6).length:Int))=false:=by rw[l4];simp;omega
     rw[fq6 hge11]
     repeat'(refine yz ?_)
     refine ac7 (α:=es9 c.st.length) (fun s=>⟨[(1,.ptr 0 0),(3,.d (.int ((c.ns.length+nd c.e+smT es6 c.ps+smT nd c.wh+smT (fun x:IT=>nd x.e) c.it+smT (fun x:SK=>nd x.e) c.od+smT (fun x:SIt=>nd x.e) (c.st.take s.i):Nat):Int))),(12,.d (.int s.i))],[es8 c]⟩) (fun s=>c.st.length-s.i) ⟨0,by omega⟩ (by
      dsimp only;rw[show c.ns.length+nd c.e+smT es6 c.ps+smT nd c.wh+smT (fun x:IT=>nd x.e) c.it+smT (fun x:SK=>nd x.e) c.od+smT (fun x:SIt=>nd x.e) (c.st.take 0)=c.ns.length+nd c.e+smT es6 c.ps+smT nd c.wh+smT (fun x:IT=>nd x.e) c.it+smT (fun x:SK=>nd x.e) c.od by rw[fu6,smT];omega];exact(zle 1)) ?_
     rintro⟨i12,hi12⟩;dsimp only;have hp12:=es4 (fun x:SIt=>nd x.e) c.st i12;rcases fp2 i12 c.st.length with hlt12|hge12
     ·have g12:decide ((i12:Int)<((c.st.map cp7).length:Int))=true:=by rw[l5];simpa using hlt12
      have hx120:=fp1 hlt12;generalize c.st[i12]=x12 at hx120;have hx12:(c.st.map cp7)[(i12:Int).toNat]? =some (cp7 x12):=cv3 (f:=cp7) hx120;have hm12:=fp3 hx120;have ht12:=es3 (f:=(fun x:SIt=>nd x.e)) hx120;have hz12:=es4 (fun x:SIt=>nd x.e) c.st (i12+1);have hsz:=cj8 x12.e (hs.ok.s x12 hm12).2
      repeat'(first|refine yz ?_|refine yi (cp7 x12) hx12 ?_|refine yp b21 hsz ?_)
      refine ac1 ?_;refine⟨⟨i12+1,by omega⟩,by dsimp only;omega,?_⟩;dsimp only;rw[ht12];rw[show((c.ns.length+nd c.e+smT es6 c.ps+smT nd c.wh+smT (fun x:IT=>nd x.e) c.it+smT (fun x:SK=>nd x.e) c.od+(smT (fun x:SIt=>nd x.e) (c.st.take i12)+nd x12.e):Nat):Int)=((c.ns.length+nd c.e+smT es6 c.ps+smT nd c.wh+smT (fun x:IT=>nd x.e) c.it+smT (fun x:SK=>nd x.e) c.od+smT (fun x:SIt=>nd x.e) (c.st.take i12):Nat):Int)+(nd x12.e:Nat) by omega];exact(zle 1)
     ·have g12:decide ((i12:Int)<((c.st.map cp7).length:Int))=false:=by rw[l5];simp;omega
      rw[fq6 hge12];show go _ _ _ (an5 _ _ (.d (.int ((c.ns.length+nd c.e+smT es6 c.ps+smT nd c.wh+smT (fun x:IT=>nd x.e) c.it+smT (fun x:SK=>nd x.e) c.od+smT (fun x:SIt=>nd x.e) c.st:Nat):Int))))
      exact Ok
structure STxT(a b:List ByteArray) where
 i:Nat
 hi:i≤a.length
 ok:a.take i=b.take i
theorem et1(a b:List ByteArray)(hl:a.length≤9223372036854775807):Ev E 12 [.sl (a.map .str),.sl (b.map .str)] (.d (.bool (decide (a=b)))):=by
 have h1:(a.map D.str).length=a.length:=Oc
 have h2:(b.map D.str).length=b.length:=Oc
 cases hc:((a.map D.str).length:Int)==((b.map D.str).length:Int)with
 |false=>
  have g1:(!(((a.map D.str).length:Int)==((b.map D.str).length:Int)))=true:=by rw[hc];rfl
  have hne:=yF (a=b) fun e=>by subst e;simp at hc
  rw[hne];refine ye2 func12 ntmps12 fun _ _ _=>?_
  exact Ok
 |true=>
  have g1:(!(((a.map D.str).length:Int)==((b.map D.str).length:Int)))=false:=by rw[hc];rfl
  have he:a.length=b.length:=by have:=beq_iff_eq.1 hc;rw[h1,h2]at this;omega
  refine ye2 func12 ntmps12 fun _ _ _=>?_
  repeat'(refine yz ?_)
  refine ac7 (α:=STxT a b) (fun s=>⟨[(0,.d (.sl (a.map .str))),(1,.d (.sl (b.map .str))),(5,.d (.int s.i))],[]⟩) (fun s=>a.length-s.i) ⟨0,by omega,rfl⟩ (zle 0) ?_;rintro⟨i,hi,ok⟩;dsimp only;rcases fp2 i a.length with hlt|hge
  ·have g2:decide ((i:Int)<((a.map D.str).length:Int))=true:=by rw[h1];simpa using hlt
   have hx0:=fp1 hlt;have hy0:=fp1 (l:=b) (i:=i) Oa;generalize a[i]=x at hx0;generalize b[i]'Oa=y at hy0;have hx:=cv3 (f:=D.str) hx0;have hy:=cv3 (f:=D.str) hy0
   cases hq:x.toList==y.toList with
   |true=>
    have g3:(!(x.toList==y.toList))=false:=by rw[hq];rfl
    obtain rfl:=cy4 (by simpa using hq:x.toList=y.toList)
    repeat'(first|refine yz ?_|refine yi (.str x) hx ?_|refine yi (.str x) hy ?_)
    refine ac1 ?_;exact⟨⟨i+1,by omega,by rw[fs5,fs5,hx0,hy0,ok]⟩,by dsimp only;omega,(zle 0)⟩
   |false=>
    have g3:(!(x.toList==y.toList))=true:=by rw[hq];rfl
    have hne:=yF (a=b) fun e=>by
     subst e;rw[hx0]at hy0
     cases hy0
     simp at hq
    rw[hne]
    repeat'(first|refine yz ?_|refine yi (.str x) hx ?_|refine yi (.str y) hy ?_|exact zD)
  ·have g2:decide ((i:Int)<((a.map D.str).length:Int))=false:=by rw[h1];simp;omega
   rw[fq6 hge,fq6 Oa]at ok;rw[decide_eq_true ok]
   exact Ok
mutual
def wtP:Pl→Nat
 |.mk b ks=>1+b.cj.vs.length+b.cj.as.length+es7 b.cl+nd b.e+smT (fun x:IT=>nd x.e) b.it+smT (fun x:SK=>nd x.e) b.od+et2 ks
def et2:List Pl→Nat
 |[]=>0
 |p::r=>wtP p+et2 r
end
theorem et3:∀a b:List Pl,et2 (a++b)=et2 a+et2 b
 |[],b=>by rw[fr8,et2];omega
 |x::r,b=>by rw[fs9,et2,et2,et3 r b];omega
theorem et4{l:List Pl}{i:Nat}{x:Pl}(h:l[i]? =some x):et2 (l.take (i+1))=et2 (l.take i)+wtP x:=by
 rw[fs5,h,et3];show _+et2 [x]=_;rw[et2,et2];omega
theorem et5(l:List Pl)(i:Nat):et2 (l.take i)≤et2 l:=by
 have h:=et3 (l.take i) (l.drop i);rw[fv5]at h;omega
theorem et6:∀{l:List Pl} {p:Pl},p∈l→wtP p≤et2 l
 |a::r,p,h=>by
  rw[et2];rcases fq1.1 h with rfl|h
  ·omega
  ·have:=et6 h;omega
theorem et7(p:Pl):vsP p≤wtP p:=by
 refine dn4 (P:=fun p=>vsP p≤wtP p) (fun b ks ih=>?_) p
 have key:∀l:List Pl,(∀x∈l,vsP x≤wtP x)→ek9 l≤et2 l:=by
  intro l
  induction l with
  |nil=>intro _;exact fq7 _
  |cons a r ihr=>
   intro h;have h1:=h a Oc;have h2:=ihr fun x hx=>h x (by simp[hx])
   rw[ek9,et2];omega
 have:=key ks ih;rw[vsP,wtP];omega
theorem et8(p:Pl):szP p≤wtP p:=by
 refine dn4 (P:=fun p=>szP p≤wtP p) (fun b ks ih=>?_) p
 have key:∀l:List Pl,(∀x∈l,szP x≤wtP x)→dq1 l≤et2 l:=by
  intro l
  induction l with
  |nil=>intro _;exact fq7 _
  |cons a r ihr=>
   intro h;have h1:=h a Oc;have h2:=ihr fun x hx=>h x (by simp[hx])
   rw[dq1,et2];omega
 have:=key ks ih;rw[szP,wtP];omega
theorem et9{α:Type}{f:α→Nat}{g:α→D}:∀{l:List α},(∀x∈l,f x≤bg5 (g x))→smT f l≤bg6 (l.map g)
 |[],_=>fr4 _
 |a::r,h=>by
  have h1:=h a Oc;have h2:=et9 (f:=f) (g:=g) (l:=r) fun x hx=>h x (by simp[hx])
  rw[smT,fs1,bg6];omega
theorem eu0(e:Ex):nd e+1≤bg5 (by6 e):=by
 have h:=dd0 e;have h2:1≤nd e:=by rw[cj4];omega
 omega
theorem eu1:∀(ns:List NP) (es:List EP),smT nd (cr3 (cq8 ns es))≤smT (fun n:NP=>smT (fun q:PP=>nd q.e) n.ps) ns+smT (fun n:EP=>smT (fun q:PP=>nd q.e) n.ps) es
 |[],es=>by rw[cq8];exact fr4 _
 |n::r,[]=>by
  have ih:=eu1 r [];have e0:cr3 (cq8 (n::r) [])=n.ps.map (fun p=>p.e)++cr3 (cq8 r []):=by rw[cq8];unfold cr3;rw[fs2];rfl
  have e1:=smT_map n.ps;rw[e0,es2,e1];simp only[smT]at*;omega
 |n::r,x::q=>by
  have ih:=eu1 r q;have e0:cr3 (cq8 (n::r) (x::q))=n.ps.map (fun p=>p.e)++(x.ps.map (fun p=>p.e)++cr3 (cq8 r q)):=by rw[cq8];unfold cr3;rw[fs2,fs2];rfl
  have e1:=smT_map n.ps;have e2:=smT_map x.ps;rw[e0,es2,es2,e1,e2];simp only[smT]at*;omega
where
 smT_map:∀l:List PP,smT nd (l.map fun p=>p.e)=smT (fun q:PP=>nd q.e) l
  |[]=>rfl
  |a::r=>by rw[fs1,smT,smT,smT_map r]
theorem eu2{α:Type}(f g:α→Nat):∀l:List α,smT (fun x=>f x+g x) l=smT f l+smT g l
 |[]=>rfl
 |a::r=>by rw[smT,smT,smT,eu2 f g r];omega
theorem eu3{α:Type}:∀l:List α,smT (fun _=>1) l=l.length
 |[]=>rfl
 |a::r=>by rw[smT,eu3 r,fp5];omega
theorem eu4(l:List PP):smT (fun q:PP=>nd q.e) l+l.length≤bg6 (l.map cp1):=by
 have h:=et9 (f:=fun q:PP=>nd q.e+1) (g:=cp1) (l:=l) fun q _=>by have h1:=eu0 q.e;have h2:=(ej1 q).1;omega
 rw[eu2,eu3]at h;exact h
theorem eu5(p:PA):es6 p≤bg5 (cp4 p):=by
 have h:=ej7 p;have hx:=eu1 p.ns p.es
 have hn:=et9 (f:=fun n:NP=>smT (fun q:PP=>nd q.e) n.ps+(n.lb.length+n.ps.length)+1) (g:=cp2) (l:=p.ns) fun n _=>by
  have h1:=eu4 n.ps;have h2:=ei8 n.lb
  have h3:bg5 (cp2 n)=n.vr.size+1+(bg6 (n.lb.map D.str)+1+(bg6 (n.ps.map cp1)+1)):=by
   show bg5 (.agg [.imm (.string n.vr),.sl (n.lb.map .str),.sl (n.ps.map cp1)])=_;simp only[bg5,bg6]<;>omega
  omega
 have he:=et9 (f:=fun n:EP=>smT (fun q:PP=>nd q.e) n.ps+(n.ty.length+n.ps.length)+1) (g:=cp3) (l:=p.es) fun n _=>by
  have h1:=eu4 n.ps;have h2:=ei8 n.ty
  have h3:bg5 (cp3 n)=n.vr.size+1+(bg6 (n.ty.map D.str)+1+(4+(bg6 (n.ps.map cp1)+1))):=by
   show bg5 (.agg [.imm (.string n.vr),.sl (n.ty.map .str),.int n.dir,.int n.mode,.int n.mn,.int n.mx,.sl (n.ps.map cp1)])=_;simp only[bg5,bg6,D.int]<;>omega
  omega
 rw[eu2,eu3,eu2]at hn he;unfold es6;omega
theorem eu6(c:CL):es7 c≤bg5 (cp8 c):=by
 have h:=ek3 c;have h1:=et9 (f:=es6) (g:=cp4) (l:=c.ps) fun p _=>eu5 p
 have h2:=et9 (f:=nd) (g:=by6) (l:=c.wh) fun e _=>by have:=eu0 e;omega
 rw[←by7]at h2;have h3:=et9 (f:=fun x:IT=>nd x.e) (g:=cp5) (l:=c.it) fun x _=>by have h1:=eu0 x.e;have h2:=(ej3 x).1;omega
 have h4:=et9 (f:=fun x:SK=>nd x.e) (g:=cp6) (l:=c.od) fun x _=>by have h1:=eu0 x.e;have h2:=(ej4 x).1;omega
 have h5:=et9 (f:=fun x:SIt=>nd x.e) (g:=cp7) (l:=c.st) fun x _=>by have h1:=eu0 x.e;have h2:=(ej2 x).1;omega
 have h6:=ei8 c.ns;have h7:=eu0 c.e;unfold es7;omega
theorem eu7(p:Pl):wtP p≤bg5 (dn6 p):=by
 refine dn4 (P:=fun p=>wtP p≤bg5 (dn6 p)) (fun b ks ih=>?_) p;have hb:=ek7 b (ks.map dn6)
 have key:∀l:List Pl,(∀x∈l,wtP x≤bg5 (dn6 x))→et2 l≤bg6 (l.map dn6):=by
  intro l
  induction l with
  |nil=>intro _;exact fq7 _
  |cons a r ihr=>
   intro h;have h1:=h a Oc;have h2:=ihr fun x hx=>h x (by simp[hx])
   rw[et2,fs1,bg6];omega
 have hk:=key ks ih;have h1:=ei8 b.cj.vs
 have h2:=ei7 1 (L:=b.cj.as.map cd8) fun d hd=>by
  obtain⟨a,-,rfl⟩:=fq8.1 hd;unfold cd8;simp only[bg5,bg6];omega
 rw[fp6]at h2;have h3:=eu6 b.cl;have h4:=eu0 b.e;have h5:=et9 (f:=fun x:IT=>nd x.e) (g:=cp5) (l:=b.it) fun x _=>by have h1:=eu0 x.e;have h2:=(ej3 x).1;omega
 have h6:=et9 (f:=fun x:SK=>nd x.e) (g:=cp6) (l:=b.od) fun x _=>by have h1:=eu0 x.e;have h2:=(ej4 x).1;omega
 rw[dn9,wtP];omega
abbrev oPWt(b:PB)(K:List D):aa5:=.var 40 (.w (.d (dn5 b K)))
set_option maxHeartbeats 4000000 in
theorem eu8(p:Pl):bg5 (dn6 p)≤1048576→Ev E 8 [dn6 p] (.d (.int (wtP p))):=by
 refine dn4 (P:=fun p=>bg5 (dn6 p)≤1048576→Ev E 8 [dn6 p] (.d (.int (wtP p)))) (fun b ks ih h=>?_) p;have hwb:=eu7 (.mk b ks);rw[dn9]at h hwb ⊢;rw[wtP]at hwb;have hb:=ek7 b (ks.map dn6);have hs:=ek6 (c:=b.cl) Oa;have hm:=et0 b.cl hs Oa;have hse:=cj8 b.e (ek5 (e:=b.e) Oa);have hix:∀x∈b.it,nd x.e≤1000000:=fun x hx=>ek5 (by have g1:=ei6 (fs7 (f:=cp5) hx);have g2:=(ej3 x).1;omega)
 have hox:∀x∈b.od,nd x.e≤1000000:=fun x hx=>ek5 (by have g1:=ei6 (fs7 (f:=cp6) hx);have g2:=(ej4 x).1;omega)
 have hkx:∀x∈ks,Ev E 8 [dn6 x] (.d (.int (wtP x))):=fun x hx=>ih x hx (by have:=ei6 (fs7 (f:=dn6) hx);omega)
 have l1:(b.it.map cp5).length=b.it.length:=Oc
 have l2:(b.od.map cp6).length=b.od.length:=Oc
 have l3:(ks.map dn6).length=ks.length:=Oc
 have l4:(b.cj.vs.map D.str).length=b.cj.vs.length:=Oc
 have l5:(b.cj.as.map cd8).length=b.cj.as.length:=Oc
 have k1:b.it.length≤1048576:=by have:=ei7 1 (L:=b.it.map cp5) fun d hd=>by{obtain⟨p,-,rfl⟩:=fq8.1 hd;exact(ej3 p).2.1};rw[l1]at this;omega
 have k2:b.od.length≤1048576:=by have:=ei7 1 (L:=b.od.map cp6) fun d hd=>by{obtain⟨p,-,rfl⟩:=fq8.1 hd;exact(ej4 p).2};rw[l2]at this;omega
 have k3:ks.length≤1048576:=by
  have:=ei7 5 (L:=ks.map dn6) fun d hd=>by{obtain⟨⟨b',k'⟩,-,rfl⟩:=fq8.1 hd;rw[dn9];have:=ek7 b' (k'.map dn6);omega}
  rw[l3]at this;omega
 obtain⟨B,hB⟩:∃B,B=1+b.cj.vs.length+b.cj.as.length+es7 b.cl+nd b.e:=⟨_,rfl⟩;have hBW:wtP (.mk b ks)=B+smT (fun x:IT=>nd x.e) b.it+smT (fun x:SK=>nd x.e) b.od+et2 ks:=by rw[wtP,hB]
 rw[hBW];rw[←hB]at hwb;have hle:B+smT (fun x:IT=>nd x.e) b.it+smT (fun x:SK=>nd x.e) b.od+et2 ks≤1048576:=Oa
 clear ih hwb hBW;refine ye1 func8 ntmps8 fun _ _ _=>?_
 repeat'(first|refine yz ?_|refine yp b20 hm ?_|refine yp b21 hse ?_)
 refine ac7 (α:=es9 b.it.length) (fun s=>⟨[(1,.ptr 0 0),(3,.d (.int ((B+smT (fun x:IT=>nd x.e) (b.it.take s.i):Nat):Int))),(4,.d (.int s.i))],[oPWt b (ks.map dn6)]⟩) (fun s=>b.it.length-s.i) ⟨0,by omega⟩ (by
  dsimp only;rw[show B+smT (fun x:IT=>nd x.e) (b.it.take 0)=B by rw[fu6,smT];omega]
  exact(by
   have eb:(1:Int)+((b.cj.vs.map D.str).length:Int)+((b.cj.as.map cd8).length:Int)+((es7 b.cl:Nat):Int)+((nd b.e:Nat):Int)=((B:Nat):Int):=by rw[l4,l5,hB];omega
   rw[←eb];exact(zle 1))) ?_
 rintro⟨i4,hi4⟩;dsimp only;have hp4:=es4 (fun x:IT=>nd x.e) b.it i4;rcases fp2 i4 b.it.length with hlt4|hge4
 ·have g4:decide ((i4:Int)<((b.it.map cp5).length:Int))=true:=by rw[l1];simpa using hlt4
  have hx40:=fp1 hlt4;generalize b.it[i4]=x4 at hx40;have hx4:(b.it.map cp5)[(i4:Int).toNat]? =some (cp5 x4):=cv3 (f:=cp5) hx40;have hm4:=fp3 hx40;have ht4:=es3 (f:=(fun x:IT=>nd x.e)) hx40;have hz4:=es4 (fun x:IT=>nd x.e) b.it (i4+1);have hsz:=cj8 x4.e (hix x4 hm4)
  repeat'(first|refine yz ?_|refine yi (cp5 x4) hx4 ?_|refine bj8 9 rfl rfl rfl rfl rfl rfl ?_|refine yp b21 hsz ?_)
  refine ac1 ?_;refine⟨⟨i4+1,by omega⟩,by dsimp only;omega,?_⟩;dsimp only;rw[ht4];rw[show((B+(smT (fun x:IT=>nd x.e) (b.it.take i4)+nd x4.e):Nat):Int)=((B+smT (fun x:IT=>nd x.e) (b.it.take i4):Nat):Int)+(nd x4.e:Nat) by omega];exact(zle 1)
 ·have g4:decide ((i4:Int)<((b.it.map cp5).length:Int))=false:=by rw[l1];simp;omega
  rw[fq6 hge4]
  repeat'(refine yz ?_)
  refine ac7 (α:=es9 b.od.length) (fun s=>⟨[(1,.ptr 0 0),(3,.d (.int ((B+smT (fun x:IT=>nd x.e) b.it+smT (fun x:SK=>nd x.e) (b.od.take s.i):Nat):Int))),(5,.d (.int s.i))],[oPWt b (ks.map dn6)]⟩) (fun s=>b.od.length-s.i) ⟨0,by omega⟩ (by
   dsimp only;rw[show B+smT (fun x:IT=>nd x.e) b.it+smT (fun x:SK=>nd x.e) (b.od.take 0)=B+smT (fun x:IT=>nd x.e) b.it by rw[fu6,smT];omega];exact(zle 1)) ?_
  rintro⟨i5,hi5⟩;dsimp only;have hp5:=es4 (fun x:SK=>nd x.e) b.od i5;rcases fp2 i5 b.od.length with hlt5|hge5
  ·have g5:decide ((i5:Int)<((b.od.map cp6).length:Int))=true:=by rw[l2];simpa using hlt5
   have hx50:=fp1 hlt5;generalize b.od[i5]=x5 at hx50;have hx5:(b.od.map cp6)[(i5:Int).toNat]? =some (cp6 x5):=cv3 (f:=cp6) hx50;have hm5:=fp3 hx50;have ht5:=es3 (f:=(fun x:SK=>nd x.e)) hx50;have hz5:=es4 (fun x:SK=>nd x.e) b.od (i5+1);have hsz:=cj8 x5.e (hox x5 hm5)
   repeat'(first|refine yz ?_|refine yi (cp6 x5) hx5 ?_|refine bj8 9 rfl rfl rfl rfl rfl rfl ?_|refine yp b21 hsz ?_)
   refine ac1 ?_;refine⟨⟨i5+1,by omega⟩,by dsimp only;omega,?_⟩;dsimp only;rw[ht5];rw[show((B+smT (fun x:IT=>nd x.e) b.it+(smT (fun x:SK=>nd x.e) (b.od.take i5)+nd x5.e):Nat):Int)=((B+smT (fun x:IT=>nd x.e) b.it+smT (fun x:SK=>nd x.e) (b.od.take i5):Nat):Int)+(nd x5.e:Nat) by omega];exact(zle 1)
  ·have g5:decide ((i5:Int)<((b.od.map cp6).length:Int))=false:=by rw[l2];simp;omega
   rw[fq6 hge5]
   repeat'(refine yz ?_)
   refine ac7 (α:=es9 ks.length) (fun s=>⟨[(1,.ptr 0 0),(3,.d (.int ((B+smT (fun x:IT=>nd x.e) b.it+smT (fun x:SK=>nd x.e) b.od+et2 (ks.take s.i):Nat):Int))),(6,.d (.int s.i))],[oPWt b (ks.map dn6)]⟩) (fun s=>ks.length-s.i) ⟨0,by omega⟩ (by
    dsimp only;rw[show B+smT (fun x:IT=>nd x.e) b.it+smT (fun x:SK=>nd x.e) b.od+et2 (ks.take 0)=B+smT (fun x:IT=>nd x.e) b.it+smT (fun x:SK=>nd x.e) b.od by rw[fu6,et2];omega];exact(zle 1)) ?_
   rintro⟨i6,hi6⟩;dsimp only;have hp6:=et5 ks i6;rcases fp2 i6 ks.length with hlt6|hge6
   ·have g6:decide ((i6:Int)<((ks.map dn6).length:Int))=true:=by rw[l3];simpa using hlt6
    have hx60:=fp1 hlt6;generalize ks[i6]=x6 at hx60;have hx6:=cv3 (f:=dn6) hx60;have hm6:=fp3 hx60;have ht6:=et4 hx60;have hz6:=et5 ks (i6+1);have hc6:=hkx x6 hm6;have hx6w:=et6 hm6;rw[ec8]at hx6 hc6
    repeat'(first|refine yz ?_|refine qI (dn5 x6.b (x6.ks.map dn6)) rfl (ap1 rfl) rfl rfl rfl rfl rfl rfl Oh hx6 ?_|refine yp b8 hc6 ?_)
    refine ac1 ?_;refine⟨⟨i6+1,by omega⟩,by dsimp only;omega,?_⟩;dsimp only;rw[ht6];rw[show((B+smT (fun x:IT=>nd x.e) b.it+smT (fun x:SK=>nd x.e) b.od+(et2 (ks.take i6)+wtP x6):Nat):Int)=((B+smT (fun x:IT=>nd x.e) b.it+smT (fun x:SK=>nd x.e) b.od+et2 (ks.take i6):Nat):Int)+(wtP x6:Nat) by omega];exact(zle 1)
   ·have g6:decide ((i6:Int)<((ks.map dn6).length:Int))=false:=by rw[l3];simp;omega
    rw[fq6 hge6]
    exact Ok
end Go.Proofs.YtndgolmgaenlfaaGreatDoor
namespace Go.Proofs.YtndgolmgaenlfaaGreatDoor
set_option maxRecDepth 4000
open Go Go.Abs Go.Val Go.RowKit Go.Proofs.Tryz
attribute [local irreducible] go SGo an1 Ev au8 EvO EvS RGo RGw PGo
end Go.Proofs.YtndgolmgaenlfaaGreatDoor
