/- The weight of a plan, by the specification; two lists of texts compared; The weight of a plan, by the specification, and what it bounds; The laws PlanChecks and PlanNests in plain engine's terms, given that the chapter's examples hold. Conditions: each part's own, as it says. -/
import Derived.Test.YtndgolmgaenlfaaGreatDoorGC
import Derived.Test.YtndgolmgaenlfaaGreatDoorPB
import Derived.Test.YtndgolmgaenlfaaGreatDoorCA
import Derived.Test.YtndgolmgaenlfaaGreatDoorFA
import Derived.Test.YtndgolmgaenlfaaGreatDoorKA
import Derived.Test.YtndgolmgaenlfaaGreatDoorFB
set_option linter.unusedVariables false
set_option linter.unusedSimpArgs false
namespace Go.Proofs.YtndgolmgaenlfaaGreatDoor
set_option maxRecDepth 4000
open Go Go.Abs Go.Val Go.RowKit Go.Proofs.Tryz
attribute [local irreducible] go SGo an1 Ev au7 EvO EvS RGo RGw PGo
def smT{α:Type}(f:α→Nat):List α→Nat
 |[]=>0
 |x::r=>f x+smT f r
theorem dy3{α:Type}(f:α→Nat):∀a b:List α,smT f (a++b)=smT f a+smT f b
 |[],b=>by simp[smT]
 |x::r,b=>by rw[ew9,smT,smT,dy3 f r b];omega
theorem dy4{α:Type}{f:α→Nat}{l:List α}{i:Nat}{x:α}(h:l[i]? =some x):smT f (l.take (i+1))=smT f (l.take i)+f x:=by
 rw[ew5,h,dy3];show _+(f x+0)=_;omega
theorem dy5{α:Type}(f:α→Nat)(l:List α)(i:Nat):smT f (l.take i)≤smT f l:=by
 have h:=dy3 f (l.take i) (l.drop i);rw[ey2]at h;omega
theorem dy6{α:Type}{f:α→Nat}:∀{l:List α} {x:α},x∈l→f x≤smT f l
 |a::r,x,h=>by
  rw[smT];rcases es9.1 h with rfl|h
  ·omega
  ·have:=dy6 (f:=f) h;omega
def dy7(p:PA):Nat:=p.ns.length+p.es.length+smT nd (ck2 (cj7 p.ns p.es))+smT (fun e:EP=>e.ty.length+e.ps.length) p.es+smT (fun n:NP=>n.lb.length+n.ps.length) p.ns
def dy8(c:CL):Nat:=c.ns.length+nd c.e+smT dy7 c.ps+smT nd c.wh+smT (fun x:IT=>nd x.e) c.it+smT (fun x:SK=>nd x.e) c.od+smT (fun x:SIt=>nd x.e) c.st
abbrev dy9(c:CL):aa5:=.var 38 (.w (.d (ci8 c)))
structure dz0(n:Nat) where
 i:Nat
 hi:i≤n
set_option maxHeartbeats 8000000 in
theorem dz1(c:CL)(hs:SmC c)(hb:dy8 c≤1000000000):Ev E 20 [ci8 c] (.d (.int (dy8 c))):=Ev.fit fun hfit=>by
 have hfc:=(hfit (ci8 c) (by simp)).aggs;have m1:c.ps.length≤9223372036854775807:=(cn5 (hfc (.sl (c.ps.map ci4)) (by simp[ci8]))).1;have m2:c.wh.length≤9223372036854775807:=(bv0 (hfc (.sl (bu1 c.wh)) (by simp[ci8]))).1;have m3:c.it.length≤9223372036854775807:=(cn5 (hfc (.sl (c.it.map ci5)) (by simp[ci8]))).1;have m4:c.od.length≤9223372036854775807:=(cn5 (hfc (.sl (c.od.map ci6)) (by simp[ci8]))).1;have m5:c.st.length≤9223372036854775807:=(cn5 (hfc (.sl (c.st.map ci7)) (by simp[ci8]))).1;have l1:(c.ps.map ci4).length=c.ps.length:=by simp
 have l2:(bu1 c.wh).length=c.wh.length:=bu8 _;have l3:(c.it.map ci5).length=c.it.length:=by simp
 have l4:(c.od.map ci6).length=c.od.length:=by simp
 have l5:(c.st.map ci7).length=c.st.length:=by simp
 have l6:(c.ns.map D.str).length=c.ns.length:=by simp
 have hse:=cd8 c.e hs.ok.e.2;have b0:=hb;unfold dy8 at b0;clear hfc hfit;refine ye1 func20 ntmps20 fun _ _ _=>?_
 repeat'(first|refine yz ?_|refine yp b21 hse ?_)
 refine ac7 (α:=dz0 c.ps.length) (fun s=>⟨[(1,.ptr 0 0),(3,.d (.int ((c.ns.length+nd c.e+smT dy7 (c.ps.take s.i):Nat):Int))),(4,.d (.int s.i))],[dy9 c]⟩) (fun s=>c.ps.length-s.i) ⟨0,by omega⟩ (by
  dsimp only;rw[show c.ns.length+nd c.e+smT dy7 (c.ps.take 0)=c.ns.length+nd c.e by rw[ex0,smT];omega];exact(by
  have eb:((c.ns.map D.str).length:Int)+((nd c.e:Nat):Int)=((c.ns.length+nd c.e:Nat):Int):=by rw[l6];omega
  rw[←eb];exact(zle 1))) ?_
 rintro⟨i4,hi4⟩;dsimp only;have hp4:=dy5 dy7 c.ps i4;rcases es1 i4 c.ps.length with hlt4|hge4
 ·have g4:decide ((i4:Int)<((c.ps.map ci4).length:Int))=true:=by rw[l1];simpa using hlt4
  have hx40:=es0 hlt4;generalize c.ps[i4]=x4 at hx40;have hx4:(c.ps.map ci4)[(i4:Int).toNat]? =some (ci4 x4):=cn4 (f:=ci4) hx40;have hm4:=es4 hx40;have ht4:=dy4 (f:=dy7) hx40;have hz4:=dy5 dy7 c.ps (i4+1);have hok:=hs.ok.p x4 hm4;have hpr:=di7 x4 hok.x hok.n;have hpm:dy7 x4≤smT dy7 c.ps:=dy6 hm4;unfold dy7 at hpm;have q1:(x4.ns.map ci2).length=x4.ns.length:=by simp
  have q2:(x4.es.map ci3).length=x4.es.length:=by simp
  have hoe:=hok.e;obtain⟨B,hB⟩:∃B,B=c.ns.length+nd c.e+smT dy7 (c.ps.take i4):=⟨_,rfl⟩;rw[←hB];have hBb:B+dy7 x4≤1000000000:=by omega
  unfold dy7 at hBb;obtain⟨X,hX⟩:∃X,X=ck2 (cj7 x4.ns x4.es):=⟨_,rfl⟩;have hman:dy7 x4=x4.ns.length+x4.es.length+smT nd X+smT (fun e:EP=>e.ty.length+e.ps.length) x4.es+smT (fun n:NP=>n.lb.length+n.ps.length) x4.ns:=by rw[hX];rfl
  rw[←hX]at hpr hoe hBb hpm;have hXl:(X.map bu2).length=X.length:=by simp
  have hXm:=hok.x;rw[←hX]at hXm
  repeat'(first|refine yz ?_|refine yi (ci4 x4) hx4 ?_|refine yp b33 hpr ?_)
  refine ac7 (α:=dz0 X.length) (fun s=>⟨[(1,.ptr 0 0),(3,.d (.int ((B+x4.ns.length+x4.es.length+smT nd (X.take s.i):Nat):Int))),(6,.d (.int s.i)),(4,.d (.int i4)),(5,.d (.sl (X.map bu2)))],[dy9 c]⟩) (fun s=>X.length-s.i) ⟨0,by omega⟩ (by
   dsimp only;rw[show B+x4.ns.length+x4.es.length+smT nd (X.take 0)=B+x4.ns.length+x4.es.length by rw[ex0,smT];omega];exact(by
   have eb:((B:Nat):Int)+((x4.ns.map ci2).length:Int)+((x4.es.map ci3).length:Int)=((B+x4.ns.length+x4.es.length:Nat):Int):=by rw[q1,q2];omega
   rw[←eb];exact(zle 1))) ?_
  rintro⟨i6,hi6⟩;dsimp only;have hp6:=dy5 nd X i6;rcases es1 i6 X.length with hlt6|hge6
  ·have g6:decide ((i6:Int)<((X.map bu2).length:Int))=true:=by rw[hXl];simpa using hlt6
   have hx60:=es0 hlt6;generalize X[i6]=x6 at hx60;have hx6:(X.map bu2)[(i6:Int).toNat]? =some (bu2 x6):=cn4 (f:=bu2) hx60;have hm6:=es4 hx60;have ht6:=dy4 (f:=nd) hx60;have hz6:=dy5 nd X (i6+1);have hsz:=cd8 x6 (hoe x6 hm6).2
   repeat'(first|refine yz ?_|refine yi (bu2 x6) hx6 ?_|refine yp b21 hsz ?_)
   refine ac1 ?_;refine⟨⟨i6+1,by omega⟩,by dsimp only;omega,?_⟩;dsimp only;rw[ht6];rw[show((B+x4.ns.length+x4.es.length+(smT nd (X.take i6)+nd x6):Nat):Int)=((B+x4.ns.length+x4.es.length+smT nd (X.take i6):Nat):Int)+(nd x6:Nat) by omega];exact(zle 1)
  ·have g6:decide ((i6:Int)<((X.map bu2).length:Int))=false:=by rw[hXl];simp;omega
   rw[eu2 hge6]
   repeat'(refine yz ?_)
   refine ac7 (α:=dz0 x4.es.length) (fun s=>⟨[(1,.ptr 0 0),(3,.d (.int ((B+x4.ns.length+x4.es.length+smT nd X+smT (fun e:EP=>e.ty.length+e.ps.length) (x4.es.take s.i):Nat):Int))),(7,.d (.int s.i)),(4,.d (.int i4))],[dy9 c]⟩) (fun s=>x4.es.length-s.i) ⟨0,by omega⟩ (by
    dsimp only;rw[show B+x4.ns.length+x4.es.length+smT nd X+smT (fun e:EP=>e.ty.length+e.ps.length) (x4.es.take 0)=B+x4.ns.length+x4.es.length+smT nd X by rw[ex0,smT];omega];exact(zle 1)) ?_
   rintro⟨i7,hi7⟩;dsimp only;have hp7:=dy5 (fun e:EP=>e.ty.length+e.ps.length) x4.es i7;rcases es1 i7 x4.es.length with hlt7|hge7
   ·have g7:decide ((i7:Int)<((x4.es.map ci3).length:Int))=true:=by rw[q2];simpa using hlt7
    have hx70:=es0 hlt7;generalize x4.es[i7]=x7 at hx70;have hx7:(x4.es.map ci3)[(i7:Int).toNat]? =some (ci3 x7):=cn4 (f:=ci3) hx70;have hm7:=es4 hx70;have ht7:=dy4 (f:=(fun e:EP=>e.ty.length+e.ps.length)) hx70;have hz7:=dy5 (fun e:EP=>e.ty.length+e.ps.length) x4.es (i7+1);have r1:(x7.ty.map D.str).length=x7.ty.length:=by simp
    have r2:(x7.ps.map ci1).length=x7.ps.length:=by simp
    have hx7s:=dy6 (f:=(fun e:EP=>e.ty.length+e.ps.length)) hm7
    try dsimp only at hx7s
    repeat'(first|refine yz ?_|refine yi (ci4 x4) hx4 ?_|refine yi (ci3 x7) hx7 ?_)
    refine ac1 ?_;refine⟨⟨i7+1,by omega⟩,by dsimp only;omega,?_⟩;dsimp only;rw[ht7];rw[show((B+x4.ns.length+x4.es.length+smT nd X+(smT (fun e:EP=>e.ty.length+e.ps.length) (x4.es.take i7)+(x7.ty.length+x7.ps.length)):Nat):Int)=((B+x4.ns.length+x4.es.length+smT nd X+smT (fun e:EP=>e.ty.length+e.ps.length) (x4.es.take i7):Nat):Int)+((x7.ty.map D.str).length:Int)+((x7.ps.map ci1).length:Int) by omega];exact(zle 1)
   ·have g7:decide ((i7:Int)<((x4.es.map ci3).length:Int))=false:=by rw[q2];simp;omega
    rw[eu2 hge7]
    repeat'(first|refine yz ?_|refine yi (ci4 x4) hx4 ?_)
    refine ac7 (α:=dz0 x4.ns.length) (fun s=>⟨[(1,.ptr 0 0),(3,.d (.int ((B+x4.ns.length+x4.es.length+smT nd X+smT (fun e:EP=>e.ty.length+e.ps.length) x4.es+smT (fun n:NP=>n.lb.length+n.ps.length) (x4.ns.take s.i):Nat):Int))),(8,.d (.int s.i)),(4,.d (.int i4))],[dy9 c]⟩) (fun s=>x4.ns.length-s.i) ⟨0,by omega⟩ (by
     dsimp only;rw[show B+x4.ns.length+x4.es.length+smT nd X+smT (fun e:EP=>e.ty.length+e.ps.length) x4.es+smT (fun n:NP=>n.lb.length+n.ps.length) (x4.ns.take 0)=B+x4.ns.length+x4.es.length+smT nd X+smT (fun e:EP=>e.ty.length+e.ps.length) x4.es by rw[ex0,smT];omega];exact(zle 1)) ?_
    rintro⟨i8,hi8⟩;dsimp only;have hp8:=dy5 (fun n:NP=>n.lb.length+n.ps.length) x4.ns i8;rcases es1 i8 x4.ns.length with hlt8|hge8
    ·have g8:decide ((i8:Int)<((x4.ns.map ci2).length:Int))=true:=by rw[q1];simpa using hlt8
     have hx80:=es0 hlt8;generalize x4.ns[i8]=x8 at hx80;have hx8:(x4.ns.map ci2)[(i8:Int).toNat]? =some (ci2 x8):=cn4 (f:=ci2) hx80;have hm8:=es4 hx80;have ht8:=dy4 (f:=(fun n:NP=>n.lb.length+n.ps.length)) hx80;have hz8:=dy5 (fun n:NP=>n.lb.length+n.ps.length) x4.ns (i8+1);have r1:(x8.lb.map D.str).length=x8.lb.length:=by simp
     have r2:(x8.ps.map ci1).length=x8.ps.length:=by simp
     have hx8s:=dy6 (f:=(fun n:NP=>n.lb.length+n.ps.length)) hm8
     try dsimp only at hx8s
     repeat'(first|refine yz ?_|refine yi (ci4 x4) hx4 ?_|refine yi (ci2 x8) hx8 ?_)
     refine ac1 ?_;refine⟨⟨i8+1,by omega⟩,by dsimp only;omega,?_⟩;dsimp only;rw[ht8];rw[show((B+x4.ns.length+x4.es.length+smT nd X+smT (fun e:EP=>e.ty.length+e.ps.length) x4.es+(smT (fun n:NP=>n.lb.length+n.ps.length) (x4.ns.take i8)+(x8.lb.length+x8.ps.length)):Nat):Int)=((B+x4.ns.length+x4.es.length+smT nd X+smT (fun e:EP=>e.ty.length+e.ps.length) x4.es+smT (fun n:NP=>n.lb.length+n.ps.length) (x4.ns.take i8):Nat):Int)+((x8.lb.map D.str).length:Int)+((x8.ps.map ci1).length:Int) by omega];exact(zle 1)
    ·have g8:decide ((i8:Int)<((x4.ns.map ci2).length:Int))=false:=by rw[q1];simp;omega
     rw[eu2 hge8]
     repeat'(first|refine yz ?_|refine yi (ci4 x4) hx4 ?_)
     refine ac1 ?_;refine⟨⟨i4+1,by omega⟩,by dsimp only;omega,?_⟩;dsimp only;rw[ht4];rw[show c.ns.length+nd c.e+(smT dy7 (c.ps.take i4)+dy7 x4)=B+x4.ns.length+x4.es.length+smT nd X+smT (fun e:EP=>e.ty.length+e.ps.length) x4.es+smT (fun n:NP=>n.lb.length+n.ps.length) x4.ns by rw[hman];omega];exact(zle 1)
 ·have g4:decide ((i4:Int)<((c.ps.map ci4).length:Int))=false:=by rw[l1];simp;omega
  rw[eu2 hge4]
  repeat'(refine yz ?_)
  refine ac7 (α:=dz0 c.wh.length) (fun s=>⟨[(1,.ptr 0 0),(3,.d (.int ((c.ns.length+nd c.e+smT dy7 c.ps+smT nd (c.wh.take s.i):Nat):Int))),(9,.d (.int s.i))],[dy9 c]⟩) (fun s=>c.wh.length-s.i) ⟨0,by omega⟩ (by
   dsimp only;rw[show c.ns.length+nd c.e+smT dy7 c.ps+smT nd (c.wh.take 0)=c.ns.length+nd c.e+smT dy7 c.ps by rw[ex0,smT];omega];exact(zle 1)) ?_
  rintro⟨i9,hi9⟩;dsimp only;have hp9:=dy5 nd c.wh i9;rcases es1 i9 c.wh.length with hlt9|hge9
  ·have g9:decide ((i9:Int)<((bu1 c.wh).length:Int))=true:=by rw[l2];simpa using hlt9
   have hx90:=es0 hlt9;generalize c.wh[i9]=x9 at hx90;have hx9:(bu1 c.wh)[(i9:Int).toNat]? =some (bu2 x9):=bu6 (by rw[ev6];exact hx90);have hm9:=es4 hx90;have ht9:=dy4 (f:=nd) hx90;have hz9:=dy5 nd c.wh (i9+1);have hsz:=cd8 x9 (hs.ok.w x9 hm9).2
   repeat'(first|refine yz ?_|refine yi (bu2 x9) hx9 ?_|refine yp b21 hsz ?_)
   refine ac1 ?_;refine⟨⟨i9+1,by omega⟩,by dsimp only;omega,?_⟩;dsimp only;rw[ht9];rw[show((c.ns.length+nd c.e+smT dy7 c.ps+(smT nd (c.wh.take i9)+nd x9):Nat):Int)=((c.ns.length+nd c.e+smT dy7 c.ps+smT nd (c.wh.take i9):Nat):Int)+(nd x9:Nat) by omega];exact(zle 1)
  ·have g9:decide ((i9:Int)<((bu1 c.wh).length:Int))=false:=by rw[l2];simp;omega
   rw[eu2 hge9]
   repeat'(refine yz ?_)
   refine ac7 (α:=dz0 c.it.length) (fun s=>⟨[(1,.ptr 0 0),(3,.d (.int ((c.ns.length+nd c.e+smT dy7 c.ps+smT nd c.wh+smT (fun x:IT=>nd x.e) (c.it.take s.i):Nat):Int))),(10,.d (.int s.i))],[dy9 c]⟩) (fun s=>c.it.length-s.i) ⟨0,by omega⟩ (by
    dsimp only;rw[show c.ns.length+nd c.e+smT dy7 c.ps+smT nd c.wh+smT (fun x:IT=>nd x.e) (c.it.take 0)=c.ns.length+nd c.e+smT dy7 c.ps+smT nd c.wh by rw[ex0,smT];omega];exact(zle 1)) ?_
   rintro⟨i10,hi10⟩;dsimp only;have hp10:=dy5 (fun x:IT=>nd x.e) c.it i10;rcases es1 i10 c.it.length with hlt10|hge10
   ·have g10:decide ((i10:Int)<((c.it.map ci5).length:Int))=true:=by rw[l3];simpa using hlt10
    have hx100:=es0 hlt10;generalize c.it[i10]=x10 at hx100;have hx10:(c.it.map ci5)[(i10:Int).toNat]? =some (ci5 x10):=cn4 (f:=ci5) hx100;have hm10:=es4 hx100;have ht10:=dy4 (f:=(fun x:IT=>nd x.e)) hx100;have hz10:=dy5 (fun x:IT=>nd x.e) c.it (i10+1);have hsz:=cd8 x10.e (hs.ok.i x10 hm10).2
    repeat'(first|refine yz ?_|refine yi (ci5 x10) hx10 ?_|refine bj5 9 rfl rfl rfl rfl rfl rfl ?_|refine yp b21 hsz ?_)
    refine ac1 ?_;refine⟨⟨i10+1,by omega⟩,by dsimp only;omega,?_⟩;dsimp only;rw[ht10];rw[show((c.ns.length+nd c.e+smT dy7 c.ps+smT nd c.wh+(smT (fun x:IT=>nd x.e) (c.it.take i10)+nd x10.e):Nat):Int)=((c.ns.length+nd c.e+smT dy7 c.ps+smT nd c.wh+smT (fun x:IT=>nd x.e) (c.it.take i10):Nat):Int)+(nd x10.e:Nat) by omega];exact(zle 1)
   ·have g10:decide ((i10:Int)<((c.it.map ci5).length:Int))=false:=by rw[l3];simp;omega
    rw[eu2 hge10]
    repeat'(refine yz ?_)
    refine ac7 (α:=dz0 c.od.length) (fun s=>⟨[(1,.ptr 0 0),(3,.d (.int ((c.ns.length+nd c.e+smT dy7 c.ps+smT nd c.wh+smT (fun x:IT=>nd x.e) c.it+smT (fun x:SK=>nd x.e) (c.od.take s.i):Nat):Int))),(11,.d (.int s.i))],[dy9 c]⟩) (fun s=>c.od.length-s.i) ⟨0,by omega⟩ (by
     dsimp only;rw[show c.ns.length+nd c.e+smT dy7 c.ps+smT nd c.wh+smT (fun x:IT=>nd x.e) c.it+smT (fun x:SK=>nd x.e) (c.od.take 0)=c.ns.length+nd c.e+smT dy7 c.ps+smT nd c.wh+smT (fun x:IT=>nd x.e) c.it by rw[ex0,smT];omega];exact(zle 1)) ?_
    rintro⟨i11,hi11⟩;dsimp only;have hp11:=dy5 (fun x:SK=>nd x.e) c.od i11;rcases es1 i11 c.od.length with hlt11|hge11
    ·have g11:decide ((i11:Int)<((c.od.map ci6).length:Int))=true:=by rw[l4];simpa using hlt11
     have hx110:=es0 hlt11;generalize c.od[i11]=x11 at hx110;have hx11:(c.od.map ci6)[(i11:Int).toNat]? =some (ci6 x11):=cn4 (f:=ci6) hx110;have hm11:=es4 hx110;have ht11:=dy4 (f:=(fun x:SK=>nd x.e)) hx110;have hz11:=dy5 (fun x:SK=>nd x.e) c.od (i11+1);have hsz:=cd8 x11.e (hs.ok.o x11 hm11).2
     repeat'(first|refine yz ?_|refine yi (ci6 x11) hx11 ?_|refine bj5 9 rfl rfl rfl rfl rfl rfl ?_|refine yp b21 hsz ?_)
     refine ac1 ?_;refine⟨⟨i11+1,by omega⟩,by dsimp only;omega,?_⟩;dsimp only;rw[ht11];rw[show((c.ns.length+nd c.e+smT dy7 c.ps+smT nd c.wh+smT (fun x:IT=>nd x.e) c.it+(smT (fun x:SK=>nd x.e) (c.od.take i11)+nd x11.e):Nat):Int)=((c.ns.length+nd c.e+smT dy7 c.ps+smT nd c.wh+smT (fun x:IT=>nd x.e) c.it+smT (fun x:SK=>nd x.e) (c.od.take i11):Nat):Int)+(nd x11.e:Nat) by omega];exact(zle 1)
    ·have g11:decide ((i11:Int)<((c.od.map ci6).length:Int))=false:=by rw[l4];simp;omega
     rw[eu2 hge11]
     repeat'(refine yz ?_)
     refine ac7 (α:=dz0 c.st.length) (fun s=>⟨[(1,.ptr 0 0),(3,.d (.int ((c.ns.length+nd c.e+smT dy7 c.ps+smT nd c.wh+smT (fun x:IT=>nd x.e) c.it+smT (fun x:SK=>nd x.e) c.od+smT (fun x:SIt=>nd x.e) (c.st.take s.i):Nat):Int))),(12,.d (.int s.i))],[dy9 c]⟩) (fun s=>c.st.length-s.i) ⟨0,by omega⟩ (by
      dsimp only;rw[show c.ns.length+nd c.e+smT dy7 c.ps+smT nd c.wh+smT (fun x:IT=>nd x.e) c.it+smT (fun x:SK=>nd x.e) c.od+smT (fun x:SIt=>nd x.e) (c.st.take 0)=c.ns.length+nd c.e+smT dy7 c.ps+smT nd c.wh+smT (fun x:IT=>nd x.e) c.it+smT (fun x:SK=>nd x.e) c.od by rw[ex0,smT];omega];exact(zle 1)) ?_
     rintro⟨i12,hi12⟩;dsimp only;have hp12:=dy5 (fun x:SIt=>nd x.e) c.st i12;rcases es1 i12 c.st.length with hlt12|hge12
     ·have g12:decide ((i12:Int)<((c.st.map ci7).length:Int))=true:=by rw[l5];simpa using hlt12
      have hx120:=es0 hlt12;generalize c.st[i12]=x12 at hx120;have hx12:(c.st.map ci7)[(i12:Int).toNat]? =some (ci7 x12):=cn4 (f:=ci7) hx120;have hm12:=es4 hx120;have ht12:=dy4 (f:=(fun x:SIt=>nd x.e)) hx120;have hz12:=dy5 (fun x:SIt=>nd x.e) c.st (i12+1);have hsz:=cd8 x12.e (hs.ok.s x12 hm12).2
      repeat'(first|refine yz ?_|refine yi (ci7 x12) hx12 ?_|refine yp b21 hsz ?_)
      refine ac1 ?_;refine⟨⟨i12+1,by omega⟩,by dsimp only;omega,?_⟩;dsimp only;rw[ht12];rw[show((c.ns.length+nd c.e+smT dy7 c.ps+smT nd c.wh+smT (fun x:IT=>nd x.e) c.it+smT (fun x:SK=>nd x.e) c.od+(smT (fun x:SIt=>nd x.e) (c.st.take i12)+nd x12.e):Nat):Int)=((c.ns.length+nd c.e+smT dy7 c.ps+smT nd c.wh+smT (fun x:IT=>nd x.e) c.it+smT (fun x:SK=>nd x.e) c.od+smT (fun x:SIt=>nd x.e) (c.st.take i12):Nat):Int)+(nd x12.e:Nat) by omega];exact(zle 1)
     ·have g12:decide ((i12:Int)<((c.st.map ci7).length:Int))=false:=by rw[l5];simp;omega
      rw[eu2 hge12];show go _ _ _ (an5 _ _ (.d (.int ((c.ns.length+nd c.e+smT dy7 c.ps+smT nd c.wh+smT (fun x:IT=>nd x.e) c.it+smT (fun x:SK=>nd x.e) c.od+smT (fun x:SIt=>nd x.e) c.st:Nat):Int))))
      repeat'(first|refine yz ?_|exact zD)
structure STxT(a b:List ByteArray) where
 i:Nat
 hi:i≤a.length
 ok:a.take i=b.take i
theorem dz2(a b:List ByteArray)(hl:a.length≤9223372036854775807):Ev E 12 [.sl (a.map .str),.sl (b.map .str)] (.d (.bool (decide (a=b)))):=by
 have h1:(a.map D.str).length=a.length:=by simp
 have h2:(b.map D.str).length=b.length:=by simp
 cases hc:((a.map D.str).length:Int)==((b.map D.str).length:Int)with
 |false=>
  have g1:(!(((a.map D.str).length:Int)==((b.map D.str).length:Int)))=true:=by rw[hc];rfl
  have hne:=yF (a=b) fun e=>by subst e;simp at hc
  rw[hne];refine ye2 func12 ntmps12 fun _ _ _=>?_
  repeat'(first|refine yz ?_|exact zD)
 |true=>
  have g1:(!(((a.map D.str).length:Int)==((b.map D.str).length:Int)))=false:=by rw[hc];rfl
  have he:a.length=b.length:=by have:=beq_iff_eq.1 hc;rw[h1,h2]at this;omega
  refine ye2 func12 ntmps12 fun _ _ _=>?_
  repeat'(refine yz ?_)
  refine ac7 (α:=STxT a b) (fun s=>⟨[(0,.d (.sl (a.map .str))),(1,.d (.sl (b.map .str))),(5,.d (.int s.i))],[]⟩) (fun s=>a.length-s.i) ⟨0,by omega,rfl⟩ (zle 0) ?_;rintro⟨i,hi,ok⟩;dsimp only;rcases es1 i a.length with hlt|hge
  ·have g2:decide ((i:Int)<((a.map D.str).length:Int))=true:=by rw[h1];simpa using hlt
   have hx0:=es0 hlt;have hy0:=es0 (l:=b) (i:=i) (by omega);generalize a[i]=x at hx0;generalize b[i]'(by omega)=y at hy0;have hx:=cn4 (f:=D.str) hx0;have hy:=cn4 (f:=D.str) hy0
   cases hq:x.toList==y.toList with
   |true=>
    have g3:(!(x.toList==y.toList))=false:=by rw[hq];rfl
    obtain rfl:=cq5 (by simpa using hq:x.toList=y.toList)
    repeat'(first|refine yz ?_|refine yi (.str x) hx ?_|refine yi (.str x) hy ?_)
    refine ac1 ?_;exact⟨⟨i+1,by omega,by rw[ew5,ew5,hx0,hy0,ok]⟩,by dsimp only;omega,(zle 0)⟩
   |false=>
    have g3:(!(x.toList==y.toList))=true:=by rw[hq];rfl
    have hne:=yF (a=b) fun e=>by
     subst e;rw[hx0]at hy0
     cases hy0
     simp at hq
    rw[hne]
    repeat'(first|refine yz ?_|refine yi (.str x) hx ?_|refine yi (.str y) hy ?_|exact zD)
  ·have g2:decide ((i:Int)<((a.map D.str).length:Int))=false:=by rw[h1];simp;omega
   rw[eu2 hge,eu2 (by omega)]at ok;rw[decide_eq_true ok]
   repeat'(first|refine yz ?_|exact zD)
mutual
def wtP:Pl→Nat
 |.mk b ks=>1+b.cj.vs.length+b.cj.as.length+dy8 b.cl+nd b.e+smT (fun x:IT=>nd x.e) b.it+smT (fun x:SK=>nd x.e) b.od+dz3 ks
def dz3:List Pl→Nat
 |[]=>0
 |p::r=>wtP p+dz3 r
end
theorem dz4:∀a b:List Pl,dz3 (a++b)=dz3 a+dz3 b
 |[],b=>by rw[ew8,dz3];omega
 |x::r,b=>by rw[ew9,dz3,dz3,dz4 r b];omega
theorem dz5{l:List Pl}{i:Nat}{x:Pl}(h:l[i]? =some x):dz3 (l.take (i+1))=dz3 (l.take i)+wtP x:=by
 rw[ew5,h,dz4];show _+dz3 [x]=_;rw[dz3,dz3];omega
theorem dz6(l:List Pl)(i:Nat):dz3 (l.take i)≤dz3 l:=by
 have h:=dz4 (l.take i) (l.drop i);rw[ey2]at h;omega
theorem dz7:∀{l:List Pl} {p:Pl},p∈l→wtP p≤dz3 l
 |a::r,p,h=>by
  rw[dz3];rcases es9.1 h with rfl|h
  ·omega
  ·have:=dz7 h;omega
theorem dz8(p:Pl):vsP p≤wtP p:=by
 refine dc9 (P:=fun p=>vsP p≤wtP p) (fun b ks ih=>?_) p
 have key:∀l:List Pl,(∀x∈l,vsP x≤wtP x)→dx9 l≤dz3 l:=by
  intro l
  induction l with
  |nil=>intro _;exact et2 _
  |cons a r ihr=>
   intro h;have h1:=h a (by simp);have h2:=ihr fun x hx=>h x (by simp[hx])
   rw[dx9,dz3];omega
 have:=key ks ih;rw[vsP,wtP];omega
theorem dz9(p:Pl):szP p≤wtP p:=by
 refine dc9 (P:=fun p=>szP p≤wtP p) (fun b ks ih=>?_) p
 have key:∀l:List Pl,(∀x∈l,szP x≤wtP x)→df8 l≤dz3 l:=by
  intro l
  induction l with
  |nil=>intro _;exact et2 _
  |cons a r ihr=>
   intro h;have h1:=h a (by simp);have h2:=ihr fun x hx=>h x (by simp[hx])
   rw[df8,dz3];omega
 have:=key ks ih;rw[szP,wtP];omega
theorem ea0{α:Type}{f:α→Nat}{g:α→D}:∀{l:List α},(∀x∈l,f x≤bg4 (g x))→smT f l≤bg5 (l.map g)
 |[],_=>et8 _
 |a::r,h=>by
  have h1:=h a (by simp);have h2:=ea0 (f:=f) (g:=g) (l:=r) fun x hx=>h x (by simp[hx])
  rw[smT,eu5,bg5];omega
theorem ea1(e:Ex):nd e+1≤bg4 (bu2 e):=by
 have h:=cu8 e;have h2:1≤nd e:=by rw[cd4];omega
 omega
theorem ea2:∀(ns:List NP) (es:List EP),smT nd (ck2 (cj7 ns es))≤smT (fun n:NP=>smT (fun q:PP=>nd q.e) n.ps) ns+smT (fun n:EP=>smT (fun q:PP=>nd q.e) n.ps) es
 |[],es=>by rw[cj7];exact et8 _
 |n::r,[]=>by
  have ih:=ea2 r [];have e0:ck2 (cj7 (n::r) [])=n.ps.map (fun p=>p.e)++ck2 (cj7 r []):=by rw[cj7];unfold ck2;rw[ev4];rfl
  have e1:=smT_map n.ps;rw[e0,dy3,e1];simp only[smT]at*;omega
 |n::r,x::q=>by
  have ih:=ea2 r q;have e0:ck2 (cj7 (n::r) (x::q))=n.ps.map (fun p=>p.e)++(x.ps.map (fun p=>p.e)++ck2 (cj7 r q)):=by rw[cj7];unfold ck2;rw[ev4,ev4];rfl
  have e1:=smT_map n.ps;have e2:=smT_map x.ps;rw[e0,dy3,dy3,e1,e2];simp only[smT]at*;omega
where
 smT_map:∀l:List PP,smT nd (l.map fun p=>p.e)=smT (fun q:PP=>nd q.e) l
  |[]=>rfl
  |a::r=>by rw[eu5,smT,smT,smT_map r]
theorem ea3{α:Type}(f g:α→Nat):∀l:List α,smT (fun x=>f x+g x) l=smT f l+smT g l
 |[]=>rfl
 |a::r=>by rw[smT,smT,smT,ea3 f g r];omega
theorem ea4{α:Type}:∀l:List α,smT (fun _=>1) l=l.length
 |[]=>rfl
 |a::r=>by rw[smT,ea4 r,es3];omega
theorem ea5(l:List PP):smT (fun q:PP=>nd q.e) l+l.length≤bg5 (l.map ci1):=by
 have h:=ea0 (f:=fun q:PP=>nd q.e+1) (g:=ci1) (l:=l) fun q _=>by have h1:=ea1 q.e;have h2:=(dw1 q).1;omega
 rw[ea3,ea4]at h;exact h
theorem ea6(p:PA):dy7 p≤bg4 (ci4 p):=by
 have h:=dw7 p;have hx:=ea2 p.ns p.es
 have hn:=ea0 (f:=fun n:NP=>smT (fun q:PP=>nd q.e) n.ps+(n.lb.length+n.ps.length)+1) (g:=ci2) (l:=p.ns) fun n _=>by
  have h1:=ea5 n.ps;have h2:=dv8 n.lb
  have h3:bg4 (ci2 n)=n.vr.size+1+(bg5 (n.lb.map D.str)+1+(bg5 (n.ps.map ci1)+1)):=by
   show bg4 (.agg [.imm (.string n.vr),.sl (n.lb.map .str),.sl (n.ps.map ci1)])=_;simp only[bg4,bg5]<;>omega
  omega
 have he:=ea0 (f:=fun n:EP=>smT (fun q:PP=>nd q.e) n.ps+(n.ty.length+n.ps.length)+1) (g:=ci3) (l:=p.es) fun n _=>by
  have h1:=ea5 n.ps;have h2:=dv8 n.ty
  have h3:bg4 (ci3 n)=n.vr.size+1+(bg5 (n.ty.map D.str)+1+(4+(bg5 (n.ps.map ci1)+1))):=by
   show bg4 (.agg [.imm (.string n.vr),.sl (n.ty.map .str),.int n.dir,.int n.mode,.int n.mn,.int n.mx,.sl (n.ps.map ci1)])=_;simp only[bg4,bg5,D.int]<;>omega
  omega
 rw[ea3,ea4,ea3]at hn he;unfold dy7;omega
theorem ea7(c:CL):dy8 c≤bg4 (ci8 c):=by
 have h:=dx3 c;have h1:=ea0 (f:=dy7) (g:=ci4) (l:=c.ps) fun p _=>ea6 p
 have h2:=ea0 (f:=nd) (g:=bu2) (l:=c.wh) fun e _=>by have:=ea1 e;omega
 rw[←bu3]at h2;have h3:=ea0 (f:=fun x:IT=>nd x.e) (g:=ci5) (l:=c.it) fun x _=>by have h1:=ea1 x.e;have h2:=(dw3 x).1;omega
 have h4:=ea0 (f:=fun x:SK=>nd x.e) (g:=ci6) (l:=c.od) fun x _=>by have h1:=ea1 x.e;have h2:=(dw4 x).1;omega
 have h5:=ea0 (f:=fun x:SIt=>nd x.e) (g:=ci7) (l:=c.st) fun x _=>by have h1:=ea1 x.e;have h2:=(dw2 x).1;omega
 have h6:=dv8 c.ns;have h7:=ea1 c.e;unfold dy8;omega
theorem ea8(p:Pl):wtP p≤bg4 (dd1 p):=by
 refine dc9 (P:=fun p=>wtP p≤bg4 (dd1 p)) (fun b ks ih=>?_) p;have hb:=dx7 b (ks.map dd1)
 have key:∀l:List Pl,(∀x∈l,wtP x≤bg4 (dd1 x))→dz3 l≤bg5 (l.map dd1):=by
  intro l
  induction l with
  |nil=>intro _;exact et2 _
  |cons a r ihr=>
   intro h;have h1:=h a (by simp);have h2:=ihr fun x hx=>h x (by simp[hx])
   rw[dz3,eu5,bg5];omega
 have hk:=key ks ih;have h1:=dv8 b.cj.vs
 have h2:=dv7 1 (L:=b.cj.as.map by5) fun d hd=>by
  obtain⟨a,-,rfl⟩:=et5.1 hd;unfold by5;simp only[bg4,bg5];omega
 rw[es7]at h2;have h3:=ea7 b.cl;have h4:=ea1 b.e;have h5:=ea0 (f:=fun x:IT=>nd x.e) (g:=ci5) (l:=b.it) fun x _=>by have h1:=ea1 x.e;have h2:=(dw3 x).1;omega
 have h6:=ea0 (f:=fun x:SK=>nd x.e) (g:=ci6) (l:=b.od) fun x _=>by have h1:=ea1 x.e;have h2:=(dw4 x).1;omega
 rw[dd4,wtP];omega
abbrev oPWt(b:PB)(K:List D):aa5:=.var 40 (.w (.d (dd0 b K)))
set_option maxHeartbeats 4000000 in
theorem ea9(p:Pl):bg4 (dd1 p)≤1048576→Ev E 8 [dd1 p] (.d (.int (wtP p))):=by
 refine dc9 (P:=fun p=>bg4 (dd1 p)≤1048576→Ev E 8 [dd1 p] (.d (.int (wtP p)))) (fun b ks ih h=>?_) p;have hwb:=ea8 (.mk b ks);rw[dd4]at h hwb ⊢;rw[wtP]at hwb;have hb:=dx7 b (ks.map dd1);have hs:=dx6 (c:=b.cl) (by omega);have hm:=dz1 b.cl hs (by omega);have hse:=cd8 b.e (dx5 (e:=b.e) (by omega));have hix:∀x∈b.it,nd x.e≤1000000:=fun x hx=>dx5 (by have g1:=dv6 (ev0 (f:=ci5) hx);have g2:=(dw3 x).1;omega)
 have hox:∀x∈b.od,nd x.e≤1000000:=fun x hx=>dx5 (by have g1:=dv6 (ev0 (f:=ci6) hx);have g2:=(dw4 x).1;omega)
 have hkx:∀x∈ks,Ev E 8 [dd1 x] (.d (.int (wtP x))):=fun x hx=>ih x hx (by have:=dv6 (ev0 (f:=dd1) hx);omega)
 have l1:(b.it.map ci5).length=b.it.length:=by simp
 have l2:(b.od.map ci6).length=b.od.length:=by simp
 have l3:(ks.map dd1).length=ks.length:=by simp
 have l4:(b.cj.vs.map D.str).length=b.cj.vs.length:=by simp
 have l5:(b.cj.as.map by5).length=b.cj.as.length:=by simp
 have k1:b.it.length≤1048576:=by have:=dv7 1 (L:=b.it.map ci5) fun d hd=>by{obtain⟨p,-,rfl⟩:=et5.1 hd;exact(dw3 p).2.1};rw[l1]at this;omega
 have k2:b.od.length≤1048576:=by have:=dv7 1 (L:=b.od.map ci6) fun d hd=>by{obtain⟨p,-,rfl⟩:=et5.1 hd;exact(dw4 p).2};rw[l2]at this;omega
 have k3:ks.length≤1048576:=by
  have:=dv7 5 (L:=ks.map dd1) fun d hd=>by{obtain⟨⟨b',k'⟩,-,rfl⟩:=et5.1 hd;rw[dd4];have:=dx7 b' (k'.map dd1);omega}
  rw[l3]at this;omega
 obtain⟨B,hB⟩:∃B,B=1+b.cj.vs.length+b.cj.as.length+dy8 b.cl+nd b.e:=⟨_,rfl⟩;have hBW:wtP (.mk b ks)=B+smT (fun x:IT=>nd x.e) b.it+smT (fun x:SK=>nd x.e) b.od+dz3 ks:=by rw[wtP,hB]
 rw[hBW];rw[←hB]at hwb;have hle:B+smT (fun x:IT=>nd x.e) b.it+smT (fun x:SK=>nd x.e) b.od+dz3 ks≤1048576:=by omega
 clear ih hwb hBW;refine ye1 func8 ntmps8 fun _ _ _=>?_
 repeat'(first|refine yz ?_|refine yp b20 hm ?_|refine yp b21 hse ?_)
 refine ac7 (α:=dz0 b.it.length) (fun s=>⟨[(1,.ptr 0 0),(3,.d (.int ((B+smT (fun x:IT=>nd x.e) (b.it.take s.i):Nat):Int))),(4,.d (.int s.i))],[oPWt b (ks.map dd1)]⟩) (fun s=>b.it.length-s.i) ⟨0,by omega⟩ (by
  dsimp only;rw[show B+smT (fun x:IT=>nd x.e) (b.it.take 0)=B by rw[ex0,smT];omega]
  exact(by
   have eb:(1:Int)+((b.cj.vs.map D.str).length:Int)+((b.cj.as.map by5).length:Int)+((dy8 b.cl:Nat):Int)+((nd b.e:Nat):Int)=((B:Nat):Int):=by rw[l4,l5,hB];omega
   rw[←eb];exact(zle 1))) ?_
 rintro⟨i4,hi4⟩;dsimp only;have hp4:=dy5 (fun x:IT=>nd x.e) b.it i4;rcases es1 i4 b.it.length with hlt4|hge4
 ·have g4:decide ((i4:Int)<((b.it.map ci5).length:Int))=true:=by rw[l1];simpa using hlt4
  have hx40:=es0 hlt4;generalize b.it[i4]=x4 at hx40;have hx4:(b.it.map ci5)[(i4:Int).toNat]? =some (ci5 x4):=cn4 (f:=ci5) hx40;have hm4:=es4 hx40;have ht4:=dy4 (f:=(fun x:IT=>nd x.e)) hx40;have hz4:=dy5 (fun x:IT=>nd x.e) b.it (i4+1);have hsz:=cd8 x4.e (hix x4 hm4)
  repeat'(first|refine yz ?_|refine yi (ci5 x4) hx4 ?_|refine bj5 9 rfl rfl rfl rfl rfl rfl ?_|refine yp b21 hsz ?_)
  refine ac1 ?_;refine⟨⟨i4+1,by omega⟩,by dsimp only;omega,?_⟩;dsimp only;rw[ht4];rw[show((B+(smT (fun x:IT=>nd x.e) (b.it.take i4)+nd x4.e):Nat):Int)=((B+smT (fun x:IT=>nd x.e) (b.it.take i4):Nat):Int)+(nd x4.e:Nat) by omega];exact(zle 1)
 ·have g4:decide ((i4:Int)<((b.it.map ci5).length:Int))=false:=by rw[l1];simp;omega
  rw[eu2 hge4]
  repeat'(refine yz ?_)
  refine ac7 (α:=dz0 b.od.length) (fun s=>⟨[(1,.ptr 0 0),(3,.d (.int ((B+smT (fun x:IT=>nd x.e) b.it+smT (fun x:SK=>nd x.e) (b.od.take s.i):Nat):Int))),(5,.d (.int s.i))],[oPWt b (ks.map dd1)]⟩) (fun s=>b.od.length-s.i) ⟨0,by omega⟩ (by
   dsimp only;rw[show B+smT (fun x:IT=>nd x.e) b.it+smT (fun x:SK=>nd x.e) (b.od.take 0)=B+smT (fun x:IT=>nd x.e) b.it by rw[ex0,smT];omega];exact(zle 1)) ?_
  rintro⟨i5,hi5⟩;dsimp only;have hp5:=dy5 (fun x:SK=>nd x.e) b.od i5;rcases es1 i5 b.od.length with hlt5|hge5
  ·have g5:decide ((i5:Int)<((b.od.map ci6).length:Int))=true:=by rw[l2];simpa using hlt5
   have hx50:=es0 hlt5;generalize b.od[i5]=x5 at hx50;have hx5:(b.od.map ci6)[(i5:Int).toNat]? =some (ci6 x5):=cn4 (f:=ci6) hx50;have hm5:=es4 hx50;have ht5:=dy4 (f:=(fun x:SK=>nd x.e)) hx50;have hz5:=dy5 (fun x:SK=>nd x.e) b.od (i5+1);have hsz:=cd8 x5.e (hox x5 hm5)
   repeat'(first|refine yz ?_|refine yi (ci6 x5) hx5 ?_|refine bj5 9 rfl rfl rfl rfl rfl rfl ?_|refine yp b21 hsz ?_)
   refine ac1 ?_;refine⟨⟨i5+1,by omega⟩,by dsimp only;omega,?_⟩;dsimp only;rw[ht5];rw[show((B+smT (fun x:IT=>nd x.e) b.it+(smT (fun x:SK=>nd x.e) (b.od.take i5)+nd x5.e):Nat):Int)=((B+smT (fun x:IT=>nd x.e) b.it+smT (fun x:SK=>nd x.e) (b.od.take i5):Nat):Int)+(nd x5.e:Nat) by omega];exact(zle 1)
  ·have g5:decide ((i5:Int)<((b.od.map ci6).length:Int))=false:=by rw[l2];simp;omega
   rw[eu2 hge5]
   repeat'(refine yz ?_)
   refine ac7 (α:=dz0 ks.length) (fun s=>⟨[(1,.ptr 0 0),(3,.d (.int ((B+smT (fun x:IT=>nd x.e) b.it+smT (fun x:SK=>nd x.e) b.od+dz3 (ks.take s.i):Nat):Int))),(6,.d (.int s.i))],[oPWt b (ks.map dd1)]⟩) (fun s=>ks.length-s.i) ⟨0,by omega⟩ (by
    dsimp only;rw[show B+smT (fun x:IT=>nd x.e) b.it+smT (fun x:SK=>nd x.e) b.od+dz3 (ks.take 0)=B+smT (fun x:IT=>nd x.e) b.it+smT (fun x:SK=>nd x.e) b.od by rw[ex0,dz3];omega];exact(zle 1)) ?_
   rintro⟨i6,hi6⟩;dsimp only;have hp6:=dz6 ks i6;rcases es1 i6 ks.length with hlt6|hge6
   ·have g6:decide ((i6:Int)<((ks.map dd1).length:Int))=true:=by rw[l3];simpa using hlt6
    have hx60:=es0 hlt6;generalize ks[i6]=x6 at hx60;have hx6:=cn4 (f:=dd1) hx60;have hm6:=es4 hx60;have ht6:=dz5 hx60;have hz6:=dz6 ks (i6+1);have hc6:=hkx x6 hm6;have hx6w:=dz7 hm6;rw[dq8]at hx6 hc6
    repeat'(first|refine yz ?_|refine qI (dd0 x6.b (x6.ks.map dd1)) rfl (ap1 rfl) rfl rfl rfl rfl rfl rfl (by first|omega|decide) hx6 ?_|refine yp b8 hc6 ?_)
    refine ac1 ?_;refine⟨⟨i6+1,by omega⟩,by dsimp only;omega,?_⟩;dsimp only;rw[ht6];rw[show((B+smT (fun x:IT=>nd x.e) b.it+smT (fun x:SK=>nd x.e) b.od+(dz3 (ks.take i6)+wtP x6):Nat):Int)=((B+smT (fun x:IT=>nd x.e) b.it+smT (fun x:SK=>nd x.e) b.od+dz3 (ks.take i6):Nat):Int)+(wtP x6:Nat) by omega];exact(zle 1)
   ·have g6:decide ((i6:Int)<((ks.map dd1).length:Int))=false:=by rw[l3];simp;omega
    rw[eu2 hge6]
    repeat'(first|refine yz ?_|exact zD)
end Go.Proofs.YtndgolmgaenlfaaGreatDoor
namespace Go.Proofs.YtndgolmgaenlfaaGreatDoor
set_option maxRecDepth 4000
open Go Go.Abs Go.Val Go.RowKit Go.Proofs.Tryz
attribute [local irreducible] go SGo an1 Ev au7 EvO EvS RGo RGw PGo
theorem eb0(p:Pl):(df9 p).1.length≤cwP p:=by
 have h:=dp8 p;unfold df9
 cases decide (dpP p>200)with
 |true=>exact et8 _
 |false=>
  cases decide (szP p>2000)with
  |true=>exact et8 _
  |false=>exact h
theorem eb1{op:Int}{e:Ex}(ho:op≠5)(he:nd e≤1000000):SmB (opB op e ⟨#[]⟩):=
 ⟨et8 _,et8 _,et8 _,he,fun _ h=>(by cases h),fun _ h=>(by cases h),et8 _,fun _ h=>(by cases h),fun h=>absurd h ho⟩
theorem nd_yz:nd dh2=1∧nd zeX=1:=by decide+kernel
set_option maxHeartbeats 4000000 in
theorem law_nests35(hlv:Ev E 9 [] (.d (.bool true)))(p:Pl)(h:bg5 [dd1 p]≤1048576):Ev E 7 [dd1 p] (.d (.bool true)):=by
 have h0:bg4 (dd1 p)≤1048576:=by rw[bg5,bg5]at h;omega
 have hw:=ea9 p h0;have hvw:=dz8 p;obtain⟨n1,n2⟩:=nd_yz
 cases c1:decide ((wtP p:Int)>1500)with
 |true=>
  obtain⟨b,ks⟩:=p;rw[dd4]at hw ⊢;generalize wtP (.mk b ks)=w at*;refine ye1 func7 ntmps7 fun _ _ _=>?_
  repeat'(first|refine yz ?_|refine yp b8 hw ?_|refine yp b9 hlv ?_|exact zD)
 |false=>
  have hv:vsP p≤100000:=by have:=of_decide_eq_false c1;omega
  have k1:=dy2 p h0 hv;obtain⟨hal,hz,hcw⟩:=dy1 p h0 hv
  cases c2:(df9 p).2 !=0 with
  |true=>
   have g1:(!((df9 p).2==0))=true:=c2;obtain⟨b,ks⟩:=p;rw[dd4]at hw k1 ⊢;generalize wtP (.mk b ks)=w at*;generalize df9 (.mk b ks)=ck at*;refine ye1 func7 ntmps7 fun _ _ _=>?_
   repeat'(first|refine yz ?_|refine yp b8 hw ?_|refine yp b9 hlv ?_|refine yp b10 k1 ?_|exact zD)
  |false=>
   have c3:(df9 p).2=0:=by simpa using c2
   have hsz:szP p≤wtP p:=dz9 p;obtain⟨e6,e9,e3⟩:=dh7 c3 (by have:=of_decide_eq_false c1;omega);have k6:=dv5 (.mk (opB 6 dh2 ⟨#[]⟩) [p]) ⟨eb1 (by decide) (by omega),hal,trivial⟩ (by rw[szP,df8,df8];omega) (by rw[cwP,dp0,dp0];show 1+_≤_;omega);have k9:=dv5 (.mk (opB 9 zeX ⟨#[]⟩) [p]) ⟨eb1 (by decide) (by omega),hal,trivial⟩ (by rw[szP,df8,df8];omega) (by rw[cwP,dp0,dp0];show 1+_≤_;omega);have k3:=dv5 (jnQ [p,unQ]) ⟨eb1 (by decide) (by omega),hal,⟨eb1 (by decide) (by omega),trivial⟩,trivial⟩ (by rw[jnQ,unQ,szP,df8,df8,df8,szP,df8];omega) (by rw[jnQ,unQ,cwP,dp0,dp0,dp0,cwP,dp0];show 1+(_+(1+0+0))≤_;omega);rw[e6]at k6;rw[e9]at k9;rw[e3]at k3;have hcl:=eb0 p;have ht:=dz2 (df9 p).1 (df9 p).1 (by omega);rw[decide_eq_true rfl]at ht;have hck:df9 p=((df9 p).1,0):=by rw[←c3]
   rw[c3]at k1;rw[jnQ,unQ]at k3;obtain⟨b,ks⟩:=p;simp only[dd4,eu5,ey1]at hw k1 k6 k9 k3 ⊢
   cases c4:decide (dpP (.mk b ks)>199)with
   |true=>
    rw[c4,cond_true]at k6 k9 k3;have k6:Ev E 10 _ (.tup [.sl [],.int 5]):=k6;have k9:Ev E 10 _ (.tup [.sl [],.int 5]):=k9;have k3:Ev E 10 _ (.tup [.sl [],.int 5]):=k3;generalize wtP (.mk b ks)=w at*;generalize(df9 (.mk b ks)).1=cols at*;refine ye1 func7 ntmps7 fun _ _ _=>?_
    repeat'(first|refine yz ?_|refine yp b8 hw ?_|refine yp b9 hlv ?_|refine qP (d:=19) rfl rfl rfl rfl rfl rfl b10 (k1) ?_|refine qP (d:=33) rfl rfl rfl rfl rfl rfl b10 (k6) ?_|refine qP (d:=39) rfl rfl rfl rfl rfl rfl b10 (k9) ?_|refine qP (d:=47) rfl rfl rfl rfl rfl rfl b10 (k3) ?_|exact zD)
   |false=>
    rw[c4,cond_false,hck]at k6 k9 k3;generalize wtP (.mk b ks)=w at*;generalize(df9 (.mk b ks)).1=cols at*;refine ye1 func7 ntmps7 fun _ _ _=>?_
    repeat'(first|refine yz ?_|refine yp b8 hw ?_|refine yp b9 hlv ?_|refine qP (d:=19) rfl rfl rfl rfl rfl rfl b10 (k1) ?_|refine qP (d:=33) rfl rfl rfl rfl rfl rfl b10 (k6) ?_|refine qP (d:=39) rfl rfl rfl rfl rfl rfl b10 (k9) ?_|refine qP (d:=47) rfl rfl rfl rfl rfl rfl b10 (k3) ?_|refine yp b12 ht ?_|exact zD)
end Go.Proofs.YtndgolmgaenlfaaGreatDoor
