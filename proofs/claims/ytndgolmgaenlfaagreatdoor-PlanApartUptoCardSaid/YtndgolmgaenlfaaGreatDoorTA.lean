/- The weight of a plan, by the specification; two lists of texts compared; The weight of a plan, by the specification, and what it bounds; The laws Plan. Conditions: each part's own, as it says. -/
import Derived.Test.YtndgolmgaenlfaaGreatDoorGC
import Derived.Test.YtndgolmgaenlfaaGreatDoorPB
import Derived.Test.YtndgolmgaenlfaaGreatDoorCA
import Derived.Test.YtndgolmgaenlfaaGreatDoorFA
import Derived.Test.YtndgolmgaenlfaaGreatDoorFB
set_option linter.unusedVariables false
set_option linter.unusedSimpArgs false
namespace Go.Proofs.YtndgolmgaenlfaaGreatDoor
set_option maxRecDepth 4000
open Go Go.Abs Go.Val Go.RowKit Go.Proofs.Tryz
attribute [local irreducible] go SGo an9 Ev aw1 EvO EvS RGo RGw PGo
def smT{α:Type}(f:α→Nat):List α→Nat
 |[]=>0
 |x::r=>f x+smT f r
theorem ej3{α:Type}(f:α→Nat):∀a b:List α,smT f (a++b)=smT f a+smT f b
 |[],b=>by simp[smT]
 |x::r,b=>by rw[gb4,smT,smT,ej3 f r b];omega
theorem ej4{α:Type}{f:α→Nat}{l:List α}{i:Nat}{x:α}(h:l[i]? =some x):smT f (l.take (i+1))=smT f (l.take i)+f x:=by
 rw[gd7,h,ej3];show _+(f x+0)=_;omega
theorem ej5{α:Type}(f:α→Nat)(l:List α)(i:Nat):smT f (l.take i)≤smT f l:=by
 have h:=ej3 f (l.take i) (l.drop i);rw[gf7]at h;omega
theorem ej6{α:Type}{f:α→Nat}:∀{l:List α} {x:α},x∈l→f x≤smT f l
 |a::r,x,h=>by
  rw[smT];rcases fz0.1 h with rfl|h
  ·omega
  ·have:=ej6 (f:=f) h;omega
def ej7(p:PA):Nat:=p.ns.length+p.es.length+smT nd (cv8 (cv3 p.ns p.es))+smT (fun e:EP=>e.ty.length+e.ps.length) p.es+smT (fun n:NP=>n.lb.length+n.ps.length) p.ns
def ej8(c:CL):Nat:=c.ns.length+nd c.e+smT ej7 c.ps+smT nd c.wh+smT (fun x:IT=>nd x.e) c.it+smT (fun x:SK=>nd x.e) c.od+smT (fun x:SIt=>nd x.e) c.st
abbrev ej9(c:CL):aa5:=.var 38 (.w (.d (cu4 c)))
structure ek0(n:Nat) where
 i:Nat
 hi:i≤n
set_option maxHeartbeats 8000000 in
theorem ek1(c:CL)(hs:SmC c)(hb:ej8 c≤1000000000):Ev E 20 [cu4 c] (.d (.int (ej8 c))):=Ev.fit fun hfit=>by
 have hfc:=(hfit (cu4 c) Oc).aggs;have m1:c.ps.length≤9223372036854775807:=(cz2 (hfc (.sl (c.ps.map cu0)) (by simp[cu4]))).1;have m2:c.wh.length≤9223372036854775807:=(bz9 (hfc (.sl (bz0 c.wh)) (by simp[cu4]))).1;have m3:c.it.length≤9223372036854775807:=(cz2 (hfc (.sl (c.it.map cu1)) (by simp[cu4]))).1;have m4:c.od.length≤9223372036854775807:=(cz2 (hfc (.sl (c.od.map cu2)) (by simp[cu4]))).1;have m5:c.st.length≤9223372036854775807:=(cz2 (hfc (.sl (c.st.map cu3)) (by simp[cu4]))).1;have l1:(c.ps.map cu0).length=c.ps.length:=Oc
 have l2:(bz0 c.wh).length=c.wh.length:=bz7 _;have l3:(c.it.map cu1).length=c.it.length:=Oc
 have l4:(c.od.map cu2).length=c.od.length:=Oc
 have l5:(c.st.map cu3).length=c.st.length:=Oc
 have l6:(c.ns.map D.str).length=c.ns.length:=Oc
 have hse:=cp4 c.e hs.ok.e.2;have b0:=hb;unfold ej8 at b0;clear hfc hfit;refine ye1 func20 ntmps20 fun _ _ _=>?_
 repeat'(first|refine yz ?_|refine yp b21 hse ?_)
 refine ac8 (α:=ek0 c.ps.length) (fun s=>⟨[(1,.ptr 0 0),(3,.d (.int ((c.ns.length+nd c.e+smT ej7 (c.ps.take s.i):Nat):Int))),(4,.d (.int s.i))],[ej9 c]⟩) (fun s=>c.ps.length-s.i) ⟨0,by omega⟩ (by
  dsimp only;rw[show c.ns.length+nd c.e+smT ej7 (c.ps.take 0)=c.ns.length+nd c.e by rw[gc8,smT];omega];exact(by
  have eb:((c.ns.map D.str).length:Int)+((nd c.e:Nat):Int)=((c.ns.length+nd c.e:Nat):Int):=by rw[l6];omega
  rw[←eb];exact(zle 1))) ?_
 rintro⟨i4,hi4⟩;dsimp only;have hp4:=ej5 ej7 c.ps i4;rcases fy5 i4 c.ps.length with hlt4|hge4
 ·have g4:decide ((i4:Int)<((c.ps.map cu0).length:Int))=true:=by rw[l1];simpa using hlt4
  have hx40:=fy4 hlt4;generalize c.ps[i4]=x4 at hx40;have hx4:(c.ps.map cu0)[(i4:Int).toNat]? =some (cu0 x4):=cz1 (f:=cu0) hx40;have hm4:=fy6 hx40;have ht4:=ej4 (f:=ej7) hx40;have hz4:=ej5 ej7 c.ps (i4+1);have hok:=hs.ok.p x4 hm4;have hpr:=dt5 x4 hok.x hok.n;have hpm:ej7 x4≤smT ej7 c.ps:=ej6 hm4;unfold ej7 at hpm;have q1:(x4.ns.map ct8).length=x4.ns.length:=Oc
  have q2:(x4.es.map ct9).length=x4.es.length:=Oc
  have hoe:=hok.e;obtain⟨B,hB⟩:∃B,B=c.ns.length+nd c.e+smT ej7 (c.ps.take i4):=⟨_,rfl⟩;rw[←hB];have hBb:B+ej7 x4≤1000000000:=Oa
  unfold ej7 at hBb;obtain⟨X,hX⟩:∃X,X=cv8 (cv3 x4.ns x4.es):=⟨_,rfl⟩;have hman:ej7 x4=x4.ns.length+x4.es.length+smT nd X+smT (fun e:EP=>e.ty.length+e.ps.length) x4.es+smT (fun n:NP=>n.lb.length+n.ps.length) x4.ns:=by rw[hX];rfl
  rw[←hX]at hpr hoe hBb hpm;have hXl:(X.map bz1).length=X.length:=Oc
  have hXm:=hok.x;rw[←hX]at hXm
  repeat'(first|refine yz ?_|refine yi (cu0 x4) hx4 ?_|refine yp b33 hpr ?_)
  refine ac8 (α:=ek0 X.length) (fun s=>⟨[(1,.ptr 0 0),(3,.d (.int ((B+x4.ns.length+x4.es.length+smT nd (X.take s.i):Nat):Int))),(6,.d (.int s.i)),(4,.d (.int i4)),(5,.d (.sl (X.map bz1)))],[ej9 c]⟩) (fun s=>X.length-s.i) ⟨0,by omega⟩ (by
   dsimp only;rw[show B+x4.ns.length+x4.es.length+smT nd (X.take 0)=B+x4.ns.length+x4.es.length by rw[gc8,smT];omega];exact(by
   have eb:((B:Nat):Int)+((x4.ns.map ct8).length:Int)+((x4.es.map ct9).length:Int)=((B+x4.ns.length+x4.es.length:Nat):Int):=by rw[q1,q2];omega
   rw[←eb];exact(zle 1))) ?_
  rintro⟨i6,hi6⟩;dsimp only;have hp6:=ej5 nd X i6;rcases fy5 i6 X.length with hlt6|hge6
  ·have g6:decide ((i6:Int)<((X.map bz1).length:Int))=true:=by rw[hXl];simpa using hlt6
   have hx60:=fy4 hlt6;generalize X[i6]=x6 at hx60;have hx6:(X.map bz1)[(i6:Int).toNat]? =some (bz1 x6):=cz1 (f:=bz1) hx60;have hm6:=fy6 hx60;have ht6:=ej4 (f:=nd) hx60;have hz6:=ej5 nd X (i6+1);have hsz:=cp4 x6 (hoe x6 hm6).2
   repeat'(first|refine yz ?_|refine yi (bz1 x6) hx6 ?_|refine yp b21 hsz ?_)
   refine ac2 ?_;refine⟨⟨i6+1,by omega⟩,by dsimp only;omega,?_⟩;dsimp only;rw[ht6];rw[show((B+x4.ns.length+x4.es.length+(smT nd (X.take i6)+nd x6):Nat):Int)=((B+x4.ns.length+x4.es.length+smT nd (X.take i6):Nat):Int)+(nd x6:Nat) by omega];exact(zle 1)
  ·have g6:decide ((i6:Int)<((X.map bz1).length:Int))=false:=by rw[hXl];simp;omega
   rw[ga3 hge6]
   repeat'(refine yz ?_)
   refine ac8 (α:=ek0 x4.es.length) (fun s=>⟨[(1,.ptr 0 0),(3,.d (.int ((B+x4.ns.length+x4.es.length+smT nd X+smT (fun e:EP=>e.ty.length+e.ps.length) (x4.es.take s.i):Nat):Int))),(7,.d (.int s.i)),(4,.d (.int i4))],[ej9 c]⟩) (fun s=>x4.es.length-s.i) ⟨0,by omega⟩ (by
    dsimp only;rw[show B+x4.ns.length+x4.es.length+smT nd X+smT (fun e:EP=>e.ty.length+e.ps.length) (x4.es.take 0)=B+x4.ns.length+x4.es.length+smT nd X by rw[gc8,smT];omega];exact(zle 1)) ?_
   rintro⟨i7,hi7⟩;dsimp only;have hp7:=ej5 (fun e:EP=>e.ty.length+e.ps.length) x4.es i7;rcases fy5 i7 x4.es.length with hlt7|hge7
   ·have g7:decide ((i7:Int)<((x4.es.map ct9).length:Int))=true:=by rw[q2];simpa using hlt7
    have hx70:=fy4 hlt7;generalize x4.es[i7]=x7 at hx70;have hx7:(x4.es.map ct9)[(i7:Int).toNat]? =some (ct9 x7):=cz1 (f:=ct9) hx70;have hm7:=fy6 hx70;have ht7:=ej4 (f:=(fun e:EP=>e.ty.length+e.ps.length)) hx70;have hz7:=ej5 (fun e:EP=>e.ty.length+e.ps.length) x4.es (i7+1);have r1:(x7.ty.map D.str).length=x7.ty.length:=Oc
    have r2:(x7.ps.map ct7).length=x7.ps.length:=Oc
    have hx7s:=ej6 (f:=(fun e:EP=>e.ty.length+e.ps.length)) hm7
    try dsimp only at hx7s
    repeat'(first|refine yz ?_|refine yi (cu0 x4) hx4 ?_|refine yi (ct9 x7) hx7 ?_)
    refine ac2 ?_;refine⟨⟨i7+1,by omega⟩,by dsimp only;omega,?_⟩;dsimp only;rw[ht7];rw[show((B+x4.ns.length+x4.es.length+smT nd X+(smT (fun e:EP=>e.ty.length+e.ps.length) (x4.es.take i7)+(x7.ty.length+x7.ps.length)):Nat):Int)=((B+x4.ns.length+x4.es.length+smT nd X+smT (fun e:EP=>e.ty.length+e.ps.length) (x4.es.take i7):Nat):Int)+((x7.ty.map D.str).length:Int)+((x7.ps.map ct7).length:Int) by omega];exact(zle 1)
   ·have g7:decide ((i7:Int)<((x4.es.map ct9).length:Int))=false:=by rw[q2];simp;omega
    rw[ga3 hge7]
    repeat'(first|refine yz ?_|refine yi (cu0 x4) hx4 ?_)
    refine ac8 (α:=ek0 x4.ns.length) (fun s=>⟨[(1,.ptr 0 0),(3,.d (.int ((B+x4.ns.length+x4.es.length+smT nd X+smT (fun e:EP=>e.ty.length+e.ps.length) x4.es+smT (fun n:NP=>n.lb.length+n.ps.length) (x4.ns.take s.i):Nat):Int))),(8,.d (.int s.i)),(4,.d (.int i4))],[ej9 c]⟩) (fun s=>x4.ns.length-s.i) ⟨0,by omega⟩ (by
     dsimp only;rw[show B+x4.ns.length+x4.es.length+smT nd X+smT (fun e:EP=>e.ty.length+e.ps.length) x4.es+smT (fun n:NP=>n.lb.length+n.ps.length) (x4.ns.take 0)=B+x4.ns.length+x4.es.length+smT nd X+smT (fun e:EP=>e.ty.length+e.ps.length) x4.es by rw[gc8,smT];omega];exact(zle 1)) ?_
    rintro⟨i8,hi8⟩;dsimp only;have hp8:=ej5 (fun n:NP=>n.lb.length+n.ps.length) x4.ns i8;rcases fy5 i8 x4.ns.length with hlt8|hge8
    ·have g8:decide ((i8:Int)<((x4.ns.map ct8).length:Int))=true:=by rw[q1];simpa using hlt8
     have hx80:=fy4 hlt8;generalize x4.ns[i8]=x8 at hx80;have hx8:(x4.ns.map ct8)[(i8:Int).toNat]? =some (ct8 x8):=cz1 (f:=ct8) hx80;have hm8:=fy6 hx80;have ht8:=ej4 (f:=(fun n:NP=>n.lb.length+n.ps.length)) hx80;have hz8:=ej5 (fun n:NP=>n.lb.length+n.ps.length) x4.ns (i8+1);have r1:(x8.lb.map D.str).length=x8.lb.length:=Oc
     have r2:(x8.ps.map ct7).length=x8.ps.length:=Oc
     have hx8s:=ej6 (f:=(fun n:NP=>n.lb.length+n.ps.length)) hm8
     try dsimp only at hx8s
     repeat'(first|refine yz ?_|refine yi (cu0 x4) hx4 ?_|refine yi (ct8 x8) hx8 ?_)
     refine ac2 ?_;refine⟨⟨i8+1,by omega⟩,by dsimp only;omega,?_⟩;dsimp only;rw[ht8];rw[show((B+x4.ns.length+x4.es.length+smT nd X+smT (fun e:EP=>e.ty.length+e.ps.length) x4.es+(smT (fun n:NP=>n.lb.length+n.ps.length) (x4.ns.take i8)+(x8.lb.length+x8.ps.length)):Nat):Int)=((B+x4.ns.length+x4.es.length+smT nd X+smT (fun e:EP=>e.ty.length+e.ps.length) x4.es+smT (fun n:NP=>n.lb.length+n.ps.length) (x4.ns.take i8):Nat):Int)+((x8.lb.map D.str).length:Int)+((x8.ps.map ct7).length:Int) by omega];exact(zle 1)
    ·have g8:decide ((i8:Int)<((x4.ns.map ct8).length:Int))=false:=by rw[q1];simp;omega
     rw[ga3 hge8]
     repeat'(first|refine yz ?_|refine yi (cu0 x4) hx4 ?_)
     refine ac2 ?_;refine⟨⟨i4+1,by omega⟩,by dsimp only;omega,?_⟩;dsimp only;rw[ht4];rw[show c.ns.length+nd c.e+(smT ej7 (c.ps.take i4)+ej7 x4)=B+x4.ns.length+x4.es.length+smT nd X+smT (fun e:EP=>e.ty.length+e.ps.length) x4.es+smT (fun n:NP=>n.lb.length+n.ps.length) x4.ns by rw[hman];omega];exact(zle 1)
 ·have g4:decide ((i4:Int)<((c.ps.map cu0).length:Int))=false:=by rw[l1];simp;omega
  rw[ga3 hge4]
  repeat'(refine yz ?_)
  refine ac8 (α:=ek0 c.wh.length) (fun s=>⟨[(1,.ptr 0 0),(3,.d (.int ((c.ns.length+nd c.e+smT ej7 c.ps+smT nd (c.wh.take s.i):Nat):Int))),(9,.d (.int s.i))],[ej9 c]⟩) (fun s=>c.wh.length-s.i) ⟨0,by omega⟩ (by
   dsimp only;rw[show c.ns.length+nd c.e+smT ej7 c.ps+smT nd (c.wh.take 0)=c.ns.length+nd c.e+smT ej7 c.ps by rw[gc8,smT];omega];exact(zle 1)) ?_
  rintro⟨i9,hi9⟩;dsimp only;have hp9:=ej5 nd c.wh i9;rcases fy5 i9 c.wh.length with hlt9|hge9
  ·have g9:decide ((i9:Int)<((bz0 c.wh).length:Int))=true:=by rw[l2];simpa using hlt9
   have hx90:=fy4 hlt9;generalize c.wh[i9]=x9 at hx90;have hx9:(bz0 c.wh)[(i9:Int).toNat]? =some (bz1 x9):=bz5 (by rw[gb1];exact hx90);have hm9:=fy6 hx90;have ht9:=ej4 (f:=nd) hx90;have hz9:=ej5 nd c.wh (i9+1);have hsz:=cp4 x9 (hs.ok.w x9 hm9).2
   repeat'(first|refine yz ?_|refine yi (bz1 x9) hx9 ?_|refine yp b21 hsz ?_)
   refine ac2 ?_;refine⟨⟨i9+1,by omega⟩,by dsimp only;omega,?_⟩;dsimp only;rw[ht9];rw[show((c.ns.length+nd c.e+smT ej7 c.ps+(smT nd (c.wh.take i9)+nd x9):Nat):Int)=((c.ns.length+nd c.e+smT ej7 c.ps+smT nd (c.wh.take i9):Nat):Int)+(nd x9:Nat) by omega];exact(zle 1)
  ·have g9:decide ((i9:Int)<((bz0 c.wh).length:Int))=false:=by rw[l2];simp;omega
   rw[ga3 hge9]
   repeat'(refine yz ?_)
   refine ac8 (α:=ek0 c.it.length) (fun s=>⟨[(1,.ptr 0 0),(3,.d (.int ((c.ns.length+nd c.e+smT ej7 c.ps+smT nd c.wh+smT (fun x:IT=>nd x.e) (c.it.take s.i):Nat):Int))),(10,.d (.int s.i))],[ej9 c]⟩) (fun s=>c.it.length-s.i) ⟨0,by omega⟩ (by
    dsimp only;rw[show c.ns.length+nd c.e+smT ej7 c.ps+smT nd c.wh+smT (fun x:IT=>nd x.e) (c.it.take 0)=c.ns.length+nd c.e+smT ej7 c.ps+smT nd c.wh by rw[gc8,smT];omega];exact(zle 1)) ?_
   rintro⟨i10,hi10⟩;dsimp only;have hp10:=ej5 (fun x:IT=>nd x.e) c.it i10;rcases fy5 i10 c.it.length with hlt10|hge10
   ·have g10:decide ((i10:Int)<((c.it.map cu1).length:Int))=true:=by rw[l3];simpa using hlt10
    have hx100:=fy4 hlt10;generalize c.it[i10]=x10 at hx100;have hx10:(c.it.map cu1)[(i10:Int).toNat]? =some (cu1 x10):=cz1 (f:=cu1) hx100;have hm10:=fy6 hx100;have ht10:=ej4 (f:=(fun x:IT=>nd x.e)) hx100;have hz10:=ej5 (fun x:IT=>nd x.e) c.it (i10+1);have hsz:=cp4 x10.e (hs.ok.i x10 hm10).2
    repeat'(first|refine yz ?_|refine yi (cu1 x10) hx10 ?_|refine bl6 9 rfl rfl rfl rfl rfl rfl ?_|refine yp b21 hsz ?_)
    refine ac2 ?_;refine⟨⟨i10+1,by omega⟩,by dsimp only;omega,?_⟩;dsimp only;rw[ht10];rw[show((c.ns.length+nd c.e+smT ej7 c.ps+smT nd c.wh+(smT (fun x:IT=>nd x.e) (c.it.take i10)+nd x10.e):Nat):Int)=((c.ns.length+nd c.e+smT ej7 c.ps+smT nd c.wh+smT (fun x:IT=>nd x.e) (c.it.take i10):Nat):Int)+(nd x10.e:Nat) by omega];exact(zle 1)
   ·have g10:decide ((i10:Int)<((c.it.map cu1).length:Int))=false:=by rw[l3];simp;omega
    rw[ga3 hge10]
    repeat'(refine yz ?_)
    refine ac8 (α:=ek0 c.od.length) (fun s=>⟨[(1,.ptr 0 0),(3,.d (.int ((c.ns.length+nd c.e+smT ej7 c.ps+smT nd c.wh+smT (fun x:IT=>nd x.e) c.it+smT (fun x:SK=>nd x.e) (c.od.take s.i):Nat):Int))),(11,.d (.int s.i))],[ej9 c]⟩) (fun s=>c.od.length-s.i) ⟨0,by omega⟩ (by
     dsimp only;rw[show c.ns.length+nd c.e+smT ej7 c.ps+smT nd c.wh+smT (fun x:IT=>nd x.e) c.it+smT (fun x:SK=>nd x.e) (c.od.take 0)=c.ns.length+nd c.e+smT ej7 c.ps+smT nd c.wh+smT (fun x:IT=>nd x.e) c.it by rw[gc8,smT];omega];exact(zle 1)) ?_
    rintro⟨i11,hi11⟩;dsimp only;have hp11:=ej5 (fun x:SK=>nd x.e) c.od i11;rcases fy5 i11 c.od.length with hlt11|hge11
    ·have g11:decide ((i11:Int)<((c.od.map cu2).length:Int))=true:=by rw[l4];simpa using hlt11
     have hx110:=fy4 hlt11;generalize c.od[i11]=x11 at hx110;have hx11:(c.od.map cu2)[(i11:Int).toNat]? =some (cu2 x11):=cz1 (f:=cu2) hx110;have hm11:=fy6 hx110;have ht11:=ej4 (f:=(fun x:SK=>nd x.e)) hx110;have hz11:=ej5 (fun x:SK=>nd x.e) c.od (i11+1);have hsz:=cp4 x11.e (hs.ok.o x11 hm11).2
     repeat'(first|refine yz ?_|refine yi (cu2 x11) hx11 ?_|refine bl6 9 rfl rfl rfl rfl rfl rfl ?_|refine yp b21 hsz ?_)
     refine ac2 ?_;refine⟨⟨i11+1,by omega⟩,by dsimp only;omega,?_⟩;dsimp only;rw[ht11];rw[show((c.ns.length+nd c.e+smT ej7 c.ps+smT nd c.wh+smT (fun x:IT=>nd x.e) c.it+(smT (fun x:SK=>nd x.e) (c.od.take i11)+nd x11.e):Nat):Int)=((c.ns.length+nd c.e+smT ej7 c.ps+smT nd c.wh+smT (fun x:IT=>nd x.e) c.it+smT (fun x:SK=>nd x.e) (c.od.take i11):Nat):Int)+(nd x11.e:Nat) by omega];exact(zle 1)
    ·have g11:decide ((i11:Int)<((c.od.map cu2).length:Int))=false:=by rw[l4];simp;omega
     rw[ga3 hge11]
     repeat'(refine yz ?_)
     refine ac8 (α:=ek0 c.st.length) (fun s=>⟨[(1,.ptr 0 0),(3,.d (.int ((c.ns.length+nd c.e+smT ej7 c.ps+smT nd c.wh+smT (fun x:IT=>nd x.e) c.it+smT (fun x:SK=>nd x.e) c.od+smT (fun x:SIt=>nd x.e) (c.st.take s.i):Nat):Int))),(12,.d (.int s.i))],[ej9 c]⟩) (fun s=>c.st.length-s.i) ⟨0,by omega⟩ (by
      dsimp only;rw[show c.ns.length+nd c.e+smT ej7 c.ps+smT nd c.wh+smT (fun x:IT=>nd x.e) c.it+smT (fun x:SK=>nd x.e) c.od+smT (fun x:SIt=>nd x.e) (c.st.take 0)=c.ns.length+nd c.e+smT ej7 c.ps+smT nd c.wh+smT (fun x:IT=>nd x.e) c.it+smT (fun x:SK=>nd x.e) c.od by rw[gc8,smT];omega];exact(zle 1)) ?_
     rintro⟨i12,hi12⟩;dsimp only;have hp12:=ej5 (fun x:SIt=>nd x.e) c.st i12;rcases fy5 i12 c.st.length with hlt12|hge12
     ·have g12:decide ((i12:Int)<((c.st.map cu3).length:Int))=true:=by rw[l5];simpa using hlt12
      have hx120:=fy4 hlt12;generalize c.st[i12]=x12 at hx120;have hx12:(c.st.map cu3)[(i12:Int).toNat]? =some (cu3 x12):=cz1 (f:=cu3) hx120;have hm12:=fy6 hx120;have ht12:=ej4 (f:=(fun x:SIt=>nd x.e)) hx120;have hz12:=ej5 (fun x:SIt=>nd x.e) c.st (i12+1);have hsz:=cp4 x12.e (hs.ok.s x12 hm12).2
      repeat'(first|refine yz ?_|refine yi (cu3 x12) hx12 ?_|refine yp b21 hsz ?_)
      refine ac2 ?_;refine⟨⟨i12+1,by omega⟩,by dsimp only;omega,?_⟩;dsimp only;rw[ht12];rw[show((c.ns.length+nd c.e+smT ej7 c.ps+smT nd c.wh+smT (fun x:IT=>nd x.e) c.it+smT (fun x:SK=>nd x.e) c.od+(smT (fun x:SIt=>nd x.e) (c.st.take i12)+nd x12.e):Nat):Int)=((c.ns.length+nd c.e+smT ej7 c.ps+smT nd c.wh+smT (fun x:IT=>nd x.e) c.it+smT (fun x:SK=>nd x.e) c.od+smT (fun x:SIt=>nd x.e) (c.st.take i12):Nat):Int)+(nd x12.e:Nat) by omega];exact(zle 1)
     ·have g12:decide ((i12:Int)<((c.st.map cu3).length:Int))=false:=by rw[l5];simp;omega
      rw[ga3 hge12];show go _ _ _ (ao3 _ _ (.d (.int ((c.ns.length+nd c.e+smT ej7 c.ps+smT nd c.wh+smT (fun x:IT=>nd x.e) c.it+smT (fun x:SK=>nd x.e) c.od+smT (fun x:SIt=>nd x.e) c.st:Nat):Int))))
      exact Om
structure STxT(a b:List ByteArray) where
 i:Nat
 hi:i≤a.length
 ok:a.take i=b.take i
theorem ek2(a b:List ByteArray)(hl:a.length≤9223372036854775807):Ev E 12 [.sl (a.map .str),.sl (b.map .str)] (.d (.bool (decide (a=b)))):=by
 have h1:(a.map D.str).length=a.length:=Oc
 have h2:(b.map D.str).length=b.length:=Oc
 cases hc:((a.map D.str).length:Int)==((b.map D.str).length:Int)with
 |false=>
  have g1:(!(((a.map D.str).length:Int)==((b.map D.str).length:Int)))=true:=by rw[hc];rfl
  have hne:=yF (a=b) fun e=>by subst e;simp at hc
  rw[hne];refine ye2 func12 ntmps12 fun _ _ _=>?_
  exact Om
 |true=>
  have g1:(!(((a.map D.str).length:Int)==((b.map D.str).length:Int)))=false:=by rw[hc];rfl
  have he:a.length=b.length:=by have:=beq_iff_eq.1 hc;rw[h1,h2]at this;omega
  refine ye2 func12 ntmps12 fun _ _ _=>?_
  repeat'(refine yz ?_)
  refine ac8 (α:=STxT a b) (fun s=>⟨[(0,.d (.sl (a.map .str))),(1,.d (.sl (b.map .str))),(5,.d (.int s.i))],[]⟩) (fun s=>a.length-s.i) ⟨0,by omega,rfl⟩ (zle 0) ?_;rintro⟨i,hi,ok⟩;dsimp only;rcases fy5 i a.length with hlt|hge
  ·have g2:decide ((i:Int)<((a.map D.str).length:Int))=true:=by rw[h1];simpa using hlt
   have hx0:=fy4 hlt;have hy0:=fy4 (l:=b) (i:=i) Oa;generalize a[i]=x at hx0;generalize b[i]'Oa=y at hy0;have hx:=cz1 (f:=D.str) hx0;have hy:=cz1 (f:=D.str) hy0
   cases hq:x.toList==y.toList with
   |true=>
    have g3:(!(x.toList==y.toList))=false:=by rw[hq];rfl
    obtain rfl:=dc2 (by simpa using hq:x.toList=y.toList)
    repeat'(first|refine yz ?_|refine yi (.str x) hx ?_|refine yi (.str x) hy ?_)
    refine ac2 ?_;exact⟨⟨i+1,by omega,by rw[gd7,gd7,hx0,hy0,ok]⟩,by dsimp only;omega,(zle 0)⟩
   |false=>
    have g3:(!(x.toList==y.toList))=true:=by rw[hq];rfl
    have hne:=yF (a=b) fun e=>by
     subst e;rw[hx0]at hy0
     cases hy0
     simp at hq
    rw[hne]
    repeat'(first|refine yz ?_|refine yi (.str x) hx ?_|refine yi (.str y) hy ?_|exact zD)
  ·have g2:decide ((i:Int)<((a.map D.str).length:Int))=false:=by rw[h1];simp;omega
   rw[ga3 hge,ga3 Oa]at ok;rw[decide_eq_true ok]
   exact Om
mutual
def wtP:Pl→Nat
 |.mk b ks=>1+b.cj.vs.length+b.cj.as.length+ej8 b.cl+nd b.e+smT (fun x:IT=>nd x.e) b.it+smT (fun x:SK=>nd x.e) b.od+ek3 ks
def ek3:List Pl→Nat
 |[]=>0
 |p::r=>wtP p+ek3 r
end
theorem ek4:∀a b:List Pl,ek3 (a++b)=ek3 a+ek3 b
 |[],b=>by rw[gb7,ek3];omega
 |x::r,b=>by rw[gb4,ek3,ek3,ek4 r b];omega
theorem ek5{l:List Pl}{i:Nat}{x:Pl}(h:l[i]? =some x):ek3 (l.take (i+1))=ek3 (l.take i)+wtP x:=by
 rw[gd7,h,ek4];show _+ek3 [x]=_;rw[ek3,ek3];omega
theorem ek6(l:List Pl)(i:Nat):ek3 (l.take i)≤ek3 l:=by
 have h:=ek4 (l.take i) (l.drop i);rw[gf7]at h;omega
theorem ek7:∀{l:List Pl} {p:Pl},p∈l→wtP p≤ek3 l
 |a::r,p,h=>by
  rw[ek3];rcases fz0.1 h with rfl|h
  ·omega
  ·have:=ek7 h;omega
theorem vs_wt(p:Pl):vsP p≤wtP p:=by
 refine do6 (P:=fun p=>vsP p≤wtP p) (fun b ks ih=>?_) p
 have key:∀l:List Pl,(∀x∈l,vsP x≤wtP x)→ei7 l≤ek3 l:=by
  intro l
  induction l with
  |nil=>intro _;exact fz6 _
  |cons a r ihr=>
   intro h;have h1:=h a Oc;have h2:=ihr fun x hx=>h x (by simp[hx])
   rw[ei7,ek3];omega
 have:=key ks ih;rw[vsP,wtP];omega
theorem sz_wt(p:Pl):szP p≤wtP p:=by
 refine do6 (P:=fun p=>szP p≤wtP p) (fun b ks ih=>?_) p
 have key:∀l:List Pl,(∀x∈l,szP x≤wtP x)→dr4 l≤ek3 l:=by
  intro l
  induction l with
  |nil=>intro _;exact fz6 _
  |cons a r ihr=>
   intro h;have h1:=h a Oc;have h2:=ihr fun x hx=>h x (by simp[hx])
   rw[dr4,ek3];omega
 have:=key ks ih;rw[szP,wtP];omega
theorem ek8{α:Type}{f:α→Nat}{g:α→D}:∀{l:List α},(∀x∈l,f x≤bi2 (g x))→smT f l≤bi3 (l.map g)
 |[],_=>ga8 _
 |a::r,h=>by
  have h1:=h a Oc;have h2:=ek8 (f:=f) (g:=g) (l:=r) fun x hx=>h x (by simp[hx])
  rw[smT,fz7,bi3];omega
theorem ek9(e:Ex):nd e+1≤bi2 (bz1 e):=by
 have h:=dg5 e;have h2:1≤nd e:=by rw[cp0];omega
 omega
theorem el0:∀(ns:List NP) (es:List EP),smT nd (cv8 (cv3 ns es))≤smT (fun n:NP=>smT (fun q:PP=>nd q.e) n.ps) ns+smT (fun n:EP=>smT (fun q:PP=>nd q.e) n.ps) es
 |[],es=>by rw[cv3];exact ga8 _
 |n::r,[]=>by
  have ih:=el0 r [];have e0:cv8 (cv3 (n::r) [])=n.ps.map (fun p=>p.e)++cv8 (cv3 r []):=by rw[cv3];unfold cv8;rw[gc7];rfl
  have e1:=smT_map n.ps;rw[e0,ej3,e1];simp only[smT]at*;omega
 |n::r,x::q=>by
  have ih:=el0 r q;have e0:cv8 (cv3 (n::r) (x::q))=n.ps.map (fun p=>p.e)++(x.ps.map (fun p=>p.e)++cv8 (cv3 r q)):=by rw[cv3];unfold cv8;rw[gc7,gc7];rfl
  have e1:=smT_map n.ps;have e2:=smT_map x.ps;rw[e0,ej3,ej3,e1,e2];simp only[smT]at*;omega
where
 smT_map:∀l:List PP,smT nd (l.map fun p=>p.e)=smT (fun q:PP=>nd q.e) l
  |[]=>rfl
  |a::r=>by rw[fz7,smT,smT,smT_map r]
theorem el1{α:Type}(f g:α→Nat):∀l:List α,smT (fun x=>f x+g x) l=smT f l+smT g l
 |[]=>rfl
 |a::r=>by rw[smT,smT,smT,el1 f g r];omega
theorem el2{α:Type}:∀l:List α,smT (fun _=>1) l=l.length
 |[]=>rfl
 |a::r=>by rw[smT,el2 r,fy7];omega
theorem el3(l:List PP):smT (fun q:PP=>nd q.e) l+l.length≤bi3 (l.map ct7):=by
 have h:=ek8 (f:=fun q:PP=>nd q.e+1) (g:=ct7) (l:=l) fun q _=>by have h1:=ek9 q.e;have h2:=(eg9 q).1;omega
 rw[el1,el2]at h;exact h
theorem el4(p:PA):ej7 p≤bi2 (cu0 p):=by
 have h:=eh5 p;have hx:=el0 p.ns p.es
 have hn:=ek8 (f:=fun n:NP=>smT (fun q:PP=>nd q.e) n.ps+(n.lb.length+n.ps.length)+1) (g:=ct8) (l:=p.ns) fun n _=>by
  have h1:=el3 n.ps;have h2:=eg6 n.lb
  have h3:bi2 (ct8 n)=n.vr.size+1+(bi3 (n.lb.map D.str)+1+(bi3 (n.ps.map ct7)+1)):=by
   show bi2 (.agg [.imm (.string n.vr),.sl (n.lb.map .str),.sl (n.ps.map ct7)])=_;simp only[bi2,bi3]<;>omega
  omega
 have he:=ek8 (f:=fun n:EP=>smT (fun q:PP=>nd q.e) n.ps+(n.ty.length+n.ps.length)+1) (g:=ct9) (l:=p.es) fun n _=>by
  have h1:=el3 n.ps;have h2:=eg6 n.ty
  have h3:bi2 (ct9 n)=n.vr.size+1+(bi3 (n.ty.map D.str)+1+(4+(bi3 (n.ps.map ct7)+1))):=by
   show bi2 (.agg [.imm (.string n.vr),.sl (n.ty.map .str),.int n.dir,.int n.mode,.int n.mn,.int n.mx,.sl (n.ps.map ct7)])=_;simp only[bi2,bi3,D.int]<;>omega
  omega
 rw[el1,el2,el1]at hn he;unfold ej7;omega
theorem el5(c:CL):ej8 c≤bi2 (cu4 c):=by
 have h:=ei1 c;have h1:=ek8 (f:=ej7) (g:=cu0) (l:=c.ps) fun p _=>el4 p
 have h2:=ek8 (f:=nd) (g:=bz1) (l:=c.wh) fun e _=>by have:=ek9 e;omega
 rw[←bz2]at h2;have h3:=ek8 (f:=fun x:IT=>nd x.e) (g:=cu1) (l:=c.it) fun x _=>by have h1:=ek9 x.e;have h2:=(eh1 x).1;omega
 have h4:=ek8 (f:=fun x:SK=>nd x.e) (g:=cu2) (l:=c.od) fun x _=>by have h1:=ek9 x.e;have h2:=(eh2 x).1;omega
 have h5:=ek8 (f:=fun x:SIt=>nd x.e) (g:=cu3) (l:=c.st) fun x _=>by have h1:=ek9 x.e;have h2:=(eh0 x).1;omega
 have h6:=eg6 c.ns;have h7:=ek9 c.e;unfold ej8;omega
theorem el6(p:Pl):wtP p≤bi2 (do8 p):=by
 refine do6 (P:=fun p=>wtP p≤bi2 (do8 p)) (fun b ks ih=>?_) p;have hb:=ei5 b (ks.map do8)
 have key:∀l:List Pl,(∀x∈l,wtP x≤bi2 (do8 x))→ek3 l≤bi3 (l.map do8):=by
  intro l
  induction l with
  |nil=>intro _;exact fz6 _
  |cons a r ihr=>
   intro h;have h1:=h a Oc;have h2:=ihr fun x hx=>h x (by simp[hx])
   rw[ek3,fz7,bi3];omega
 have hk:=key ks ih;have h1:=eg6 b.cj.vs
 have h2:=eg5 1 (L:=b.cj.as.map cj6) fun d hd=>by
  obtain⟨a,-,rfl⟩:=ga1.1 hd;unfold cj6;simp only[bi2,bi3];omega
 rw[fz3]at h2;have h3:=el5 b.cl;have h4:=ek9 b.e;have h5:=ek8 (f:=fun x:IT=>nd x.e) (g:=cu1) (l:=b.it) fun x _=>by have h1:=ek9 x.e;have h2:=(eh1 x).1;omega
 have h6:=ek8 (f:=fun x:SK=>nd x.e) (g:=cu2) (l:=b.od) fun x _=>by have h1:=ek9 x.e;have h2:=(eh2 x).1;omega
 rw[dp1,wtP];omega
abbrev el7(b:PB)(K:List D):aa5:=.var 40 (.w (.d (do7 b K)))
set_option maxHeartbeats 4000000 in
theorem el8(p:Pl):bi2 (do8 p)≤1048576→Ev E 8 [do8 p] (.d (.int (wtP p))):=by
 refine do6 (P:=fun p=>bi2 (do8 p)≤1048576→Ev E 8 [do8 p] (.d (.int (wtP p)))) (fun b ks ih h=>?_) p;have hwb:=el6 (.mk b ks);rw[dp1]at h hwb ⊢;rw[wtP]at hwb;have hb:=ei5 b (ks.map do8);have hs:=ei4 (c:=b.cl) Oa;have hm:=ek1 b.cl hs Oa;have hse:=cp4 b.e (ei3 (e:=b.e) Oa);have hix:∀x∈b.it,nd x.e≤1000000:=fun x hx=>ei3 (by have g1:=eg4 (gc4 (f:=cu1) hx);have g2:=(eh1 x).1;omega)
 have hox:∀x∈b.od,nd x.e≤1000000:=fun x hx=>ei3 (by have g1:=eg4 (gc4 (f:=cu2) hx);have g2:=(eh2 x).1;omega)
 have hkx:∀x∈ks,Ev E 8 [do8 x] (.d (.int (wtP x))):=fun x hx=>ih x hx (by have:=eg4 (gc4 (f:=do8) hx);omega)
 have l1:(b.it.map cu1).length=b.it.length:=Oc
 have l2:(b.od.map cu2).length=b.od.length:=Oc
 have l3:(ks.map do8).length=ks.length:=Oc
 have l4:(b.cj.vs.map D.str).length=b.cj.vs.length:=Oc
 have l5:(b.cj.as.map cj6).length=b.cj.as.length:=Oc
 have k1:b.it.length≤1048576:=by have:=eg5 1 (L:=b.it.map cu1) fun d hd=>by{obtain⟨p,-,rfl⟩:=ga1.1 hd;exact(eh1 p).2.1};rw[l1]at this;omega
 have k2:b.od.length≤1048576:=by have:=eg5 1 (L:=b.od.map cu2) fun d hd=>by{obtain⟨p,-,rfl⟩:=ga1.1 hd;exact(eh2 p).2};rw[l2]at this;omega
 have k3:ks.length≤1048576:=by
  have:=eg5 5 (L:=ks.map do8) fun d hd=>by{obtain⟨⟨b',k'⟩,-,rfl⟩:=ga1.1 hd;rw[dp1];have:=ei5 b' (k'.map do8);omega}
  rw[l3]at this;omega
 obtain⟨B,hB⟩:∃B,B=1+b.cj.vs.length+b.cj.as.length+ej8 b.cl+nd b.e:=⟨_,rfl⟩;have hBW:wtP (.mk b ks)=B+smT (fun x:IT=>nd x.e) b.it+smT (fun x:SK=>nd x.e) b.od+ek3 ks:=by rw[wtP,hB]
 rw[hBW];rw[←hB]at hwb;have hle:B+smT (fun x:IT=>nd x.e) b.it+smT (fun x:SK=>nd x.e) b.od+ek3 ks≤1048576:=Oa
 clear ih hwb hBW;refine ye1 func8 ntmps8 fun _ _ _=>?_
 repeat'(first|refine yz ?_|refine yp b20 hm ?_|refine yp b21 hse ?_)
 refine ac8 (α:=ek0 b.it.length) (fun s=>⟨[(1,.ptr 0 0),(3,.d (.int ((B+smT (fun x:IT=>nd x.e) (b.it.take s.i):Nat):Int))),(4,.d (.int s.i))],[el7 b (ks.map do8)]⟩) (fun s=>b.it.length-s.i) ⟨0,by omega⟩ (by
  dsimp only;rw[show B+smT (fun x:IT=>nd x.e) (b.it.take 0)=B by rw[gc8,smT];omega]
  exact(by
   have eb:(1:Int)+((b.cj.vs.map D.str).length:Int)+((b.cj.as.map cj6).length:Int)+((ej8 b.cl:Nat):Int)+((nd b.e:Nat):Int)=((B:Nat):Int):=by rw[l4,l5,hB];omega
   rw[←eb];exact(zle 1))) ?_
 rintro⟨i4,hi4⟩;dsimp only;have hp4:=ej5 (fun x:IT=>nd x.e) b.it i4;rcases fy5 i4 b.it.length with hlt4|hge4
 ·have g4:decide ((i4:Int)<((b.it.map cu1).length:Int))=true:=by rw[l1];simpa using hlt4
  have hx40:=fy4 hlt4;generalize b.it[i4]=x4 at hx40;have hx4:(b.it.map cu1)[(i4:Int).toNat]? =some (cu1 x4):=cz1 (f:=cu1) hx40;have hm4:=fy6 hx40;have ht4:=ej4 (f:=(fun x:IT=>nd x.e)) hx40;have hz4:=ej5 (fun x:IT=>nd x.e) b.it (i4+1);have hsz:=cp4 x4.e (hix x4 hm4)
  repeat'(first|refine yz ?_|refine yi (cu1 x4) hx4 ?_|refine bl6 9 rfl rfl rfl rfl rfl rfl ?_|refine yp b21 hsz ?_)
  refine ac2 ?_;refine⟨⟨i4+1,by omega⟩,by dsimp only;omega,?_⟩;dsimp only;rw[ht4];rw[show((B+(smT (fun x:IT=>nd x.e) (b.it.take i4)+nd x4.e):Nat):Int)=((B+smT (fun x:IT=>nd x.e) (b.it.take i4):Nat):Int)+(nd x4.e:Nat) by omega];exact(zle 1)
 ·have g4:decide ((i4:Int)<((b.it.map cu1).length:Int))=false:=by rw[l1];simp;omega
  rw[ga3 hge4]
  repeat'(refine yz ?_)
  refine ac8 (α:=ek0 b.od.length) (fun s=>⟨[(1,.ptr 0 0),(3,.d (.int ((B+smT (fun x:IT=>nd x.e) b.it+smT (fun x:SK=>nd x.e) (b.od.take s.i):Nat):Int))),(5,.d (.int s.i))],[el7 b (ks.map do8)]⟩) (fun s=>b.od.length-s.i) ⟨0,by omega⟩ (by
   dsimp only;rw[show B+smT (fun x:IT=>nd x.e) b.it+smT (fun x:SK=>nd x.e) (b.od.take 0)=B+smT (fun x:IT=>nd x.e) b.it by rw[gc8,smT];omega];exact(zle 1)) ?_
  rintro⟨i5,hi5⟩;dsimp only;have hp5:=ej5 (fun x:SK=>nd x.e) b.od i5;rcases fy5 i5 b.od.length with hlt5|hge5
  ·have g5:decide ((i5:Int)<((b.od.map cu2).length:Int))=true:=by rw[l2];simpa using hlt5
   have hx50:=fy4 hlt5;generalize b.od[i5]=x5 at hx50;have hx5:(b.od.map cu2)[(i5:Int).toNat]? =some (cu2 x5):=cz1 (f:=cu2) hx50;have hm5:=fy6 hx50;have ht5:=ej4 (f:=(fun x:SK=>nd x.e)) hx50;have hz5:=ej5 (fun x:SK=>nd x.e) b.od (i5+1);have hsz:=cp4 x5.e (hox x5 hm5)
   repeat'(first|refine yz ?_|refine yi (cu2 x5) hx5 ?_|refine bl6 9 rfl rfl rfl rfl rfl rfl ?_|refine yp b21 hsz ?_)
   refine ac2 ?_;refine⟨⟨i5+1,by omega⟩,by dsimp only;omega,?_⟩;dsimp only;rw[ht5];rw[show((B+smT (fun x:IT=>nd x.e) b.it+(smT (fun x:SK=>nd x.e) (b.od.take i5)+nd x5.e):Nat):Int)=((B+smT (fun x:IT=>nd x.e) b.it+smT (fun x:SK=>nd x.e) (b.od.take i5):Nat):Int)+(nd x5.e:Nat) by omega];exact(zle 1)
  ·have g5:decide ((i5:Int)<((b.od.map cu2).length:Int))=false:=by rw[l2];simp;omega
   rw[ga3 hge5]
   repeat'(refine yz ?_)
   refine ac8 (α:=ek0 ks.length) (fun s=>⟨[(1,.ptr 0 0),(3,.d (.int ((B+smT (fun x:IT=>nd x.e) b.it+smT (fun x:SK=>nd x.e) b.od+ek3 (ks.take s.i):Nat):Int))),(6,.d (.int s.i))],[el7 b (ks.map do8)]⟩) (fun s=>ks.length-s.i) ⟨0,by omega⟩ (by
    dsimp only;rw[show B+smT (fun x:IT=>nd x.e) b.it+smT (fun x:SK=>nd x.e) b.od+ek3 (ks.take 0)=B+smT (fun x:IT=>nd x.e) b.it+smT (fun x:SK=>nd x.e) b.od by rw[gc8,ek3];omega];exact(zle 1)) ?_
   rintro⟨i6,hi6⟩;dsimp only;have hp6:=ek6 ks i6;rcases fy5 i6 ks.length with hlt6|hge6
   ·have g6:decide ((i6:Int)<((ks.map do8).length:Int))=true:=by rw[l3];simpa using hlt6
    have hx60:=fy4 hlt6;generalize ks[i6]=x6 at hx60;have hx6:=cz1 (f:=do8) hx60;have hm6:=fy6 hx60;have ht6:=ek5 hx60;have hz6:=ek6 ks (i6+1);have hc6:=hkx x6 hm6;have hx6w:=ek7 hm6;rw[eb6]at hx6 hc6
    repeat'(first|refine yz ?_|refine qI (do7 x6.b (x6.ks.map do8)) rfl (ap9 rfl) rfl rfl rfl rfl rfl rfl Oh hx6 ?_|refine yp b8 hc6 ?_)
    refine ac2 ?_;refine⟨⟨i6+1,by omega⟩,by dsimp only;omega,?_⟩;dsimp only;rw[ht6];rw[show((B+smT (fun x:IT=>nd x.e) b.it+smT (fun x:SK=>nd x.e) b.od+(ek3 (ks.take i6)+wtP x6):Nat):Int)=((B+smT (fun x:IT=>nd x.e) b.it+smT (fun x:SK=>nd x.e) b.od+ek3 (ks.take i6):Nat):Int)+(wtP x6:Nat) by omega];exact(zle 1)
   ·have g6:decide ((i6:Int)<((ks.map do8).length:Int))=false:=by rw[l3];simp;omega
    rw[ga3 hge6]
    exact Om
end Go.Proofs.YtndgolmgaenlfaaGreatDoor
namespace Go.Proofs.YtndgolmgaenlfaaGreatDoor
set_option maxRecDepth 4000
open Go Go.Abs Go.Val Go.RowKit Go.Proofs.Tryz
attribute [local irreducible] go SGo an9 Ev aw1 EvO EvS RGo RGw PGo
end Go.Proofs.YtndgolmgaenlfaaGreatDoor
