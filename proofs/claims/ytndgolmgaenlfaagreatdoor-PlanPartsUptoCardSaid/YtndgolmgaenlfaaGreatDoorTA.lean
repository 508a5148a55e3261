/- The weight of a plan, by the specification; two lists of texts compared; The weight of a plan, by the specification, and what it bounds; The laws PlanChecks and PlanNests in plain engine's terms, given that the chapter's examples hold. Conditions: each part's own, as it says. -/
import Derived.Test.YtndgolmgaenlfaaGreatDoorGC
import Derived.Test.YtndgolmgaenlfaaGreatDoorPB
import Derived.Test.YtndgolmgaenlfaaGreatDoorCA
import Derived.Test.YtndgolmgaenlfaaGreatDoorFA
import Derived.Test.YtndgolmgaenlfaaGreatDoorKA
import Derived.Test.YtndgolmgaenlfaaGreatDoorFB
set_option linter.unusedVariables false
set_option linter.unusedSimpArgs false
namespace Go.Proofs.YtndgolmgaenlfaaGreatDoor
set_option maxRecDepth 4000
open Go Go.Abs Go.Val Go.RowKit Go.Proofs.Tryz
attribute [local irreducible] go SGo an1 Ev au7 EvO EvS RGo RGw PGo
def smT{α:Type}(f:α→Nat):List α→Nat
 |[]=>0
 |x::r=>f x+smT f r
theorem dz8{α:Type}(f:α→Nat):∀a b:List α,smT f (a++b)=smT f a+smT f b
 |[],b=>by simp[smT]
 |x::r,b=>by rw[fc6,smT,smT,dz8 f r b];omega
theorem dz9{α:Type}{f:α→Nat}{l:List α}{i:Nat}{x:α}(h:l[i]? =some x):smT f (l.take (i+1))=smT f (l.take i)+f x:=by
 rw[fc0,h,dz8];show _+(f x+0)=_;omega
theorem ea0{α:Type}(f:α→Nat)(l:List α)(i:Nat):smT f (l.take i)≤smT f l:=by
 have h:=dz8 f (l.take i) (l.drop i);rw[fd9]at h;omega
theorem ea1{α:Type}{f:α→Nat}:∀{l:List α} {x:α},x∈l→f x≤smT f l
 |a::r,x,h=>by
  rw[smT];rcases ey2.1 h with rfl|h
  ·omega
  ·have:=ea1 (f:=f) h;omega
def ea2(p:PA):Nat:=p.ns.length+p.es.length+smT nd (ck6 (ck1 p.ns p.es))+smT (fun e:EP=>e.ty.length+e.ps.length) p.es+smT (fun n:NP=>n.lb.length+n.ps.length) p.ns
def ea3(c:CL):Nat:=c.ns.length+nd c.e+smT ea2 c.ps+smT nd c.wh+smT (fun x:IT=>nd x.e) c.it+smT (fun x:SK=>nd x.e) c.od+smT (fun x:SIt=>nd x.e) c.st
abbrev ea4(c:CL):aa5:=.var 38 (.w (.d (cj2 c)))
structure ea5(n:Nat) where
 i:Nat
 hi:i≤n
set_option maxHeartbeats 8000000 in
theorem ea6(c:CL)(hs:SmC c)(hb:ea3 c≤1000000000):Ev E 20 [cj2 c] (.d (.int (ea3 c))):=Ev.fit fun hfit=>by
 have hfc:=(hfit (cj2 c) Oc).aggs;have m1:c.ps.length≤9223372036854775807:=(co0 (hfc (.sl (c.ps.map ci8)) (by simp[cj2]))).1;have m2:c.wh.length≤9223372036854775807:=(bv3 (hfc (.sl (bu4 c.wh)) (by simp[cj2]))).1;have m3:c.it.length≤9223372036854775807:=(co0 (hfc (.sl (c.it.map ci9)) (by simp[cj2]))).1;have m4:c.od.length≤9223372036854775807:=(co0 (hfc (.sl (c.od.map cj0)) (by simp[cj2]))).1;have m5:c.st.length≤9223372036854775807:=(co0 (hfc (.sl (c.st.map cj1)) (by simp[cj2]))).1;have l1:(c.ps.map ci8).length=c.ps.length:=Oc
 have l2:(bu4 c.wh).length=c.wh.length:=bv1 _;have l3:(c.it.map ci9).length=c.it.length:=Oc
 have l4:(c.od.map cj0).length=c.od.length:=Oc
 have l5:(c.st.map cj1).length=c.st.length:=Oc
 have l6:(c.ns.map D.str).length=c.ns.length:=Oc
 have hse:=ce2 c.e hs.ok.e.2;have b0:=hb;unfold ea3 at b0;clear hfc hfit;refine ye1 func20 ntmps20 fun _ _ _=>?_
 repeat'(first|refine yz ?_|refine yp b21 hse ?_)
 refine ac7 (α:=ea5 c.ps.length) (fun s=>⟨[(1,.ptr 0 0),(3,.d (.int ((c.ns.length+nd c.e+smT ea2 (c.ps.take s.i):Nat):Int))),(4,.d (.int s.i))],[ea4 c]⟩) (fun s=>c.ps.length-s.i) ⟨0,by omega⟩ (by
  dsimp only;rw[show c.ns.length+nd c.e+smT ea2 (c.ps.take 0)=c.ns.length+nd c.e by rw[fc7,smT];omega];exact(by
  have eb:((c.ns.map D.str).length:Int)+((nd c.e:Nat):Int)=((c.ns.length+nd c.e:Nat):Int):=by rw[l6];omega
  rw[←eb];exact(zle 1))) ?_
 rintro⟨i4,hi4⟩;dsimp only;have hp4:=ea0 ea2 c.ps i4;rcases ex7 i4 c.ps.length with hlt4|hge4
 ·have g4:decide ((i4:Int)<((c.ps.map ci8).length:Int))=true:=by rw[l1];simpa using hlt4
  have hx40:=ex6 hlt4;generalize c.ps[i4]=x4 at hx40;have hx4:(c.ps.map ci8)[(i4:Int).toNat]? =some (ci8 x4):=cn9 (f:=ci8) hx40;have hm4:=ey0 hx40;have ht4:=dz9 (f:=ea2) hx40;have hz4:=ea0 ea2 c.ps (i4+1);have hok:=hs.ok.p x4 hm4;have hpr:=dk0 x4 hok.x hok.n;have hpm:ea2 x4≤smT ea2 c.ps:=ea1 hm4;unfold ea2 at hpm;have q1:(x4.ns.map ci6).length=x4.ns.length:=Oc
  have q2:(x4.es.map ci7).length=x4.es.length:=Oc
  have hoe:=hok.e;obtain⟨B,hB⟩:∃B,B=c.ns.length+nd c.e+smT ea2 (c.ps.take i4):=⟨_,rfl⟩;rw[←hB];have hBb:B+ea2 x4≤1000000000:=Oa
  unfold ea2 at hBb;obtain⟨X,hX⟩:∃X,X=ck6 (ck1 x4.ns x4.es):=⟨_,rfl⟩;have hman:ea2 x4=x4.ns.length+x4.es.length+smT nd X+smT (fun e:EP=>e.ty.length+e.ps.length) x4.es+smT (fun n:NP=>n.lb.length+n.ps.length) x4.ns:=by rw[hX];rfl
  rw[←hX]at hpr hoe hBb hpm;have hXl:(X.map bu5).length=X.length:=Oc
  have hXm:=hok.x;rw[←hX]at hXm
  repeat'(first|refine yz ?_|refine yi (ci8 x4) hx4 ?_|refine yp b33 hpr ?_)
  refine ac7 (α:=ea5 X.length) (fun s=>⟨[(1,.ptr 0 0),(3,.d (.int ((B+x4.ns.length+x4.es.length+smT nd (X.take s.i):Nat):Int))),(6,.d (.int s.i)),(4,.d (.int i4)),(5,.d (.sl (X.map bu5)))],[ea4 c]⟩) (fun s=>X.length-s.i) ⟨0,by omega⟩ (by
   dsimp only;rw[show B+x4.ns.length+x4.es.length+smT nd (X.take 0)=B+x4.ns.length+x4.es.length by rw[fc7,smT];omega];exact(by
   have eb:((B:Nat):Int)+((x4.ns.map ci6).length:Int)+((x4.es.map ci7).length:Int)=((B+x4.ns.length+x4.es.length:Nat):Int):=by rw[q1,q2];omega
   rw[←eb];exact(zle 1))) ?_
  rintro⟨i6,hi6⟩;dsimp only;have hp6:=ea0 nd X i6;rcases ex7 i6 X.length with hlt6|hge6
  ·have g6:decide ((i6:Int)<((X.map bu5).length:Int))=true:=by rw[hXl];simpa using hlt6
   have hx60:=ex6 hlt6;generalize X[i6]=x6 at hx60;have hx6:(X.map bu5)[(i6:Int).toNat]? =some (bu5 x6):=cn9 (f:=bu5) hx60;have hm6:=ey0 hx60;have ht6:=dz9 (f:=nd) hx60;have hz6:=ea0 nd X (i6+1);have hsz:=ce2 x6 (hoe x6 hm6).2
   repeat'(first|refine yz ?_|refine yi (bu5 x6) hx6 ?_|refine yp b21 hsz ?_)
   refine ac1 ?_;refine⟨⟨i6+1,by omega⟩,by dsimp only;omega,?_⟩;dsimp only;rw[ht6];rw[show((B+x4.ns.length+x4.es.length+(smT nd (X.take i6)+nd x6):Nat):Int)=((B+x4.ns.length+x4.es.length+smT nd (X.take i6):Nat):Int)+(nd x6:Nat) by omega];exact(zle 1)
  ·have g6:decide ((i6:Int)<((X.map bu5).length:Int))=false:=by rw[hXl];simp;omega
   rw[ez9 hge6]
   repeat'(refine yz ?_)
   refine ac7 (α:=ea5 x4.es.length) (fun s=>⟨[(1,.ptr 0 0),(3,.d (.int ((B+x4.ns.length+x4.es.length+smT nd X+smT (fun e:EP=>e.ty.length+e.ps.length) (x4.es.take s.i):Nat):Int))),(7,.d (.int s.i)),(4,.d (.int i4))],[ea4 c]⟩) (fun s=>x4.es.length-s.i) ⟨0,by omega⟩ (by
    dsimp only;rw[show B+x4.ns.length+x4.es.length+smT nd X+smT (fun e:EP=>e.ty.length+e.ps.length) (x4.es.take 0)=B+x4.ns.length+x4.es.length+smT nd X by rw[fc7,smT];omega];exact(zle 1)) ?_
   rintro⟨i7,hi7⟩;dsimp only;have hp7:=ea0 (fun e:EP=>e.ty.length+e.ps.length) x4.es i7;rcases ex7 i7 x4.es.length with hlt7|hge7
   ·have g7:decide ((i7:Int)<((x4.es.map ci7).length:Int))=true:=by rw[q2];simpa using hlt7
    have hx70:=ex6 hlt7;generalize x4.es[i7]=x7 at hx70;have hx7:(x4.es.map ci7)[(i7:Int).toNat]? =some (ci7 x7):=cn9 (f:=ci7) hx70;have hm7:=ey0 hx70;have ht7:=dz9 (f:=(fun e:EP=>e.ty.length+e.ps.length)) hx70;have hz7:=ea0 (fun e:EP=>e.ty.length+e.ps.length) x4.es (i7+1);have r1:(x7.ty.map D.str).length=x7.ty.length:=Oc
    have r2:(x7.ps.map ci5).length=x7.ps.length:=Oc
    have hx7s:=ea1 (f:=(fun e:EP=>e.ty.length+e.ps.length)) hm7
    try dsimp only at hx7s
    repeat'(first|refine yz ?_|refine yi (ci8 x4) hx4 ?_|refine yi (ci7 x7) hx7 ?_)
    refine ac1 ?_;refine⟨⟨i7+1,by omega⟩,by dsimp only;omega,?_⟩;dsimp only;rw[ht7];rw[show((B+x4.ns.length+x4.es.length+smT nd X+(smT (fun e:EP=>e.ty.length+e.ps.length) (x4.es.take i7)+(x7.ty.length+x7.ps.length)):Nat):Int)=((B+x4.ns.length+x4.es.length+smT nd X+smT (fun e:EP=>e.ty.length+e.ps.length) (x4.es.take i7):Nat):Int)+((x7.ty.map D.str).length:Int)+((x7.ps.map ci5).length:Int) by omega];exact(zle 1)
   ·have g7:decide ((i7:Int)<((x4.es.map ci7).length:Int))=false:=by rw[q2];simp;omega
    rw[ez9 hge7]
    repeat'(first|refine yz ?_|refine yi (ci8 x4) hx4 ?_)
    refine ac7 (α:=ea5 x4.ns.length) (fun s=>⟨[(1,.ptr 0 0),(3,.d (.int ((B+x4.ns.length+x4.es.length+smT nd X+smT (fun e:EP=>e.ty.length+e.ps.length) x4.es+smT (fun n:NP=>n.lb.length+n.ps.length) (x4.ns.take s.i):Nat):Int))),(8,.d (.int s.i)),(4,.d (.int i4))],[ea4 c]⟩) (fun s=>x4.ns.length-s.i) ⟨0,by omega⟩ (by
     dsimp only;rw[show B+x4.ns.length+x4.es.length+smT nd X+smT (fun e:EP=>e.ty.length+e.ps.length) x4.es+smT (fun n:NP=>n.lb.length+n.ps.length) (x4.ns.take 0)=B+x4.ns.length+x4.es.length+smT nd X+smT (fun e:EP=>e.ty.length+e.ps.length) x4.es by rw[fc7,smT];omega];exact(zle 1)) ?_
    rintro⟨i8,hi8⟩;dsimp only;have hp8:=ea0 (fun n:NP=>n.lb.length+n.ps.length) x4.ns i8;rcases ex7 i8 x4.ns.length with hlt8|hge8
    ·have g8:decide ((i8:Int)<((x4.ns.map ci6).length:Int))=true:=by rw[q1];simpa using hlt8
     have hx80:=ex6 hlt8;generalize x4.ns[i8]=x8 at hx80;have hx8:(x4.ns.map ci6)[(i8:Int).toNat]? =some (ci6 x8):=cn9 (f:=ci6) hx80;have hm8:=ey0 hx80;have ht8:=dz9 (f:=(fun n:NP=>n.lb.length+n.ps.length)) hx80;have hz8:=ea0 (fun n:NP=>n.lb.length+n.ps.length) x4.ns (i8+1);have r1:(x8.lb.map D.str).length=x8.lb.length:=Oc
     have r2:(x8.ps.map ci5).length=x8.ps.length:=Oc
     have hx8s:=ea1 (f:=(fun n:NP=>n.lb.length+n.ps.length)) hm8
     try dsimp only at hx8s
     repeat'(first|refine yz ?_|refine yi (ci8 x4) hx4 ?_|refine yi (ci6 x8) hx8 ?_)
     refine ac1 ?_;refine⟨⟨i8+1,by omega⟩,by dsimp only;omega,?_⟩;dsimp only;rw[ht8];rw[show((B+x4.ns.length+x4.es.length+smT nd X+smT (fun e:EP=>e.ty.length+e.ps.length) x4.es+(smT (fun n:NP=>n.lb.length+n.ps.length) (x4.ns.take i8)+(x8.lb.length+x8.ps.length)):Nat):Int)=((B+x4.ns.length+x4.es.length+smT nd X+smT (fun e:EP=>e.ty.length+e.ps.length) x4.es+smT (fun n:NP=>n.lb.length+n.ps.length) (x4.ns.take i8):Nat):Int)+((x8.lb.map D.str).length:Int)+((x8.ps.map ci5).length:Int) by omega];exact(zle 1)
    ·have g8:decide ((i8:Int)<((x4.ns.map ci6).length:Int))=false:=by rw[q1];simp;omega
     rw[ez9 hge8]
     repeat'(first|refine yz ?_|refine yi (ci8 x4) hx4 ?_)
     refine ac1 ?_;refine⟨⟨i4+1,by omega⟩,by dsimp only;omega,?_⟩;dsimp only;rw[ht4];rw[show c.ns.length+nd c.e+(smT ea2 (c.ps.take i4)+ea2 x4)=B+x4.ns.length+x4.es.length+smT nd X+smT (fun e:EP=>e.ty.length+e.ps.length) x4.es+smT (fun n:NP=>n.lb.length+n.ps.length) x4.ns by rw[hman];omega];exact(zle 1)
 ·have g4:decide ((i4:Int)<((c.ps.map ci8).length:Int))=false:=by rw[l1];simp;omega
  rw[ez9 hge4]
  repeat'(refine yz ?_)
  refine ac7 (α:=ea5 c.wh.length) (fun s=>⟨[(1,.ptr 0 0),(3,.d (.int ((c.ns.length+nd c.e+smT ea2 c.ps+smT nd (c.wh.take s.i):Nat):Int))),(9,.d (.int s.i))],[ea4 c]⟩) (fun s=>c.wh.length-s.i) ⟨0,by omega⟩ (by
   dsimp only;rw[show c.ns.length+nd c.e+smT ea2 c.ps+smT nd (c.wh.take 0)=c.ns.length+nd c.e+smT ea2 c.ps by rw[fc7,smT];omega];exact(zle 1)) ?_
  rintro⟨i9,hi9⟩;dsimp only;have hp9:=ea0 nd c.wh i9;rcases ex7 i9 c.wh.length with hlt9|hge9
  ·have g9:decide ((i9:Int)<((bu4 c.wh).length:Int))=true:=by rw[l2];simpa using hlt9
   have hx90:=ex6 hlt9;generalize c.wh[i9]=x9 at hx90;have hx9:(bu4 c.wh)[(i9:Int).toNat]? =some (bu5 x9):=bu9 (by rw[fb2];exact hx90);have hm9:=ey0 hx90;have ht9:=dz9 (f:=nd) hx90;have hz9:=ea0 nd c.wh (i9+1);have hsz:=ce2 x9 (hs.ok.w x9 hm9).2
   repeat'(first|refine yz ?_|refine yi (bu5 x9) hx9 ?_|refine yp b21 hsz ?_)
   refine ac1 ?_;refine⟨⟨i9+1,by omega⟩,by dsimp only;omega,?_⟩;dsimp only;rw[ht9];rw[show((c.ns.length+nd c.e+smT ea2 c.ps+(smT nd (c.wh.take i9)+nd x9):Nat):Int)=((c.ns.length+nd c.e+smT ea2 c.ps+smT nd (c.wh.take i9):Nat):Int)+(nd x9:Nat) by omega];exact(zle 1)
  ·have g9:decide ((i9:Int)<((bu4 c.wh).length:Int))=false:=by rw[l2];simp;omega
   rw[ez9 hge9]
   repeat'(refine yz ?_)
   refine ac7 (α:=ea5 c.it.length) (fun s=>⟨[(1,.ptr 0 0),(3,.d (.int ((c.ns.length+nd c.e+smT ea2 c.ps+smT nd c.wh+smT (fun x:IT=>nd x.e) (c.it.take s.i):Nat):Int))),(10,.d (.int s.i))],[ea4 c]⟩) (fun s=>c.it.length-s.i) ⟨0,by omega⟩ (by
    dsimp only;rw[show c.ns.length+nd c.e+smT ea2 c.ps+smT nd c.wh+smT (fun x:IT=>nd x.e) (c.it.take 0)=c.ns.length+nd c.e+smT ea2 c.ps+smT nd c.wh by rw[fc7,smT];omega];exact(zle 1)) ?_
   rintro⟨i10,hi10⟩;dsimp only;have hp10:=ea0 (fun x:IT=>nd x.e) c.it i10;rcases ex7 i10 c.it.length with hlt10|hge10
   ·have g10:decide ((i10:Int)<((c.it.map ci9).length:Int))=true:=by rw[l3];simpa using hlt10
    have hx100:=ex6 hlt10;generalize c.it[i10]=x10 at hx100;have hx10:(c.it.map ci9)[(i10:Int).toNat]? =some (ci9 x10):=cn9 (f:=ci9) hx100;have hm10:=ey0 hx100;have ht10:=dz9 (f:=(fun x:IT=>nd x.e)) hx100;have hz10:=ea0 (fun x:IT=>nd x.e) c.it (i10+1);have hsz:=ce2 x10.e (hs.ok.i x10 hm10).2
    repeat'(first|refine yz ?_|refine yi (ci9 x10) hx10 ?_|refine bj6 9 rfl rfl rfl rfl rfl rfl ?_|refine yp b21 hsz ?_)
    refine ac1 ?_;refine⟨⟨i10+1,by omega⟩,by dsimp only;omega,?_⟩;dsimp only;rw[ht10];rw[show((c.ns.length+nd c.e+smT ea2 c.ps+smT nd c.wh+(smT (fun x:IT=>nd x.e) (c.it.take i10)+nd x10.e):Nat):Int)=((c.ns.length+nd c.e+smT ea2 c.ps+smT nd c.wh+smT (fun x:IT=>nd x.e) (c.it.take i10):Nat):Int)+(nd x10.e:Nat) by omega];exact(zle 1)
   ·have g10:decide ((i10:Int)<((c.it.map ci9).length:Int))=false:=by rw[l3];simp;omega
    rw[ez9 hge10]
    repeat'(refine yz ?_)
    refine ac7 (α:=ea5 c.od.length) (fun s=>⟨[(1,.ptr 0 0),(3,.d (.int ((c.ns.length+nd c.e+smT ea2 c.ps+smT nd c.wh+smT (fun x:IT=>nd x.e) c.it+smT (fun x:SK=>nd x.e) (c.od.take s.i):Nat):Int))),(11,.d (.int s.i))],[ea4 c]⟩) (fun s=>c.od.length-s.i) ⟨0,by omega⟩ (by
     dsimp only;rw[show c.ns.length+nd c.e+smT ea2 c.ps+smT nd c.wh+smT (fun x:IT=>nd x.e) c.it+smT (fun x:SK=>nd x.e) (c.od.take 0)=c.ns.length+nd c.e+smT ea2 c.ps+smT nd c.wh+smT (fun x:IT=>nd x.e) c.it by rw[fc7,smT];omega];exact(zle 1)) ?_
    rintro⟨i11,hi11⟩;dsimp only;have hp11:=ea0 (fun x:SK=>nd x.e) c.od i11;rcases ex7 i11 c.od.length with hlt11|hge11
    ·have g11:decide ((i11:Int)<((c.od.map cj0).length:Int))=true:=by rw[l4];simpa using hlt11
     have hx110:=ex6 hlt11;generalize c.od[i11]=x11 at hx110;have hx11:(c.od.map cj0)[(i11:Int).toNat]? =some (cj0 x11):=cn9 (f:=cj0) hx110;have hm11:=ey0 hx110;have ht11:=dz9 (f:=(fun x:SK=>nd x.e)) hx110;have hz11:=ea0 (fun x:SK=>nd x.e) c.od (i11+1);have hsz:=ce2 x11.e (hs.ok.o x11 hm11).2
     repeat'(first|refine yz ?_|refine yi (cj0 x11) hx11 ?_|refine bj6 9 rfl rfl rfl rfl rfl rfl ?_|refine yp b21 hsz ?_)
     refine ac1 ?_;refine⟨⟨i11+1,by omega⟩,by dsimp only;omega,?_⟩;dsimp only;rw[ht11];rw[show((c.ns.length+nd c.e+smT ea2 c.ps+smT nd c.wh+smT (fun x:IT=>nd x.e) c.it+(smT (fun x:SK=>nd x.e) (c.od.take i11)+nd x11.e):Nat):Int)=((c.ns.length+nd c.e+smT ea2 c.ps+smT nd c.wh+smT (fun x:IT=>nd x.e) c.it+smT (fun x:SK=>nd x.e) (c.od.take i11):Nat):Int)+(nd x11.e:Nat) by omega];exact(zle 1)
    ·have g11:decide ((i11:Int)<((c.od.map cj0).length:Int))=false:=by rw[l4];simp;omega
     rw[ez9 hge11]
     repeat'(refine yz ?_)
     refine ac7 (α:=ea5 c.st.length) (fun s=>⟨[(1,.ptr 0 0),(3,.d (.int ((c.ns.length+nd c.e+smT ea2 c.ps+smT nd c.wh+smT (fun x:IT=>nd x.e) c.it+smT (fun x:SK=>nd x.e) c.od+smT (fun x:SIt=>nd x.e) (c.st.take s.i):Nat):Int))),(12,.d (.int s.i))],[ea4 c]⟩) (fun s=>c.st.length-s.i) ⟨0,by omega⟩ (by
      dsimp only;rw[show c.ns.length+nd c.e+smT ea2 c.ps+smT nd c.wh+smT (fun x:IT=>nd x.e) c.it+smT (fun x:SK=>nd x.e) c.od+smT (fun x:SIt=>nd x.e) (c.st.take 0)=c.ns.length+nd c.e+smT ea2 c.ps+smT nd c.wh+smT (fun x:IT=>nd x.e) c.it+smT (fun x:SK=>nd x.e) c.od by rw[fc7,smT];omega];exact(zle 1)) ?_
     rintro⟨i12,hi12⟩;dsimp only;have hp12:=ea0 (fun x:SIt=>nd x.e) c.st i12;rcases ex7 i12 c.st.length with hlt12|hge12
     ·have g12:decide ((i12:Int)<((c.st.map cj1).length:Int))=true:=by rw[l5];simpa using hlt12
      have hx120:=ex6 hlt12;generalize c.st[i12]=x12 at hx120;have hx12:(c.st.map cj1)[(i12:Int).toNat]? =some (cj1 x12):=cn9 (f:=cj1) hx120;have hm12:=ey0 hx120;have ht12:=dz9 (f:=(fun x:SIt=>nd x.e)) hx120;have hz12:=ea0 (fun x:SIt=>nd x.e) c.st (i12+1);have hsz:=ce2 x12.e (hs.ok.s x12 hm12).2
      repeat'(first|refine yz ?_|refine yi (cj1 x12) hx12 ?_|refine yp b21 hsz ?_)
      refine ac1 ?_;refine⟨⟨i12+1,by omega⟩,by dsimp only;omega,?_⟩;dsimp only;rw[ht12];rw[show((c.ns.length+nd c.e+smT ea2 c.ps+smT nd c.wh+smT (fun x:IT=>nd x.e) c.it+smT (fun x:SK=>nd x.e) c.od+(smT (fun x:SIt=>nd x.e) (c.st.take i12)+nd x12.e):Nat):Int)=((c.ns.length+nd c.e+smT ea2 c.ps+smT nd c.wh+smT (fun x:IT=>nd x.e) c.it+smT (fun x:SK=>nd x.e) c.od+smT (fun x:SIt=>nd x.e) (c.st.take i12):Nat):Int)+(nd x12.e:Nat) by omega];exact(zle 1)
     ·have g12:decide ((i12:Int)<((c.st.map cj1).length:Int))=false:=by rw[l5];simp;omega
      rw[ez9 hge12];show go _ _ _ (an5 _ _ (.d (.int ((c.ns.length+nd c.e+smT ea2 c.ps+smT nd c.wh+smT (fun x:IT=>nd x.e) c.it+smT (fun x:SK=>nd x.e) c.od+smT (fun x:SIt=>nd x.e) c.st:Nat):Int))))
      exact Ok
structure STxT(a b:List ByteArray) where
 i:Nat
 hi:i≤a.length
 ok:a.take i=b.take i
theorem ea7(a b:List ByteArray)(hl:a.length≤9223372036854775807):Ev E 12 [.sl (a.map .str),.sl (b.map .str)] (.d (.bool (decide (a=b)))):=by
 have h1:(a.map D.str).length=a.length:=Oc
 have h2:(b.map D.str).length=b.length:=Oc
 cases hc:((a.map D.str).length:Int)==((b.map D.str).length:Int)with
 |false=>
  have g1:(!(((a.map D.str).length:Int)==((b.map D.str).length:Int)))=true:=by rw[hc];rfl
  have hne:=yF (a=b) fun e=>by subst e;simp at hc
  rw[hne];refine ye2 func12 ntmps12 fun _ _ _=>?_
  exact Ok
 |true=>
  have g1:(!(((a.map D.str).length:Int)==((b.map D.str).length:Int)))=false:=by rw[hc];rfl
  have he:a.length=b.length:=by have:=beq_iff_eq.1 hc;rw[h1,h2]at this;omega
  refine ye2 func12 ntmps12 fun _ _ _=>?_
  repeat'(refine yz ?_)
  refine ac7 (α:=STxT a b) (fun s=>⟨[(0,.d (.sl (a.map .str))),(1,.d (.sl (b.map .str))),(5,.d (.int s.i))],[]⟩) (fun s=>a.length-s.i) ⟨0,by omega,rfl⟩ (zle 0) ?_;rintro⟨i,hi,ok⟩;dsimp only;rcases ex7 i a.length with hlt|hge
  ·have g2:decide ((i:Int)<((a.map D.str).length:Int))=true:=by rw[h1];simpa using hlt
   have hx0:=ex6 hlt;have hy0:=ex6 (l:=b) (i:=i) Oa;generalize a[i]=x at hx0;generalize b[i]'Oa=y at hy0;have hx:=cn9 (f:=D.str) hx0;have hy:=cn9 (f:=D.str) hy0
   cases hq:x.toList==y.toList with
   |true=>
    have g3:(!(x.toList==y.toList))=false:=by rw[hq];rfl
    obtain rfl:=cr0 (by simpa using hq:x.toList=y.toList)
    repeat'(first|refine yz ?_|refine yi (.str x) hx ?_|refine yi (.str x) hy ?_)
    refine ac1 ?_;exact⟨⟨i+1,by omega,by rw[fc0,fc0,hx0,hy0,ok]⟩,by dsimp only;omega,(zle 0)⟩
   |false=>
    have g3:(!(x.toList==y.toList))=true:=by rw[hq];rfl
    have hne:=yF (a=b) fun e=>by
     subst e;rw[hx0]at hy0
     cases hy0
     simp at hq
    rw[hne]
    repeat'(first|refine yz ?_|refine yi (.str x) hx ?_|refine yi (.str y) hy ?_|exact zD)
  ·have g2:decide ((i:Int)<((a.map D.str).length:Int))=false:=by rw[h1];simp;omega
   rw[ez9 hge,ez9 Oa]at ok;rw[decide_eq_true ok]
   exact Ok
mutual
def wtP:Pl→Nat
 |.mk b ks=>1+b.cj.vs.length+b.cj.as.length+ea3 b.cl+nd b.e+smT (fun x:IT=>nd x.e) b.it+smT (fun x:SK=>nd x.e) b.od+ea8 ks
def ea8:List Pl→Nat
 |[]=>0
 |p::r=>wtP p+ea8 r
end
theorem ea9:∀a b:List Pl,ea8 (a++b)=ea8 a+ea8 b
 |[],b=>by rw[fc5,ea8];omega
 |x::r,b=>by rw[fc6,ea8,ea8,ea9 r b];omega
theorem eb0{l:List Pl}{i:Nat}{x:Pl}(h:l[i]? =some x):ea8 (l.take (i+1))=ea8 (l.take i)+wtP x:=by
 rw[fc0,h,ea9];show _+ea8 [x]=_;rw[ea8,ea8];omega
theorem eb1(l:List Pl)(i:Nat):ea8 (l.take i)≤ea8 l:=by
 have h:=ea9 (l.take i) (l.drop i);rw[fd9]at h;omega
theorem eb2:∀{l:List Pl} {p:Pl},p∈l→wtP p≤ea8 l
 |a::r,p,h=>by
  rw[ea8];rcases ey2.1 h with rfl|h
  ·omega
  ·have:=eb2 h;omega
theorem eb3(p:Pl):vsP p≤wtP p:=by
 refine dd4 (P:=fun p=>vsP p≤wtP p) (fun b ks ih=>?_) p
 have key:∀l:List Pl,(∀x∈l,vsP x≤wtP x)→dz4 l≤ea8 l:=by
  intro l
  induction l with
  |nil=>intro _;exact ez0 _
  |cons a r ihr=>
   intro h;have h1:=h a Oc;have h2:=ihr fun x hx=>h x (by simp[hx])
   rw[dz4,ea8];omega
 have:=key ks ih;rw[vsP,wtP];omega
theorem sz_wt(p:Pl):szP p≤wtP p:=by
 refine dd4 (P:=fun p=>szP p≤wtP p) (fun b ks ih=>?_) p
 have key:∀l:List Pl,(∀x∈l,szP x≤wtP x)→dg2 l≤ea8 l:=by
  intro l
  induction l with
  |nil=>intro _;exact ez0 _
  |cons a r ihr=>
   intro h;have h1:=h a Oc;have h2:=ihr fun x hx=>h x (by simp[hx])
   rw[dg2,ea8];omega
 have:=key ks ih;rw[szP,wtP];omega
theorem eb4{α:Type}{f:α→Nat}{g:α→D}:∀{l:List α},(∀x∈l,f x≤bg3 (g x))→smT f l≤bg4 (l.map g)
 |[],_=>ez6 _
 |a::r,h=>by
  have h1:=h a Oc;have h2:=eb4 (f:=f) (g:=g) (l:=r) fun x hx=>h x (by simp[hx])
  rw[smT,fa1,bg4];omega
theorem eb5(e:Ex):nd e+1≤bg3 (bu5 e):=by
 have h:=cv3 e;have h2:1≤nd e:=by rw[cd8];omega
 omega
theorem eb6:∀(ns:List NP) (es:List EP),smT nd (ck6 (ck1 ns es))≤smT (fun n:NP=>smT (fun q:PP=>nd q.e) n.ps) ns+smT (fun n:EP=>smT (fun q:PP=>nd q.e) n.ps) es
 |[],es=>by rw[ck1];exact ez6 _
 |n::r,[]=>by
  have ih:=eb6 r [];have e0:ck6 (ck1 (n::r) [])=n.ps.map (fun p=>p.e)++ck6 (ck1 r []):=by rw[ck1];unfold ck6;rw[fa8];rfl
  have e1:=smT_map n.ps;rw[e0,dz8,e1];simp only[smT]at*;omega
 |n::r,x::q=>by
  have ih:=eb6 r q;have e0:ck6 (ck1 (n::r) (x::q))=n.ps.map (fun p=>p.e)++(x.ps.map (fun p=>p.e)++ck6 (ck1 r q)):=by rw[ck1];unfold ck6;rw[fa8,fa8];rfl
  have e1:=smT_map n.ps;have e2:=smT_map x.ps;rw[e0,dz8,dz8,e1,e2];simp only[smT]at*;omega
where
 smT_map:∀l:List PP,smT nd (l.map fun p=>p.e)=smT (fun q:PP=>nd q.e) l
  |[]=>rfl
  |a::r=>by rw[fa1,smT,smT,smT_map r]
theorem eb7{α:Type}(f g:α→Nat):∀l:List α,smT (fun x=>f x+g x) l=smT f l+smT g l
 |[]=>rfl
 |a::r=>by rw[smT,smT,smT,eb7 f g r];omega
theorem eb8{α:Type}:∀l:List α,smT (fun _=>1) l=l.length
 |[]=>rfl
 |a::r=>by rw[smT,eb8 r,ex9];omega
theorem eb9(l:List PP):smT (fun q:PP=>nd q.e) l+l.length≤bg4 (l.map ci5):=by
 have h:=eb4 (f:=fun q:PP=>nd q.e+1) (g:=ci5) (l:=l) fun q _=>by have h1:=eb5 q.e;have h2:=(dx6 q).1;omega
 rw[eb7,eb8]at h;exact h
theorem ec0(p:PA):ea2 p≤bg3 (ci8 p):=by
 have h:=dy2 p;have hx:=eb6 p.ns p.es
 have hn:=eb4 (f:=fun n:NP=>smT (fun q:PP=>nd q.e) n.ps+(n.lb.length+n.ps.length)+1) (g:=ci6) (l:=p.ns) fun n _=>by
  have h1:=eb9 n.ps;have h2:=dx3 n.lb
  have h3:bg3 (ci6 n)=n.vr.size+1+(bg4 (n.lb.map D.str)+1+(bg4 (n.ps.map ci5)+1)):=by
   show bg3 (.agg [.imm (.string n.vr),.sl (n.lb.map .str),.sl (n.ps.map ci5)])=_;simp only[bg3,bg4]<;>omega
  omega
 have he:=eb4 (f:=fun n:EP=>smT (fun q:PP=>nd q.e) n.ps+(n.ty.length+n.ps.length)+1) (g:=ci7) (l:=p.es) fun n _=>by
  have h1:=eb9 n.ps;have h2:=dx3 n.ty
  have h3:bg3 (ci7 n)=n.vr.size+1+(bg4 (n.ty.map D.str)+1+(4+(bg4 (n.ps.map ci5)+1))):=by
   show bg3 (.agg [.imm (.string n.vr),.sl (n.ty.map .str),.int n.dir,.int n.mode,.int n.mn,.int n.mx,.sl (n.ps.map ci5)])=_;simp only[bg3,bg4,D.int]<;>omega
  omega
 rw[eb7,eb8,eb7]at hn he;unfold ea2;omega
theorem ec1(c:CL):ea3 c≤bg3 (cj2 c):=by
 have h:=dy8 c;have h1:=eb4 (f:=ea2) (g:=ci8) (l:=c.ps) fun p _=>ec0 p
 have h2:=eb4 (f:=nd) (g:=bu5) (l:=c.wh) fun e _=>by have:=eb5 e;omega
 rw[←bu6]at h2;have h3:=eb4 (f:=fun x:IT=>nd x.e) (g:=ci9) (l:=c.it) fun x _=>by have h1:=eb5 x.e;have h2:=(dx8 x).1;omega
 have h4:=eb4 (f:=fun x:SK=>nd x.e) (g:=cj0) (l:=c.od) fun x _=>by have h1:=eb5 x.e;have h2:=(dx9 x).1;omega
 have h5:=eb4 (f:=fun x:SIt=>nd x.e) (g:=cj1) (l:=c.st) fun x _=>by have h1:=eb5 x.e;have h2:=(dx7 x).1;omega
 have h6:=dx3 c.ns;have h7:=eb5 c.e;unfold ea3;omega
theorem ec2(p:Pl):wtP p≤bg3 (dd6 p):=by
 refine dd4 (P:=fun p=>wtP p≤bg3 (dd6 p)) (fun b ks ih=>?_) p;have hb:=dz2 b (ks.map dd6)
 have key:∀l:List Pl,(∀x∈l,wtP x≤bg3 (dd6 x))→ea8 l≤bg4 (l.map dd6):=by
  intro l
  induction l with
  |nil=>intro _;exact ez0 _
  |cons a r ihr=>
   intro h;have h1:=h a Oc;have h2:=ihr fun x hx=>h x (by simp[hx])
   rw[ea8,fa1,bg4];omega
 have hk:=key ks ih;have h1:=dx3 b.cj.vs
 have h2:=dx2 1 (L:=b.cj.as.map by8) fun d hd=>by
  obtain⟨a,-,rfl⟩:=ey6.1 hd;unfold by8;simp only[bg3,bg4];omega
 rw[ey4]at h2;have h3:=ec1 b.cl;have h4:=eb5 b.e;have h5:=eb4 (f:=fun x:IT=>nd x.e) (g:=ci9) (l:=b.it) fun x _=>by have h1:=eb5 x.e;have h2:=(dx8 x).1;omega
 have h6:=eb4 (f:=fun x:SK=>nd x.e) (g:=cj0) (l:=b.od) fun x _=>by have h1:=eb5 x.e;have h2:=(dx9 x).1;omega
 rw[dd9,wtP];omega
abbrev oPWt(b:PB)(K:List D):aa5:=.var 40 (.w (.d (dd5 b K)))
set_option maxHeartbeats 4000000 in
theorem ec3(p:Pl):bg3 (dd6 p)≤1048576→Ev E 8 [dd6 p] (.d (.int (wtP p))):=by
 refine dd4 (P:=fun p=>bg3 (dd6 p)≤1048576→Ev E 8 [dd6 p] (.d (.int (wtP p)))) (fun b ks ih h=>?_) p;have hwb:=ec2 (.mk b ks);rw[dd9]at h hwb ⊢;rw[wtP]at hwb;have hb:=dz2 b (ks.map dd6);have hs:=dz1 (c:=b.cl) Oa;have hm:=ea6 b.cl hs Oa;have hse:=ce2 b.e (dz0 (e:=b.e) Oa);have hix:∀x∈b.it,nd x.e≤1000000:=fun x hx=>dz0 (by have g1:=dx1 (fa5 (f:=ci9) hx);have g2:=(dx8 x).1;omega)
 have hox:∀x∈b.od,nd x.e≤1000000:=fun x hx=>dz0 (by have g1:=dx1 (fa5 (f:=cj0) hx);have g2:=(dx9 x).1;omega)
 have hkx:∀x∈ks,Ev E 8 [dd6 x] (.d (.int (wtP x))):=fun x hx=>ih x hx (by have:=dx1 (fa5 (f:=dd6) hx);omega)
 have l1:(b.it.map ci9).length=b.it.length:=Oc
 have l2:(b.od.map cj0).length=b.od.length:=Oc
 have l3:(ks.map dd6).length=ks.length:=Oc
 have l4:(b.cj.vs.map D.str).length=b.cj.vs.length:=Oc
 have l5:(b.cj.as.map by8).length=b.cj.as.length:=Oc
 have k1:b.it.length≤1048576:=by have:=dx2 1 (L:=b.it.map ci9) fun d hd=>by{obtain⟨p,-,rfl⟩:=ey6.1 hd;exact(dx8 p).2.1};rw[l1]at this;omega
 have k2:b.od.length≤1048576:=by have:=dx2 1 (L:=b.od.map cj0) fun d hd=>by{obtain⟨p,-,rfl⟩:=ey6.1 hd;exact(dx9 p).2};rw[l2]at this;omega
 have k3:ks.length≤1048576:=by
  have:=dx2 5 (L:=ks.map dd6) fun d hd=>by{obtain⟨⟨b',k'⟩,-,rfl⟩:=ey6.1 hd;rw[dd9];have:=dz2 b' (k'.map dd6);omega}
  rw[l3]at this;omega
 obtain⟨B,hB⟩:∃B,B=1+b.cj.vs.length+b.cj.as.length+ea3 b.cl+nd b.e:=⟨_,rfl⟩;have hBW:wtP (.mk b ks)=B+smT (fun x:IT=>nd x.e) b.it+smT (fun x:SK=>nd x.e) b.od+ea8 ks:=by rw[wtP,hB]
 rw[hBW];rw[←hB]at hwb;have hle:B+smT (fun x:IT=>nd x.e) b.it+smT (fun x:SK=>nd x.e) b.od+ea8 ks≤1048576:=Oa
 clear ih hwb hBW;refine ye1 func8 ntmps8 fun _ _ _=>?_
 repeat'(first|refine yz ?_|refine yp b20 hm ?_|refine yp b21 hse ?_)
 refine ac7 (α:=ea5 b.it.length) (fun s=>⟨[(1,.ptr 0 0),(3,.d (.int ((B+smT (fun x:IT=>nd x.e) (b.it.take s.i):Nat):Int))),(4,.d (.int s.i))],[oPWt b (ks.map dd6)]⟩) (fun s=>b.it.length-s.i) ⟨0,by omega⟩ (by
  dsimp only;rw[show B+smT (fun x:IT=>nd x.e) (b.it.take 0)=B by rw[fc7,smT];omega]
  exact(by
   have eb:(1:Int)+((b.cj.vs.map D.str).length:Int)+((b.cj.as.map by8).length:Int)+((ea3 b.cl:Nat):Int)+((nd b.e:Nat):Int)=((B:Nat):Int):=by rw[l4,l5,hB];omega
   rw[←eb];exact(zle 1))) ?_
 rintro⟨i4,hi4⟩;dsimp only;have hp4:=ea0 (fun x:IT=>nd x.e) b.it i4;rcases ex7 i4 b.it.length with hlt4|hge4
 ·have g4:decide ((i4:Int)<((b.it.map ci9).length:Int))=true:=by rw[l1];simpa using hlt4
  have hx40:=ex6 hlt4;generalize b.it[i4]=x4 at hx40;have hx4:(b.it.map ci9)[(i4:Int).toNat]? =some (ci9 x4):=cn9 (f:=ci9) hx40;have hm4:=ey0 hx40;have ht4:=dz9 (f:=(fun x:IT=>nd x.e)) hx40;have hz4:=ea0 (fun x:IT=>nd x.e) b.it (i4+1);have hsz:=ce2 x4.e (hix x4 hm4)
  repeat'(first|refine yz ?_|refine yi (ci9 x4) hx4 ?_|refine bj6 9 rfl rfl rfl rfl rfl rfl ?_|refine yp b21 hsz ?_)
  refine ac1 ?_;refine⟨⟨i4+1,by omega⟩,by dsimp only;omega,?_⟩;dsimp only;rw[ht4];rw[show((B+(smT (fun x:IT=>nd x.e) (b.it.take i4)+nd x4.e):Nat):Int)=((B+smT (fun x:IT=>nd x.e) (b.it.take i4):Nat):Int)+(nd x4.e:Nat) by omega];exact(zle 1)
 ·have g4:decide ((i4:Int)<((b.it.map ci9).length:Int))=false:=by rw[l1];simp;omega
  rw[ez9 hge4]
  repeat'(refine yz ?_)
  refine ac7 (α:=ea5 b.od.length) (fun s=>⟨[(1,.ptr 0 0),(3,.d (.int ((B+smT (fun x:IT=>nd x.e) b.it+smT (fun x:SK=>nd x.e) (b.od.take s.i):Nat):Int))),(5,.d (.int s.i))],[oPWt b (ks.map dd6)]⟩) (fun s=>b.od.length-s.i) ⟨0,by omega⟩ (by
   dsimp only;rw[show B+smT (fun x:IT=>nd x.e) b.it+smT (fun x:SK=>nd x.e) (b.od.take 0)=B+smT (fun x:IT=>nd x.e) b.it by rw[fc7,smT];omega];exact(zle 1)) ?_
  rintro⟨i5,hi5⟩;dsimp only;have hp5:=ea0 (fun x:SK=>nd x.e) b.od i5;rcases ex7 i5 b.od.length with hlt5|hge5
  ·have g5:decide ((i5:Int)<((b.od.map cj0).length:Int))=true:=by rw[l2];simpa using hlt5
   have hx50:=ex6 hlt5;generalize b.od[i5]=x5 at hx50;have hx5:(b.od.map cj0)[(i5:Int).toNat]? =some (cj0 x5):=cn9 (f:=cj0) hx50;have hm5:=ey0 hx50;have ht5:=dz9 (f:=(fun x:SK=>nd x.e)) hx50;have hz5:=ea0 (fun x:SK=>nd x.e) b.od (i5+1);have hsz:=ce2 x5.e (hox x5 hm5)
   repeat'(first|refine yz ?_|refine yi (cj0 x5) hx5 ?_|refine bj6 9 rfl rfl rfl rfl rfl rfl ?_|refine yp b21 hsz ?_)
   refine ac1 ?_;refine⟨⟨i5+1,by omega⟩,by dsimp only;omega,?_⟩;dsimp only;rw[ht5];rw[show((B+smT (fun x:IT=>nd x.e) b.it+(smT (fun x:SK=>nd x.e) (b.od.take i5)+nd x5.e):Nat):Int)=((B+smT (fun x:IT=>nd x.e) b.it+smT (fun x:SK=>nd x.e) (b.od.take i5):Nat):Int)+(nd x5.e:Nat) by omega];exact(zle 1)
  ·have g5:decide ((i5:Int)<((b.od.map cj0).length:Int))=false:=by rw[l2];simp;omega
   rw[ez9 hge5]
   repeat'(refine yz ?_)
   refine ac7 (α:=ea5 ks.length) (fun s=>⟨[(1,.ptr 0 0),(3,.d (.int ((B+smT (fun x:IT=>nd x.e) b.it+smT (fun x:SK=>nd x.e) b.od+ea8 (ks.take s.i):Nat):Int))),(6,.d (.int s.i))],[oPWt b (ks.map dd6)]⟩) (fun s=>ks.length-s.i) ⟨0,by omega⟩ (by
    dsimp only;rw[show B+smT (fun x:IT=>nd x.e) b.it+smT (fun x:SK=>nd x.e) b.od+ea8 (ks.take 0)=B+smT (fun x:IT=>nd x.e) b.it+smT (fun x:SK=>nd x.e) b.od by rw[fc7,ea8];omega];exact(zle 1)) ?_
   rintro⟨i6,hi6⟩;dsimp only;have hp6:=eb1 ks i6;rcases ex7 i6 ks.length with hlt6|hge6
   ·have g6:decide ((i6:Int)<((ks.map dd6).length:Int))=true:=by rw[l3];simpa using hlt6
    have hx60:=ex6 hlt6;generalize ks[i6]=x6 at hx60;have hx6:=cn9 (f:=dd6) hx60;have hm6:=ey0 hx60;have ht6:=eb0 hx60;have hz6:=eb1 ks (i6+1);have hc6:=hkx x6 hm6;have hx6w:=eb2 hm6;rw[ds2]at hx6 hc6
    repeat'(first|refine yz ?_|refine qI (dd5 x6.b (x6.ks.map dd6)) rfl (ap1 rfl) rfl rfl rfl rfl rfl rfl Oh hx6 ?_|refine yp b8 hc6 ?_)
    refine ac1 ?_;refine⟨⟨i6+1,by omega⟩,by dsimp only;omega,?_⟩;dsimp only;rw[ht6];rw[show((B+smT (fun x:IT=>nd x.e) b.it+smT (fun x:SK=>nd x.e) b.od+(ea8 (ks.take i6)+wtP x6):Nat):Int)=((B+smT (fun x:IT=>nd x.e) b.it+smT (fun x:SK=>nd x.e) b.od+ea8 (ks.take i6):Nat):Int)+(wtP x6:Nat) by omega];exact(zle 1)
   ·have g6:decide ((i6:Int)<((ks.map dd6).length:Int))=false:=by rw[l3];simp;omega
    rw[ez9 hge6]
    exact Ok
end Go.Proofs.YtndgolmgaenlfaaGreatDoor
namespace Go.Proofs.YtndgolmgaenlfaaGreatDoor
set_option maxRecDepth 4000
open Go Go.Abs Go.Val Go.RowKit Go.Proofs.Tryz
attribute [local irreducible] go SGo an1 Ev au7 EvO EvS RGo RGw PGo
theorem ec4(p:Pl):(dg3 p).1.length≤cwP p:=by
 have h:=dr1 p;unfold dg3
 cases decide (dpP p>200)with
 |true=>exact ez6 _
 |false=>
  cases decide (szP p>2000)with
  |true=>exact ez6 _
  |false=>exact h
end Go.Proofs.YtndgolmgaenlfaaGreatDoor
