/- The weight of a plan, by the specification; two lists of texts compared; The weight of a plan, by the specification, and what it bounds; The laws Plan. Conditions: each part's own, as it says. -/
import Derived.Test.YtndgolmgaenlfaaGreatDoorGC
import Derived.Test.YtndgolmgaenlfaaGreatDoorPB
import Derived.Test.YtndgolmgaenlfaaGreatDoorCA
import Derived.Test.YtndgolmgaenlfaaGreatDoorFA
import Derived.Test.YtndgolmgaenlfaaGreatDoorKE
import Derived.Test.YtndgolmgaenlfaaGreatDoorFB
set_option linter.unusedVariables false
set_option linter.unusedSimpArgs false
namespace Go.Proofs.YtndgolmgaenlfaaGreatDoor
set_option maxRecDepth 4000
open Go Go.Abs Go.Val Go.RowKit Go.Proofs.Tryz
attribute [local irreducible] go SGo an1 Ev au8 EvO EvS RGo RGw PGo
def smT{α:Type}(f:α→Nat):List α→Nat
 |[]=>0
 |x::r=>f x+smT f r
theorem eq0{α:Type}(f:α→Nat):∀a b:List α,smT f (a++b)=smT f a+smT f b
 |[],b=>by simp[smT]
 |x::r,b=>by rw[fn1,smT,smT,eq0 f r b];omega
theorem eq1{α:Type}{f:α→Nat}{l:List α}{i:Nat}{x:α}(h:l[i]? =some x):smT f (l.take (i+1))=smT f (l.take i)+f x:=by
 rw[fm8,h,eq0];show _+(f x+0)=_;omega
theorem eq2{α:Type}(f:α→Nat)(l:List α)(i:Nat):smT f (l.take i)≤smT f l:=by
 have h:=eq0 f (l.take i) (l.drop i);rw[fp9]at h;omega
theorem eq3{α:Type}{f:α→Nat}:∀{l:List α} {x:α},x∈l→f x≤smT f l
 |a::r,x,h=>by
  rw[smT];rcases fk7.1 h with rfl|h
  ·omega
  ·have:=eq3 (f:=f) h;omega
def eq4(p:PA):Nat:=p.ns.length+p.es.length+smT nd (cq1 (cp6 p.ns p.es))+smT (fun e:EP=>e.ty.length+e.ps.length) p.es+smT (fun n:NP=>n.lb.length+n.ps.length) p.ns
def eq5(c:CL):Nat:=c.ns.length+nd c.e+smT eq4 c.ps+smT nd c.wh+smT (fun x:IT=>nd x.e) c.it+smT (fun x:SK=>nd x.e) c.od+smT (fun x:SIt=>nd x.e) c.st
abbrev eq6(c:CL):aa5:=.var 38 (.w (.d (co6 c)))
structure eq7(n:Nat) where
 i:Nat
 hi:i≤n
set_option maxHeartbeats 8000000 in
theorem eq8(c:CL)(hs:SmC c)(hb:eq5 c≤1000000000):Ev E 20 [co6 c] (.d (.int (eq5 c))):=Ev.fit fun hfit=>by
 have hfc:=(hfit (co6 c) Oc).aggs;have m1:c.ps.length≤9223372036854775807:=(ct4 (hfc (.sl (c.ps.map co2)) (by simp[co6]))).1;have m2:c.wh.length≤9223372036854775807:=(by9 (hfc (.sl (by0 c.wh)) (by simp[co6]))).1;have m3:c.it.length≤9223372036854775807:=(ct4 (hfc (.sl (c.it.map co3)) (by simp[co6]))).1;have m4:c.od.length≤9223372036854775807:=(ct4 (hfc (.sl (c.od.map co4)) (by simp[co6]))).1;have m5:c.st.length≤9223372036854775807:=(ct4 (hfc (.sl (c.st.map co5)) (by simp[co6]))).1;have l1:(c.ps.map co2).length=c.ps.length:=Oc
 have l2:(by0 c.wh).length=c.wh.length:=by7 _;have l3:(c.it.map co3).length=c.it.length:=Oc
 have l4:(c.od.map co4).length=c.od.length:=Oc
 have l5:(c.st.map co5).length=c.st.length:=Oc
 have l6:(c.ns.map D.str).length=c.ns.length:=Oc
 have hse:=ci6 c.e hs.ok.e.2;have b0:=hb;unfold eq5 at b0;clear hfc hfit;refine ye1 func20 ntmps20 fun _ _ _=>?_
 repeat'(first|refine yz ?_|refine yp b21 hse ?_)
 refine ac7 (α:=eq7 c.ps.length) (fun s=>⟨[(1,.ptr 0 0),(3,.d (.int ((c.ns.length+nd c.e+smT eq4 (c.ps.take s.i):Nat):Int))),(4,.d (.int s.i))],[eq6 c]⟩) (fun s=>c.ps.length-s.i) ⟨0,by omega⟩ (by
  dsimp only;rw[show c.ns.length+nd c.e+smT eq4 (c.ps.take 0)=c.ns.length+nd c.e by rw[fp2,smT];omega];exact(by
  have eb:((c.ns.map D.str).length:Int)+((nd c.e:Nat):Int)=((c.ns.length+nd c.e:Nat):Int):=by rw[l6];omega
  rw[←eb];exact(zle 1))) ?_
 rintro⟨i4,hi4⟩;dsimp only;have hp4:=eq2 eq4 c.ps i4;rcases fj8 i4 c.ps.length with hlt4|hge4
 ·have g4:decide ((i4:Int)<((c.ps.map co2).length:Int))=true:=by rw[l1];simpa using hlt4
  have hx40:=fj7 hlt4;generalize c.ps[i4]=x4 at hx40;have hx4:(c.ps.map co2)[(i4:Int).toNat]? =some (co2 x4):=ct3 (f:=co2) hx40;have hm4:=fj9 hx40;have ht4:=eq1 (f:=eq4) hx40;have hz4:=eq2 eq4 c.ps (i4+1);have hok:=hs.ok.p x4 hm4;have hpr:=dr2 x4 hok.x hok.n;have hpm:eq4 x4≤smT eq4 c.ps:=eq3 hm4;unfold eq4 at hpm;have q1:(x4.ns.map co0).length=x4.ns.length:=Oc
  have q2:(x4.es.map co1).length=x4.es.length:=Oc
  have hoe:=hok.e;obtain⟨B,hB⟩:∃B,B=c.ns.length+nd c.e+smT eq4 (c.ps.take i4):=⟨_,rfl⟩;rw[←hB];have hBb:B+eq4 x4≤1000000000:=Oa
  unfold eq4 at hBb;obtain⟨X,hX⟩:∃X,X=cq1 (cp6 x4.ns x4.es):=⟨_,rfl⟩;have hman:eq4 x4=x4.ns.length+x4.es.length+smT nd X+smT (fun e:EP=>e.ty.length+e.ps.length) x4.es+smT (fun n:NP=>n.lb.length+n.ps.length) x4.ns:=by rw[hX];rfl
  rw[←hX]at hpr hoe hBb hpm;have hXl:(X.map by1).length=X.length:=Oc
  have hXm:=hok.x;rw[←hX]at hXm
  repeat'(first|refine yz ?_|refine yi (co2 x4) hx4 ?_|refine yp b33 hpr ?_)
  refine ac7 (α:=eq7 X.length) (fun s=>⟨[(1,.ptr 0 0),(3,.d (.int ((B+x4.ns.length+x4.es.length+smT nd (X.take s.i):Nat):Int))),(6,.d (.int s.i)),(4,.d (.int i4)),(5,.d (.sl (X.map by1)))],[eq6 c]⟩) (fun s=>X.length-s.i) ⟨0,by omega⟩ (by
   dsimp only;rw[show B+x4.ns.length+x4.es.length+smT nd (X.take 0)=B+x4.ns.length+x4.es.length by rw[fp2,smT];omega];exact(by
   have eb:((B:Nat):Int)+((x4.ns.map co0).length:Int)+((x4.es.map co1).length:Int)=((B+x4.ns.length+x4.es.length:Nat):Int):=by rw[q1,q2];omega
   rw[←eb];exact(zle 1))) ?_
  rintro⟨i6,hi6⟩;dsimp only;have hp6:=eq2 nd X i6;rcases fj8 i6 X.length with hlt6|hge6
  ·have g6:decide ((i6:Int)<((X.map by1).length:Int))=true:=by rw[hXl];simpa using hlt6
   have hx60:=fj7 hlt6;generalize X[i6]=x6 at hx60;have hx6:(X.map by1)[(i6:Int).toNat]? =some (by1 x6):=ct3 (f:=by1) hx60;have hm6:=fj9 hx60;have ht6:=eq1 (f:=nd) hx60;have hz6:=eq2 nd X (i6+1);have hsz:=ci6 x6 (hoe x6 hm6).2
   repeat'(first|refine yz ?_|refine yi (by1 x6) hx6 ?_|refine yp b21 hsz ?_)
   refine ac1 ?_;refine⟨⟨i6+1,by omega⟩,by dsimp only;omega,?_⟩;dsimp only;rw[ht6];rw[show((B+x4.ns.length+x4.es.length+(smT nd (X.take i6)+nd x6):Nat):Int)=((B+x4.ns.length+x4.es.length+smT nd (X.take i6):Nat):Int)+(nd x6:Nat) by omega];exact(zle 1)
  ·have g6:decide ((i6:Int)<((X.map by1).length:Int))=false:=by rw[hXl];simp;omega
   rw[fl4 hge6]
   repeat'(refine yz ?_)
   refine ac7 (α:=eq7 x4.es.length) (fun s=>⟨[(1,.ptr 0 0),(3,.d (.int ((B+x4.ns.length+x4.es.length+smT nd X+smT (fun e:EP=>e.ty.length+e.ps.length) (x4.es.take s.i):Nat):Int))),(7,.d (.int s.i)),(4,.d (.int i4))],[eq6 c]⟩) (fun s=>x4.es.length-s.i) ⟨0,by omega⟩ (by
    dsimp only;rw[show B+x4.ns.length+x4.es.length+smT nd X+smT (fun e:EP=>e.ty.length+e.ps.length) (x4.es.take 0)=B+x4.ns.length+x4.es.length+smT nd X by rw[fp2,smT];omega];exact(zle 1)) ?_
   rintro⟨i7,hi7⟩;dsimp only;have hp7:=eq2 (fun e:EP=>e.ty.length+e.ps.length) x4.es i7;rcases fj8 i7 x4.es.length with hlt7|hge7
   ·have g7:decide ((i7:Int)<((x4.es.map co1).length:Int))=true:=by rw[q2];simpa using hlt7
    have hx70:=fj7 hlt7;generalize x4.es[i7]=x7 at hx70;have hx7:(x4.es.map co1)[(i7:Int).toNat]? =some (co1 x7):=ct3 (f:=co1) hx70;have hm7:=fj9 hx70;have ht7:=eq1 (f:=(fun e:EP=>e.ty.length+e.ps.length)) hx70;have hz7:=eq2 (fun e:EP=>e.ty.length+e.ps.length) x4.es (i7+1);have r1:(x7.ty.map D.str).length=x7.ty.length:=Oc
    have r2:(x7.ps.map cn9).length=x7.ps.length:=Oc
    have hx7s:=eq3 (f:=(fun e:EP=>e.ty.length+e.ps.length)) hm7
    try dsimp only at hx7s
    repeat'(first|refine yz ?_|refine yi (co2 x4) hx4 ?_|refine yi (co1 x7) hx7 ?_)
    refine ac1 ?_;refine⟨⟨i7+1,by omega⟩,by dsimp only;omega,?_⟩;dsimp only;rw[ht7];rw[show((B+x4.ns.length+x4.es.length+smT nd X+(smT (fun e:EP=>e.ty.length+e.ps.length) (x4.es.take i7)+(x7.ty.length+x7.ps.length)):Nat):Int)=((B+x4.ns.length+x4.es.length+smT nd X+smT (fun e:EP=>e.ty.length+e.ps.length) (x4.es.take i7):Nat):Int)+((x7.ty.map D.str).length:Int)+((x7.ps.map cn9).length:Int) by omega];exact(zle 1)
   ·have g7:decide ((i7:Int)<((x4.es.map co1).length:Int))=false:=by rw[q2];simp;omega
    rw[fl4 hge7]
    repeat'(first|refine yz ?_|refine yi (co2 x4) hx4 ?_)
    refine ac7 (α:=eq7 x4.ns.length) (fun s=>⟨[(1,.ptr 0 0),(3,.d (.int ((B+x4.ns.length+x4.es.length+smT nd X+smT (fun e:EP=>e.ty.length+e.ps.length) x4.es+smT (fun n:NP=>n.lb.length+n.ps.length) (x4.ns.take s.i):Nat):Int))),(8,.d (.int s.i)),(4,.d (.int i4))],[eq6 c]⟩) (fun s=>x4.ns.length-s.i) ⟨0,by omega⟩ (by
     dsimp only;rw[show B+x4.ns.length+x4.es.length+smT nd X+smT (fun e:EP=>e.ty.length+e.ps.length) x4.es+smT (fun n:NP=>n.lb.length+n.ps.length) (x4.ns.take 0)=B+x4.ns.length+x4.es.length+smT nd X+smT (fun e:EP=>e.ty.length+e.ps.length) x4.es by rw[fp2,smT];omega];exact(zle 1)) ?_
    rintro⟨i8,hi8⟩;dsimp only;have hp8:=eq2 (fun n:NP=>n.lb.length+n.ps.length) x4.ns i8;rcases fj8 i8 x4.ns.length with hlt8|hge8
    ·have g8:decide ((i8:Int)<((x4.ns.map co0).length:Int))=true:=by rw[q1];simpa using hlt8
     have hx80:=fj7 hlt8;generalize x4.ns[i8]=x8 at hx80;have hx8:(x4.ns.map co0)[(i8:Int).toNat]? =some (co0 x8):=ct3 (f:=co0) hx80;have hm8:=fj9 hx80;have ht8:=eq1 (f:=(fun n:NP=>n.lb.length+n.ps.length)) hx80;have hz8:=eq2 (fun n:NP=>n.lb.length+n.ps.length) x4.ns (i8+1);have r1:(x8.lb.map D.str).length=x8.lb.length:=Oc
     have r2:(x8.ps.map cn9).length=x8.ps.length:=Oc
     have hx8s:=eq3 (f:=(fun n:NP=>n.lb.length+n.ps.length)) hm8
     try dsimp only at hx8s
     repeat'(first|refine yz ?_|refine yi (co2 x4) hx4 ?_|refine yi (co0 x8) hx8 ?_)
     refine ac1 ?_;refine⟨⟨i8+1,by omega⟩,by dsimp only;omega,?_⟩;dsimp only;rw[ht8];rw[show((B+x4.ns.length+x4.es.length+smT nd X+smT (fun e:EP=>e.ty.length+e.ps.length) x4.es+(smT (fun n:NP=>n.lb.length+n.ps.length) (x4.ns.take i8)+(x8.lb.length+x8.ps.length)):Nat):Int)=((B+x4.ns.length+x4.es.length+smT nd X+smT (fun e:EP=>e.ty.length+e.ps.length) x4.es+smT (fun n:NP=>n.lb.length+n.ps.length) (x4.ns.take i8):Nat):Int)+((x8.lb.map D.str).length:Int)+((x8.ps.map cn9).length:Int) by omega];exact(zle 1)
    ·have g8:decide ((i8:Int)<((x4.ns.map co0).length:Int))=false:=by rw[q1];simp;omega
     rw[fl4 hge8]
     repeat'(first|refine yz ?_|refine yi (co2 x4) hx4 ?_)
     refine ac1 ?_;refine⟨⟨i4+1,by omega⟩,by dsimp only;omega,?_⟩;dsimp only;rw[ht4];rw[show c.ns.length+nd c.e+(smT eq4 (c.ps.take i4)+eq4 x4)=B+x4.ns.length+x4.es.length+smT nd X+smT (fun e:EP=>e.ty.length+e.ps.length) x4.es+smT (fun n:NP=>n.lb.length+n.ps.length) x4.ns by rw[hman];omega];exact(zle 1)
 ·have g4:decide ((i4:Int)<((c.ps.map co2).length:Int))=false:=by rw[l1];simp;omega
  rw[fl4 hge4]
  repeat'(refine yz ?_)
  refine ac7 (α:=eq7 c.wh.length) (fun s=>⟨[(1,.ptr 0 0),(3,.d (.int ((c.ns.length+nd c.e+smT eq4 c.ps+smT nd (c.wh.take s.i):Nat):Int))),(9,.d (.int s.i))],[eq6 c]⟩) (fun s=>c.wh.length-s.i) ⟨0,by omega⟩ (by
   dsimp only;rw[show c.ns.length+nd c.e+smT eq4 c.ps+smT nd (c.wh.take 0)=c.ns.length+nd c.e+smT eq4 c.ps by rw[fp2,smT];omega];exact(zle 1)) ?_
  rintro⟨i9,hi9⟩;dsimp only;have hp9:=eq2 nd c.wh i9;rcases fj8 i9 c.wh.length with hlt9|hge9
  ·have g9:decide ((i9:Int)<((by0 c.wh).length:Int))=true:=by rw[l2];simpa using hlt9
   have hx90:=fj7 hlt9;generalize c.wh[i9]=x9 at hx90;have hx9:(by0 c.wh)[(i9:Int).toNat]? =some (by1 x9):=by5 (by rw[fm2];exact hx90);have hm9:=fj9 hx90;have ht9:=eq1 (f:=nd) hx90;have hz9:=eq2 nd c.wh (i9+1);have hsz:=ci6 x9 (hs.ok.w x9 hm9).2
   repeat'(first|refine yz ?_|refine yi (by1 x9) hx9 ?_|refine yp b21 hsz ?_)
   refine ac1 ?_;refine⟨⟨i9+1,by omega⟩,by dsimp only;omega,?_⟩;dsimp only;rw[ht9];rw[show((c.ns.length+nd c.e+smT eq4 c.ps+(smT nd (c.wh.take i9)+nd x9):Nat):Int)=((c.ns.length+nd c.e+smT eq4 c.ps+smT nd (c.wh.take i9):Nat):Int)+(nd x9:Nat) by omega];exact(zle 1)
  ·have g9:decide ((i9:Int)<((by0 c.wh).length:Int))=false:=by rw[l2];simp;omega
   rw[fl4 hge9]
   repeat'(refine yz ?_)
   refine ac7 (α:=eq7 c.it.length) (fun s=>⟨[(1,.ptr 0 0),(3,.d (.int ((c.ns.length+nd c.e+smT eq4 c.ps+smT nd c.wh+smT (fun x:IT=>nd x.e) (c.it.take s.i):Nat):Int))),(10,.d (.int s.i))],[eq6 c]⟩) (fun s=>c.it.length-s.i) ⟨0,by omega⟩ (by
    dsimp only;rw[show c.ns.length+nd c.e+smT eq4 c.ps+smT nd c.wh+smT (fun x:IT=>nd x.e) (c.it.take 0)=c.ns.length+nd c.e+smT eq4 c.ps+smT nd c.wh by rw[fp2,smT];omega];exact(zle 1)) ?_
   rintro⟨i10,hi10⟩;dsimp only;have hp10:=eq2 (fun x:IT=>nd x.e) c.it i10;rcases fj8 i10 c.it.length with hlt10|hge10
   ·have g10:decide ((i10:Int)<((c.it.map co3).length:Int))=true:=by rw[l3];simpa using hlt10
    have hx100:=fj7 hlt10;generalize c.it[i10]=x10 at hx100;have hx10:(c.it.map co3)[(i10:Int).toNat]? =some (co3 x10):=ct3 (f:=co3) hx100;have hm10:=fj9 hx100;have ht10:=eq1 (f:=(fun x:IT=>nd x.e)) hx100;have hz10:=eq2 (fun x:IT=>nd x.e) c.it (i10+1);have hsz:=ci6 x10.e (hs.ok.i x10 hm10).2
    repeat'(first|refine yz ?_|refine yi (co3 x10) hx10 ?_|refine bj8 9 rfl rfl rfl rfl rfl rfl ?_|refine yp b21 hsz ?_)
    refine ac1 ?_;refine⟨⟨i10+1,by omega⟩,by dsimp only;omega,?_⟩;dsimp only;rw[ht10];rw[show((c.ns.length+nd c.e+smT eq4 c.ps+smT nd c.wh+(smT (fun x:IT=>nd x.e) (c.it.take i10)+nd x10.e):Nat):Int)=((c.ns.length+nd c.e+smT eq4 c.ps+smT nd c.wh+smT (fun x:IT=>nd x.e) (c.it.take i10):Nat):Int)+(nd x10.e:Nat) by omega];exact(zle 1)
   ·have g10:decide ((i10:Int)<((c.it.map co3).length:Int))=false:=by rw[l3];simp;omega
    rw[fl4 hge10]
    repeat'(refine yz ?_)
    refine ac7 (α:=eq7 c.od.length) (fun s=>⟨[(1,.ptr 0 0),(3,.d (.int ((c.ns.length+nd c.e+smT eq4 c.ps+smT nd c.wh+smT (fun x:IT=>nd x.e) c.it+smT (fun x:SK=>nd x.e) (c.od.take s.i):Nat):Int))),(11,.d (.int s.i))],[eq6 c]⟩) (fun s=>c.od.length-s.i) ⟨0,by omega⟩ (by
     dsimp only;rw[show c.ns.length+nd c.e+smT eq4 c.ps+smT nd c.wh+smT (fun x:IT=>nd x.e) c.it+smT (fun x:SK=>nd x.e) (c.od.take 0)=c.ns.length+nd c.e+smT eq4 c.ps+smT nd c.wh+smT (fun x:IT=>nd x.e) c.it by rw[fp2,smT];omega];exact(zle 1)) ?_
    rintro⟨i11,hi11⟩;dsimp only;have hp11:=eq2 (fun x:SK=>nd x.e) c.od i11;rcases fj8 i11 c.od.length with hlt11|hge11
    ·have g11:decide ((i11:Int)<((c.od.map co4).length:Int))=true:=by rw[l4];simpa using hlt11
     have hx110:=fj7 hlt11;generalize c.od[i11]=x11 at hx110;have hx11:(c.od.map co4)[(i11:Int).toNat]? =some (co4 x11):=ct3 (f:=co4) hx110;have hm11:=fj9 hx110;have ht11:=eq1 (f:=(fun x:SK=>nd x.e)) hx110;have hz11:=eq2 (fun x:SK=>nd x.e) c.od (i11+1);have hsz:=ci6 x11.e (hs.ok.o x11 hm11).2
     repeat'(first|refine yz ?_|refine yi (co4 x11) hx11 ?_|refine bj8 9 rfl rfl rfl rfl rfl rfl ?_|refine yp b21 hsz ?_)
     refine ac1 ?_;refine⟨⟨i11+1,by omega⟩,by dsimp only;omega,?_⟩;dsimp only;rw[ht11];rw[show((c.ns.length+nd c.e+smT eq4 c.ps+smT nd c.wh+smT (fun x:IT=>nd x.e) c.it+(smT (fun x:SK=>nd x.e) (c.od.take i11)+nd x11.e):Nat):Int)=((c.ns.length+nd c.e+smT eq4 c.ps+smT nd c.wh+smT (fun x:IT=>nd x.e) c.it+smT (fun x:SK=>nd x.e) (c.od.take i11):Nat):Int)+(nd x11.e:Nat) by omega];exact(zle 1)
    ·have g11:decide ((i11:Int)<((c.od.map co4).length:Int))=false:=by rw[l4];simp;omega
     rw[fl4 hge11]
     repeat'(refine yz ?_)
     refine ac7 (α:=eq7 c.st.length) (fun s=>⟨[(1,.ptr 0 0),(3,.d (.int ((c.ns.length+nd c.e+smT eq4 c.ps+smT nd c.wh+smT (fun x:IT=>nd x.e) c.it+smT (fun x:SK=>nd x.e) c.od+smT (fun x:SIt=>nd x.e) (c.st.take s.i):Nat):Int))),(12,.d (.int s.i))],[eq6 c]⟩) (fun s=>c.st.length-s.i) ⟨0,by omega⟩ (by
      dsimp only;rw[show c.ns.length+nd c.e+smT eq4 c.ps+smT nd c.wh+smT (fun x:IT=>nd x.e) c.it+smT (fun x:SK=>nd x.e) c.od+smT (fun x:SIt=>nd x.e) (c.st.take 0)=c.ns.length+nd c.e+smT eq4 c.ps+smT nd c.wh+smT (fun x:IT=>nd x.e) c.it+smT (fun x:SK=>nd x.e) c.od by rw[fp2,smT];omega];exact(zle 1)) ?_
     rintro⟨i12,hi12⟩;dsimp only;have hp12:=eq2 (fun x:SIt=>nd x.e) c.st i12;rcases fj8 i12 c.st.length with hlt12|hge12
     ·have g12:decide ((i12:Int)<((c.st.map co5).length:Int))=true:=by rw[l5];simpa using hlt12
      have hx120:=fj7 hlt12;generalize c.st[i12]=x12 at hx120;have hx12:(c.st.map co5)[(i12:Int).toNat]? =some (co5 x12):=ct3 (f:=co5) hx120;have hm12:=fj9 hx120;have ht12:=eq1 (f:=(fun x:SIt=>nd x.e)) hx120;have hz12:=eq2 (fun x:SIt=>nd x.e) c.st (i12+1);have hsz:=ci6 x12.e (hs.ok.s x12 hm12).2
      repeat'(first|refine yz ?_|refine yi (co5 x12) hx12 ?_|refine yp b21 hsz ?_)
      refine ac1 ?_;refine⟨⟨i12+1,by omega⟩,by dsimp only;omega,?_⟩;dsimp only;rw[ht12];rw[show((c.ns.length+nd c.e+smT eq4 c.ps+smT nd c.wh+smT (fun x:IT=>nd x.e) c.it+smT (fun x:SK=>nd x.e) c.od+(smT (fun x:SIt=>nd x.e) (c.st.take i12)+nd x12.e):Nat):Int)=((c.ns.length+nd c.e+smT eq4 c.ps+smT nd c.wh+smT (fun x:IT=>nd x.e) c.it+smT (fun x:SK=>nd x.e) c.od+smT (fun x:SIt=>nd x.e) (c.st.take i12):Nat):Int)+(nd x12.e:Nat) by omega];exact(zle 1)
     ·have g12:decide ((i12:Int)<((c.st.map co5).length:Int))=false:=by rw[l5];simp;omega
      rw[fl4 hge12];show go _ _ _ (an5 _ _ (.d (.int ((c.ns.length+nd c.e+smT eq4 c.ps+smT nd c.wh+smT (fun x:IT=>nd x.e) c.it+smT (fun x:SK=>nd x.e) c.od+smT (fun x:SIt=>nd x.e) c.st:Nat):Int))))
      exact Ok
structure STxT(a b:List ByteArray) where
 i:Nat
 hi:i≤a.length
 ok:a.take i=b.take i
theorem eq9(a b:List ByteArray)(hl:a.length≤9223372036854775807):Ev E 12 [.sl (a.map .str),.sl (b.map .str)] (.d (.bool (decide (a=b)))):=by
 have h1:(a.map D.str).length=a.length:=Oc
 have h2:(b.map D.str).length=b.length:=Oc
 cases hc:((a.map D.str).length:Int)==((b.map D.str).length:Int)with
 |false=>
  have g1:(!(((a.map D.str).length:Int)==((b.map D.str).length:Int)))=true:=by rw[hc];rfl
  have hne:=yF (a=b) fun e=>by subst e;simp at hc
  rw[hne];refine ye2 func12 ntmps12 fun _ _ _=>?_
  exact Ok
 |true=>
  have g1:(!(((a.map D.str).length:Int)==((b.map D.str).length:Int)))=false:=by rw[hc];rfl
  have he:a.length=b.length:=by have:=beq_iff_eq.1 hc;rw[h1,h2]at this;omega
  refine ye2 func12 ntmps12 fun _ _ _=>?_
  repeat'(refine yz ?_)
  refine ac7 (α:=STxT a b) (fun s=>⟨[(0,.d (.sl (a.map .str))),(1,.d (.sl (b.map .str))),(5,.d (.int s.i))],[]⟩) (fun s=>a.length-s.i) ⟨0,by omega,rfl⟩ (zle 0) ?_;rintro⟨i,hi,ok⟩;dsimp only;rcases fj8 i a.length with hlt|hge
  ·have g2:decide ((i:Int)<((a.map D.str).length:Int))=true:=by rw[h1];simpa using hlt
   have hx0:=fj7 hlt;have hy0:=fj7 (l:=b) (i:=i) Oa;generalize a[i]=x at hx0;generalize b[i]'Oa=y at hy0;have hx:=ct3 (f:=D.str) hx0;have hy:=ct3 (f:=D.str) hy0
   cases hq:x.toList==y.toList with
   |true=>
    have g3:(!(x.toList==y.toList))=false:=by rw[hq];rfl
    obtain rfl:=cw4 (by simpa using hq:x.toList=y.toList)
    repeat'(first|refine yz ?_|refine yi (.str x) hx ?_|refine yi (.str x) hy ?_)
    refine ac1 ?_;exact⟨⟨i+1,by omega,by rw[fm8,fm8,hx0,hy0,ok]⟩,by dsimp only;omega,(zle 0)⟩
   |false=>
    have g3:(!(x.toList==y.toList))=true:=by rw[hq];rfl
    have hne:=yF (a=b) fun e=>by
     subst e;rw[hx0]at hy0
     cases hy0
     simp at hq
    rw[hne]
    repeat'(first|refine yz ?_|refine yi (.str x) hx ?_|refine yi (.str y) hy ?_|exact zD)
  ·have g2:decide ((i:Int)<((a.map D.str).length:Int))=false:=by rw[h1];simp;omega
   rw[fl4 hge,fl4 Oa]at ok;rw[decide_eq_true ok]
   exact Ok
mutual
def wtP:Pl→Nat
 |.mk b ks=>1+b.cj.vs.length+b.cj.as.length+eq5 b.cl+nd b.e+smT (fun x:IT=>nd x.e) b.it+smT (fun x:SK=>nd x.e) b.od+er0 ks
def er0:List Pl→Nat
 |[]=>0
 |p::r=>wtP p+er0 r
end
theorem er1:∀a b:List Pl,er0 (a++b)=er0 a+er0 b
 |[],b=>by rw[fm7,er0];omega
 |x::r,b=>by rw[fn1,er0,er0,er1 r b];omega
theorem er2{l:List Pl}{i:Nat}{x:Pl}(h:l[i]? =some x):er0 (l.take (i+1))=er0 (l.take i)+wtP x:=by
 rw[fm8,h,er1];show _+er0 [x]=_;rw[er0,er0];omega
theorem er3(l:List Pl)(i:Nat):er0 (l.take i)≤er0 l:=by
 have h:=er1 (l.take i) (l.drop i);rw[fp9]at h;omega
theorem er4:∀{l:List Pl} {p:Pl},p∈l→wtP p≤er0 l
 |a::r,p,h=>by
  rw[er0];rcases fk7.1 h with rfl|h
  ·omega
  ·have:=er4 h;omega
theorem er5(p:Pl):vsP p≤wtP p:=by
 refine dl4 (P:=fun p=>vsP p≤wtP p) (fun b ks ih=>?_) p
 have key:∀l:List Pl,(∀x∈l,vsP x≤wtP x)→ei7 l≤er0 l:=by
  intro l
  induction l with
  |nil=>intro _;exact fl2 _
  |cons a r ihr=>
   intro h;have h1:=h a Oc;have h2:=ihr fun x hx=>h x (by simp[hx])
   rw[ei7,er0];omega
 have:=key ks ih;rw[vsP,wtP];omega
theorem sz_wt(p:Pl):szP p≤wtP p:=by
 refine dl4 (P:=fun p=>szP p≤wtP p) (fun b ks ih=>?_) p
 have key:∀l:List Pl,(∀x∈l,szP x≤wtP x)→do1 l≤er0 l:=by
  intro l
  induction l with
  |nil=>intro _;exact fl2 _
  |cons a r ihr=>
   intro h;have h1:=h a Oc;have h2:=ihr fun x hx=>h x (by simp[hx])
   rw[do1,er0];omega
 have:=key ks ih;rw[szP,wtP];omega
theorem er6{α:Type}{f:α→Nat}{g:α→D}:∀{l:List α},(∀x∈l,f x≤bg5 (g x))→smT f l≤bg6 (l.map g)
 |[],_=>fl9 _
 |a::r,h=>by
  have h1:=h a Oc;have h2:=er6 (f:=f) (g:=g) (l:=r) fun x hx=>h x (by simp[hx])
  rw[smT,fm5,bg6];omega
theorem er7(e:Ex):nd e+1≤bg5 (by1 e):=by
 have h:=db0 e;have h2:1≤nd e:=by rw[ci2];omega
 omega
theorem er8:∀(ns:List NP) (es:List EP),smT nd (cq1 (cp6 ns es))≤smT (fun n:NP=>smT (fun q:PP=>nd q.e) n.ps) ns+smT (fun n:EP=>smT (fun q:PP=>nd q.e) n.ps) es
 |[],es=>by rw[cp6];exact fl9 _
 |n::r,[]=>by
  have ih:=er8 r [];have e0:cq1 (cp6 (n::r) [])=n.ps.map (fun p=>p.e)++cq1 (cp6 r []):=by rw[cp6];unfold cq1;rw[fm6];rfl
  have e1:=smT_map n.ps;rw[e0,eq0,e1];simp only[smT]at*;omega
 |n::r,x::q=>by
  have ih:=er8 r q;have e0:cq1 (cp6 (n::r) (x::q))=n.ps.map (fun p=>p.e)++(x.ps.map (fun p=>p.e)++cq1 (cp6 r q)):=by rw[cp6];unfold cq1;rw[fm6,fm6];rfl
  have e1:=smT_map n.ps;have e2:=smT_map x.ps;rw[e0,eq0,eq0,e1,e2];simp only[smT]at*;omega
where
 smT_map:∀l:List PP,smT nd (l.map fun p=>p.e)=smT (fun q:PP=>nd q.e) l
  |[]=>rfl
  |a::r=>by rw[fm5,smT,smT,smT_map r]
theorem er9{α:Type}(f g:α→Nat):∀l:List α,smT (fun x=>f x+g x) l=smT f l+smT g l
 |[]=>rfl
 |a::r=>by rw[smT,smT,smT,er9 f g r];omega
theorem es0{α:Type}:∀l:List α,smT (fun _=>1) l=l.length
 |[]=>rfl
 |a::r=>by rw[smT,es0 r,fk0];omega
theorem es1(l:List PP):smT (fun q:PP=>nd q.e) l+l.length≤bg6 (l.map cn9):=by
 have h:=er6 (f:=fun q:PP=>nd q.e+1) (g:=cn9) (l:=l) fun q _=>by have h1:=er7 q.e;have h2:=(eg9 q).1;omega
 rw[er9,es0]at h;exact h
theorem es2(p:PA):eq4 p≤bg5 (co2 p):=by
 have h:=eh5 p;have hx:=er8 p.ns p.es
 have hn:=er6 (f:=fun n:NP=>smT (fun q:PP=>nd q.e) n.ps+(n.lb.length+n.ps.length)+1) (g:=co0) (l:=p.ns) fun n _=>by
  have h1:=es1 n.ps;have h2:=eg6 n.lb
  have h3:bg5 (co0 n)=n.vr.size+1+(bg6 (n.lb.map D.str)+1+(bg6 (n.ps.map cn9)+1)):=by
   show bg5 (.agg [.imm (.string n.vr),.sl (n.lb.map .str),.sl (n.ps.map cn9)])=_;simp only[bg5,bg6]<;>omega
  omega
 have he:=er6 (f:=fun n:EP=>smT (fun q:PP=>nd q.e) n.ps+(n.ty.length+n.ps.length)+1) (g:=co1) (l:=p.es) fun n _=>by
  have h1:=es1 n.ps;have h2:=eg6 n.ty
  have h3:bg5 (co1 n)=n.vr.size+1+(bg6 (n.ty.map D.str)+1+(4+(bg6 (n.ps.map cn9)+1))):=by
   show bg5 (.agg [.imm (.string n.vr),.sl (n.ty.map .str),.int n.dir,.int n.mode,.int n.mn,.int n.mx,.sl (n.ps.map cn9)])=_;simp only[bg5,bg6,D.int]<;>omega
  omega
 rw[er9,es0,er9]at hn he;unfold eq4;omega
theorem es3(c:CL):eq5 c≤bg5 (co6 c):=by
 have h:=ei1 c;have h1:=er6 (f:=eq4) (g:=co2) (l:=c.ps) fun p _=>es2 p
 have h2:=er6 (f:=nd) (g:=by1) (l:=c.wh) fun e _=>by have:=er7 e;omega
 rw[←by2]at h2;have h3:=er6 (f:=fun x:IT=>nd x.e) (g:=co3) (l:=c.it) fun x _=>by have h1:=er7 x.e;have h2:=(eh1 x).1;omega
 have h4:=er6 (f:=fun x:SK=>nd x.e) (g:=co4) (l:=c.od) fun x _=>by have h1:=er7 x.e;have h2:=(eh2 x).1;omega
 have h5:=er6 (f:=fun x:SIt=>nd x.e) (g:=co5) (l:=c.st) fun x _=>by have h1:=er7 x.e;have h2:=(eh0 x).1;omega
 have h6:=eg6 c.ns;have h7:=er7 c.e;unfold eq5;omega
theorem es4(p:Pl):wtP p≤bg5 (dl6 p):=by
 refine dl4 (P:=fun p=>wtP p≤bg5 (dl6 p)) (fun b ks ih=>?_) p;have hb:=ei5 b (ks.map dl6)
 have key:∀l:List Pl,(∀x∈l,wtP x≤bg5 (dl6 x))→er0 l≤bg6 (l.map dl6):=by
  intro l
  induction l with
  |nil=>intro _;exact fl2 _
  |cons a r ihr=>
   intro h;have h1:=h a Oc;have h2:=ihr fun x hx=>h x (by simp[hx])
   rw[er0,fm5,bg6];omega
 have hk:=key ks ih;have h1:=eg6 b.cj.vs
 have h2:=eg5 1 (L:=b.cj.as.map cc6) fun d hd=>by
  obtain⟨a,-,rfl⟩:=fl3.1 hd;unfold cc6;simp only[bg5,bg6];omega
 rw[fk3]at h2;have h3:=es3 b.cl;have h4:=er7 b.e;have h5:=er6 (f:=fun x:IT=>nd x.e) (g:=co3) (l:=b.it) fun x _=>by have h1:=er7 x.e;have h2:=(eh1 x).1;omega
 have h6:=er6 (f:=fun x:SK=>nd x.e) (g:=co4) (l:=b.od) fun x _=>by have h1:=er7 x.e;have h2:=(eh2 x).1;omega
 rw[dl9,wtP];omega
abbrev oPWt(b:PB)(K:List D):aa5:=.var 40 (.w (.d (dl5 b K)))
set_option maxHeartbeats 4000000 in
theorem es5(p:Pl):bg5 (dl6 p)≤1048576→Ev E 8 [dl6 p] (.d (.int (wtP p))):=by
 refine dl4 (P:=fun p=>bg5 (dl6 p)≤1048576→Ev E 8 [dl6 p] (.d (.int (wtP p)))) (fun b ks ih h=>?_) p;have hwb:=es4 (.mk b ks);rw[dl9]at h hwb ⊢;rw[wtP]at hwb;have hb:=ei5 b (ks.map dl6);have hs:=ei4 (c:=b.cl) Oa;have hm:=eq8 b.cl hs Oa;have hse:=ci6 b.e (ei3 (e:=b.e) Oa);have hix:∀x∈b.it,nd x.e≤1000000:=fun x hx=>ei3 (by have g1:=eg4 (fn4 (f:=co3) hx);have g2:=(eh1 x).1;omega)
 have hox:∀x∈b.od,nd x.e≤1000000:=fun x hx=>ei3 (by have g1:=eg4 (fn4 (f:=co4) hx);have g2:=(eh2 x).1;omega)
 have hkx:∀x∈ks,Ev E 8 [dl6 x] (.d (.int (wtP x))):=fun x hx=>ih x hx (by have:=eg4 (fn4 (f:=dl6) hx);omega)
 have l1:(b.it.map co3).length=b.it.length:=Oc
 have l2:(b.od.map co4).length=b.od.length:=Oc
 have l3:(ks.map dl6).length=ks.length:=Oc
 have l4:(b.cj.vs.map D.str).length=b.cj.vs.length:=Oc
 have l5:(b.cj.as.map cc6).length=b.cj.as.length:=Oc
 have k1:b.it.length≤1048576:=by have:=eg5 1 (L:=b.it.map co3) fun d hd=>by{obtain⟨p,-,rfl⟩:=fl3.1 hd;exact(eh1 p).2.1};rw[l1]at this;omega
 have k2:b.od.length≤1048576:=by have:=eg5 1 (L:=b.od.map co4) fun d hd=>by{obtain⟨p,-,rfl⟩:=fl3.1 hd;exact(eh2 p).2};rw[l2]at this;omega
 have k3:ks.length≤1048576:=by
  have:=eg5 5 (L:=ks.map dl6) fun d hd=>by{obtain⟨⟨b',k'⟩,-,rfl⟩:=fl3.1 hd;rw[dl9];have:=ei5 b' (k'.map dl6);omega}
  rw[l3]at this;omega
 obtain⟨B,hB⟩:∃B,B=1+b.cj.vs.length+b.cj.as.length+eq5 b.cl+nd b.e:=⟨_,rfl⟩;have hBW:wtP (.mk b ks)=B+smT (fun x:IT=>nd x.e) b.it+smT (fun x:SK=>nd x.e) b.od+er0 ks:=by rw[wtP,hB]
 rw[hBW];rw[←hB]at hwb;have hle:B+smT (fun x:IT=>nd x.e) b.it+smT (fun x:SK=>nd x.e) b.od+er0 ks≤1048576:=Oa
 clear ih hwb hBW;refine ye1 func8 ntmps8 fun _ _ _=>?_
 repeat'(first|refine yz ?_|refine yp b20 hm ?_|refine yp b21 hse ?_)
 refine ac7 (α:=eq7 b.it.length) (fun s=>⟨[(1,.ptr 0 0),(3,.d (.int ((B+smT (fun x:IT=>nd x.e) (b.it.take s.i):Nat):Int))),(4,.d (.int s.i))],[oPWt b (ks.map dl6)]⟩) (fun s=>b.it.length-s.i) ⟨0,by omega⟩ (by
  dsimp only;rw[show B+smT (fun x:IT=>nd x.e) (b.it.take 0)=B by rw[fp2,smT];omega]
  exact(by
   have eb:(1:Int)+((b.cj.vs.map D.str).length:Int)+((b.cj.as.map cc6).length:Int)+((eq5 b.cl:Nat):Int)+((nd b.e:Nat):Int)=((B:Nat):Int):=by rw[l4,l5,hB];omega
   rw[←eb];exact(zle 1))) ?_
 rintro⟨i4,hi4⟩;dsimp only;have hp4:=eq2 (fun x:IT=>nd x.e) b.it i4;rcases fj8 i4 b.it.length with hlt4|hge4
 ·have g4:decide ((i4:Int)<((b.it.map co3).length:Int))=true:=by rw[l1];simpa using hlt4
  have hx40:=fj7 hlt4;generalize b.it[i4]=x4 at hx40;have hx4:(b.it.map co3)[(i4:Int).toNat]? =some (co3 x4):=ct3 (f:=co3) hx40;have hm4:=fj9 hx40;have ht4:=eq1 (f:=(fun x:IT=>nd x.e)) hx40;have hz4:=eq2 (fun x:IT=>nd x.e) b.it (i4+1);have hsz:=ci6 x4.e (hix x4 hm4)
  repeat'(first|refine yz ?_|refine yi (co3 x4) hx4 ?_|refine bj8 9 rfl rfl rfl rfl rfl rfl ?_|refine yp b21 hsz ?_)
  refine ac1 ?_;refine⟨⟨i4+1,by omega⟩,by dsimp only;omega,?_⟩;dsimp only;rw[ht4];rw[show((B+(smT (fun x:IT=>nd x.e) (b.it.take i4)+nd x4.e):Nat):Int)=((B+smT (fun x:IT=>nd x.e) (b.it.take i4):Nat):Int)+(nd x4.e:Nat) by omega];exact(zle 1)
 ·have g4:decide ((i4:Int)<((b.it.map co3).length:Int))=false:=by rw[l1];simp;omega
  rw[fl4 hge4]
  repeat'(refine yz ?_)
  refine ac7 (α:=eq7 b.od.length) (fun s=>⟨[(1,.ptr 0 0),(3,.d (.int ((B+smT (fun x:IT=>nd x.e) b.it+smT (fun x:SK=>nd x.e) (b.od.take s.i):Nat):Int))),(5,.d (.int s.i))],[oPWt b (ks.map dl6)]⟩) (fun s=>b.od.length-s.i) ⟨0,by omega⟩ (by
   dsimp only;rw[show B+smT (fun x:IT=>nd x.e) b.it+smT (fun x:SK=>nd x.e) (b.od.take 0)=B+smT (fun x:IT=>nd x.e) b.it by rw[fp2,smT];omega];exact(zle 1)) ?_
  rintro⟨i5,hi5⟩;dsimp only;have hp5:=eq2 (fun x:SK=>nd x.e) b.od i5;rcases fj8 i5 b.od.length with hlt5|hge5
  ·have g5:decide ((i5:Int)<((b.od.map co4).length:Int))=true:=by rw[l2];simpa using hlt5
   have hx50:=fj7 hlt5;generalize b.od[i5]=x5 at hx50;have hx5:(b.od.map co4)[(i5:Int).toNat]? =some (co4 x5):=ct3 (f:=co4) hx50;have hm5:=fj9 hx50;have ht5:=eq1 (f:=(fun x:SK=>nd x.e)) hx50;have hz5:=eq2 (fun x:SK=>nd x.e) b.od (i5+1);have hsz:=ci6 x5.e (hox x5 hm5)
   repeat'(first|refine yz ?_|refine yi (co4 x5) hx5 ?_|refine bj8 9 rfl rfl rfl rfl rfl rfl ?_|refine yp b21 hsz ?_)
   refine ac1 ?_;refine⟨⟨i5+1,by omega⟩,by dsimp only;omega,?_⟩;dsimp only;rw[ht5];rw[show((B+smT (fun x:IT=>nd x.e) b.it+(smT (fun x:SK=>nd x.e) (b.od.take i5)+nd x5.e):Nat):Int)=((B+smT (fun x:IT=>nd x.e) b.it+smT (fun x:SK=>nd x.e) (b.od.take i5):Nat):Int)+(nd x5.e:Nat) by omega];exact(zle 1)
  ·have g5:decide ((i5:Int)<((b.od.map co4).length:Int))=false:=by rw[l2];simp;omega
   rw[fl4 hge5]
   repeat'(refine yz ?_)
   refine ac7 (α:=eq7 ks.length) (fun s=>⟨[(1,.ptr 0 0),(3,.d (.int ((B+smT (fun x:IT=>nd x.e) b.it+smT (fun x:SK=>nd x.e) b.od+er0 (ks.take s.i):Nat):Int))),(6,.d (.int s.i))],[oPWt b (ks.map dl6)]⟩) (fun s=>ks.length-s.i) ⟨0,by omega⟩ (by
    dsimp only;rw[show B+smT (fun x:IT=>nd x.e) b.it+smT (fun x:SK=>nd x.e) b.od+er0 (ks.take 0)=B+smT (fun x:IT=>nd x.e) b.it+smT (fun x:SK=>nd x.e) b.od by rw[fp2,er0];omega];exact(zle 1)) ?_
   rintro⟨i6,hi6⟩;dsimp only;have hp6:=er3 ks i6;rcases fj8 i6 ks.length with hlt6|hge6
   ·have g6:decide ((i6:Int)<((ks.map dl6).length:Int))=true:=by rw[l3];simpa using hlt6
    have hx60:=fj7 hlt6;generalize ks[i6]=x6 at hx60;have hx6:=ct3 (f:=dl6) hx60;have hm6:=fj9 hx60;have ht6:=er2 hx60;have hz6:=er3 ks (i6+1);have hc6:=hkx x6 hm6;have hx6w:=er4 hm6;rw[ea7]at hx6 hc6
    repeat'(first|refine yz ?_|refine qI (dl5 x6.b (x6.ks.map dl6)) rfl (ap1 rfl) rfl rfl rfl rfl rfl rfl Oh hx6 ?_|refine yp b8 hc6 ?_)
    refine ac1 ?_;refine⟨⟨i6+1,by omega⟩,by dsimp only;omega,?_⟩;dsimp only;rw[ht6];rw[show((B+smT (fun x:IT=>nd x.e) b.it+smT (fun x:SK=>nd x.e) b.od+(er0 (ks.take i6)+wtP x6):Nat):Int)=((B+smT (fun x:IT=>nd x.e) b.it+smT (fun x:SK=>nd x.e) b.od+er0 (ks.take i6):Nat):Int)+(wtP x6:Nat) by omega];exact(zle 1)
   ·have g6:decide ((i6:Int)<((ks.map dl6).length:Int))=false:=by rw[l3];simp;omega
    rw[fl4 hge6]
    exact Ok
end Go.Proofs.YtndgolmgaenlfaaGreatDoor
namespace Go.Proofs.YtndgolmgaenlfaaGreatDoor
set_option maxRecDepth 4000
open Go Go.Abs Go.Val Go.RowKit Go.Proofs.Tryz
attribute [local irreducible] go SGo an1 Ev au8 EvO EvS RGo RGw PGo
theorem es6(p:Pl):(do2 p).1.length≤cwP p:=by
 have h:=dz7 p;unfold do2
 cases decide (dpP p>200)with
 |true=>exact fl9 _
 |false=>
  cases decide (szP p>2000)with
  |true=>exact fl9 _
  |false=>exact h
set_option maxHeartbeats 4000000 in
theorem law_checks35(hlv:Ev E 9 [] (.d (.bool true)))(p:Pl)(h:bg6 [dl6 p]≤1048576):Ev E 3 [dl6 p] (.d (.bool true)):=by
 have h0:bg5 (dl6 p)≤1048576:=by rw[bg6,bg6]at h;omega
 have hw:=es5 p h0;have hvw:=er5 p;obtain⟨b,ks⟩:=p
 cases c1:decide ((wtP (.mk b ks):Int)>4000)with
 |true=>
  rw[dl9]at hw ⊢;generalize wtP (.mk b ks)=w at*;refine ye1 func3 ntmps3 fun _ _ _=>?_
  repeat'(first|refine yz ?_|refine yp b8 hw ?_|refine yp b9 hlv ?_|exact zD)
 |false=>
  have hv:vsP (.mk b ks)≤100000:=by have:=of_decide_eq_false c1;omega
  have k1:=ej0 (.mk b ks) h0 hv;have k2:=ep9 (.mk b ks) h0 hv;obtain⟨-,hz,hcw⟩:=ei9 (.mk b ks) h0 hv;have s1:=ea8 (.mk b ks) Oa;have s2:=ek6 (.mk b ks) Oa;have hcl:=es6 (.mk b ks);have ht:=eq9 (do2 (.mk b ks)).1 (do2 (.mk b ks)).1 Oa;rw[decide_eq_true rfl]at ht;have g1:((do2 (.mk b ks)).2==(do2 (.mk b ks)).2)=true:=beq_self_eq_true _;have g2:(((szP (.mk b ks):Nat):Int)==((szP (.mk b ks):Nat):Int))=true:=beq_self_eq_true _;rw[dl9]at hw k1 k2 s1 s2 ⊢;generalize wtP (.mk b ks)=w at*;generalize do2 (.mk b ks)=ck at*;generalize szP (.mk b ks)=sz at*;refine ye1 func3 ntmps3 fun _ _ _=>?_
  repeat'(first|refine yz ?_|refine yp b8 hw ?_|refine yp b9 hlv ?_|refine yp b10 k1 ?_|refine yp b11 k2 ?_|refine yp b12 ht ?_|refine yp b13 s1 ?_|refine yp b14 s2 ?_|refine yx ?_|exact zD)
end Go.Proofs.YtndgolmgaenlfaaGreatDoor
