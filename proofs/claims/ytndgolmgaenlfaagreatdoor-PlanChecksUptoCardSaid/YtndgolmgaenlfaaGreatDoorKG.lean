/- Shape. -/
import Derived.Test.YtndgolmgaenlfaaGreatDoorKB
set_option linter.unusedVariables false
set_option linter.unusedSimpArgs false
namespace Go.Proofs.YtndgolmgaenlfaaGreatDoor
set_option maxRecDepth 4000
open Go Go.Abs Go.Val Go.RowKit Go.Proofs.Tryz
attribute [local irreducible] go SGo an1 Ev au8 EvO EvS RGo
attribute [local irreducible] PGo RGw
set_option maxHeartbeats 16000000 in
theorem ep3c(b:PB)(K:List D)(hK:K.length≤1000000000000)(h1:b.cj.vs.length+b.cj.as.length≤1000000000000)(ho:b.op=8∨b.op=9∨b.op=10∨b.op=11):Ev E 70 [dl5 b K] (.d (.bool (dm2 b K.length))):=by
 have hb:=ds4 b.e;have hc:=el0 b.cl;rw[dt4];obtain⟨op,cj,cl,e,nm,it,od,sk,lm⟩:=b;obtain⟨vs,as28⟩:=cj;obtain⟨ck,copt,cds,cps,cwh,ce,cnm,cit,cod,csk,clm,cst,cns⟩:=cl;simp only at hb hc h1 ho ⊢;have hlv:(vs.map D.str).length=vs.length:=Oc
 have hla:(as28.map cc6).length=as28.length:=Oc
 have g4:(!(nm.toList==(⟨#[]⟩:ByteArray).toList))= !(s0B nm):=rfl;generalize cq3 e=ze at*;generalize dm1 _=zc at*;generalize s0B nm=zn at*
 show Ev E 70 [.agg [.int op,.sl K,.sl (vs.map D.str),.sl (as28.map cc6),.int ck,.bool copt,.bool cds,.sl (cps.map co2),.sl (by0 cwh),.int ce.op,.int ce.v.k,.int ce.v.n,.int ce.v.d,.str ce.v.s,.sl (bn1 ce.v),.str ce.nm,.bool ce.ds,.sl (bx9 ce),.str cnm,.sl (cit.map co3),.sl (cod.map co4),.int csk,.int clm,.sl (cst.map co5),.sl (cns.map .str),
  .int e.op,.int e.v.k,.int e.v.n,.int e.v.d,.str e.v.s,.sl (bn1 e.v),.str e.nm,.bool e.ds,.sl (bx9 e),.str nm,.sl (it.map co3),.sl (od.map co4),.int sk,.int lm]] _
 generalize vs.map D.str=LV at*;generalize as28.map cc6=LA at*;generalize it.map co3=LI at*;generalize od.map co4=LO at*;rcases dt2 op with rfl|rfl|rfl|rfl|rfl|rfl|rfl|rfl|rfl|rfl|rfl|⟨q1,q2,q3,q4,q5,q6,q7,q8,q9,q10,q11⟩<;>try(exfalso;revert ho;decide)
 ·generalize hb0:((K.length:Int) !=dm0 8)=b0;generalize hb1:decide ((LV.length:Int)+(LA.length:Int)>0)=b1;generalize hb5:decide ((LI.length:Int)>0)=b5;generalize hb6:((LO.length:Int)==0)=b6;generalize hb9:(ck==1)=b9;generalize hb7:(sk==0)=b7;replace hb0:(!((1:Int)==(K.length:Int)))=b0:=by rw[←hb0,fk9];show _↔((K.length:Int) !=1)=true;rw[Bool.not_eq_true',beq_eq_false_iff_ne,bne_iff_ne];exact⟨Ne.symm,Ne.symm⟩
  repeat' first
   |refine ye1 func70 ntmps70 fun _ _ _=>?_
    repeat'(first|refine yz ?_|refine yp bp5 eo9 ?_|refine yp bp7 hb ?_|refine yp bp6 hc ?_|refine yx ?_|(refine yy ?_ ?_<;>intro _)|exact zD)
    done
   |cases b0
   |cases b1
   |cases zc
   |cases ze
   |cases zn
   |cases b6
   |cases b7
 ·generalize hb0:((K.length:Int) !=dm0 9)=b0;generalize hb1:decide ((LV.length:Int)+(LA.length:Int)>0)=b1;generalize hb5:decide ((LI.length:Int)>0)=b5;generalize hb6:((LO.length:Int)==0)=b6;generalize hb9:(ck==1)=b9;generalize hb7:(sk==0)=b7;replace hb0:(!((1:Int)==(K.length:Int)))=b0:=by rw[←hb0,fk9];show _↔((K.length:Int) !=1)=true;rw[Bool.not_eq_true',beq_eq_false_iff_ne,bne_iff_ne];exact⟨Ne.symm,Ne.symm⟩
  repeat' first
   |refine ye1 func70 ntmps70 fun _ _ _=>?_
    repeat'(first|refine yz ?_|refine yp bp5 ep0 ?_|refine yp bp7 hb ?_|refine yp bp6 hc ?_|refine yx ?_|(refine yy ?_ ?_<;>intro _)|exact zD)
    done
   |cases b0
   |cases b1
   |cases zc
   |cases ze
   |cases zn
   |cases b5
   |cases b6
   |cases b7
 ·generalize hb0:((K.length:Int) !=dm0 10)=b0;generalize hb1:decide ((LV.length:Int)+(LA.length:Int)>0)=b1;generalize hb5:decide ((LI.length:Int)>0)=b5;generalize hb6:((LO.length:Int)==0)=b6;generalize hb9:(ck==1)=b9;generalize hb10:decide (sk≥ -1)=b10;replace hb0:(!((1:Int)==(K.length:Int)))=b0:=by rw[←hb0,fk9];show _↔((K.length:Int) !=1)=true;rw[Bool.not_eq_true',beq_eq_false_iff_ne,bne_iff_ne];exact⟨Ne.symm,Ne.symm⟩
  repeat' first
   |refine ye1 func70 ntmps70 fun _ _ _=>?_
    repeat'(first|refine yz ?_|refine yp bp5 ep1 ?_|refine yp bp7 hb ?_|refine yp bp6 hc ?_|refine yx ?_|(refine yy ?_ ?_<;>intro _)|exact zD)
    done
   |cases b0
   |cases b1
   |cases zc
   |cases ze
   |cases zn
   |cases b5
   |cases b10
 ·generalize hb0:((K.length:Int) !=dm0 11)=b0;generalize hb1:decide ((LV.length:Int)+(LA.length:Int)>0)=b1;generalize hb5:decide ((LI.length:Int)>0)=b5;generalize hb6:((LO.length:Int)==0)=b6;generalize hb9:(ck==1)=b9;generalize hb7:(sk==0)=b7;replace hb0:(!((1:Int)==(K.length:Int)))=b0:=by rw[←hb0,fk9];show _↔((K.length:Int) !=1)=true;rw[Bool.not_eq_true',beq_eq_false_iff_ne,bne_iff_ne];exact⟨Ne.symm,Ne.symm⟩
  repeat' first
   |refine ye1 func70 ntmps70 fun _ _ _=>?_
    repeat'(first|refine yz ?_|refine yp bp5 el4 ?_|refine yp bp6 hc ?_|refine yx ?_|(refine yy ?_ ?_<;>intro _)|exact zD)
    done
   |cases b0
   |cases b1
   |cases zc
   |cases b5
   |cases b6
   |cases b7
 ·exfalso;simp only[beq_eq_false_iff_ne]at q8 q9 q10 q11;omega
end Go.Proofs.YtndgolmgaenlfaaGreatDoor
