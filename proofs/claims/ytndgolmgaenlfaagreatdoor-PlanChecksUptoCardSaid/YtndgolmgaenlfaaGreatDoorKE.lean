/- The check of a plan by the specification. Conditions: as each says. -/
import Derived.Test.YtndgolmgaenlfaaGreatDoorKC
import Derived.Test.YtndgolmgaenlfaaGreatDoorKF
import Derived.Test.YtndgolmgaenlfaaGreatDoorKG
set_option linter.unusedVariables false
set_option linter.unusedSimpArgs false
namespace Go.Proofs.YtndgolmgaenlfaaGreatDoor
set_option maxRecDepth 4000
open Go Go.Abs Go.Val Go.RowKit Go.Proofs.Tryz
attribute [local irreducible] go SGo an1 Ev au8 EvO EvS RGo
attribute [local irreducible] PGo RGw
theorem ep3(b:PB)(K:List D)(hK:K.length≤1000000000000)(h1:b.cj.vs.length+b.cj.as.length≤1000000000000):Ev E 70 [dl5 b K] (.d (.bool (dm2 b K.length))):=by
 by_cases h4:b.op=4∨b.op=5∨b.op=6∨b.op=7
 ·exact ep3b b K hK h1 h4
 ·by_cases h8:b.op=8∨b.op=9∨b.op=10∨b.op=11
  ·exact ep3c b K hK h1 h8
  ·exact ep3a b K hK h1 (by omega)
def clS(c:List ByteArray):D:=.sl (c.map .str)
structure SSo(c:List ByteArray)(od:List SK) where
 i:Nat
 hi:i≤od.length
 ok:dn4 c od=dn4 c (od.drop i)
structure SmR(b:PB):Prop where
 sm:SmB b
 cl:SmC b.cl
 ol:b.od.length≤1000000000000
set_option maxHeartbeats 8000000 in
theorem ep4(b:PB)(K:List D)(cols:List (List ByteArray))(hsr:SmR b)(hK:K.length=cols.length)(hcw:∀c∈cols,c.length≤1000000)(hcl:cols.length≤1000000):Ev E 46 [dl5 b K,.sl (cols.map clS)] (.tup [.sl ((dn7 b cols).1.map .str),.int (dn7 b cols).2]):=by
 have hsb:=hsr.sm;have hs:=ep3 b K Oa (by have:=hsb.vs;have:=hsb.at_;omega);rw[hK]at hs;generalize hR:dn7 b cols=R
 cases hfm:dm2 b cols.length with
 |false=>
  have hR:R=([],25):=by rw[←hR];unfold dn7;rw[hfm];rfl
  subst hR;rw[hfm]at hs;refine ye2 func46 ntmps46 fun _ _ _=>?_
  repeat'(first|refine yz ?_|refine yp b70 hs ?_|exact zL)
 |true=>
  rw[hfm]at hs;have hse:=ec2 hfm;rw[hR]at hse;clear hR;have hko:=ec1 (do9 hfm);have hee:=hsb.e;have hvs:=hsb.vs;have hit:=hsb.it;have hod:=hsb.od;have hsc:=hsr.cl;have hol:=hsr.ol;clear hfm hsb hsr;obtain⟨op,cj,cl,e,nm,it,od,sk,lm⟩:=b;dsimp only at hko hse hee hvs hit hod hsc hol;rcases hko with⟨rfl,hlen⟩|⟨rfl,hlen⟩|⟨rfl,hlen⟩|⟨rfl,hlen⟩|⟨rfl,hlen⟩|⟨rfl,hlen⟩|⟨rfl,hlen⟩|⟨rfl,hlen⟩|⟨rfl,hlen⟩|⟨rfl,hlen⟩|⟨rfl,hlen⟩
  ·-- op 1
   obtain rfl:=fu4.1 hlen;obtain rfl:R=([],0):=hse;refine ye2 func46 ntmps46 fun _ _ _=>?_
   repeat'(first|refine yz ?_|refine yp b70 hs ?_|exact zL)
  ·-- op 2
   obtain rfl:=fu4.1 hlen;have hm:=em0 cj hvs;obtain rfl:R=dm9 cj:=hse;generalize dm9 cj=z at*;refine ye2 func46 ntmps46 fun _ _ _=>?_
   repeat'(first|refine yz ?_|refine yp b70 hs ?_|refine yp b71 hm ?_|exact zL)
  ·-- op 3
   obtain⟨c,d,rfl⟩:∃c d,cols=[c,d]:=by(match cols,hlen with|[c,d],_=>exact⟨c,d,rfl⟩)
   have hj:=el7 c d (hcw c Oc) (hcw d Oc);have hk0:([c,d].map clS)[((0:Int)).toNat]? =some (.sl (c.map .str)):=rfl;have hk1:([c,d].map clS)[((1:Int)).toNat]? =some (.sl (d.map .str)):=rfl;obtain rfl:R=(dm4 c d,0):=hse;generalize dm4 c d=z at*;refine ye2 func46 ntmps46 fun _ _ _=>?_
   repeat'(first|refine yz ?_|refine yp b70 hs ?_|refine qI (.sl (c.map .str)) rfl (ap1 rfl) rfl rfl rfl rfl rfl rfl Oh hk0 ?_|refine qI (.sl (d.map .str)) rfl (ap1 rfl) rfl rfl rfl rfl rfl rfl Oh hk1 ?_|refine yp b72 hj ?_|exact zL)
  ·-- op 4
   obtain⟨c,d,rfl⟩:∃c d,cols=[c,d]:=by(match cols,hlen with|[c,d],_=>exact⟨c,d,rfl⟩)
   have hj:=el7 c d (hcw c Oc) (hcw d Oc);have hk0:([c,d].map clS)[((0:Int)).toNat]? =some (.sl (c.map .str)):=rfl;have hk1:([c,d].map clS)[((1:Int)).toNat]? =some (.sl (d.map .str)):=rfl;obtain rfl:R=(dm4 c d,0):=hse;generalize dm4 c d=z at*;refine ye2 func46 ntmps46 fun _ _ _=>?_
   repeat'(first|refine yz ?_|refine yp b70 hs ?_|refine qI (.sl (c.map .str)) rfl (ap1 rfl) rfl rfl rfl rfl rfl rfl Oh hk0 ?_|refine qI (.sl (d.map .str)) rfl (ap1 rfl) rfl rfl rfl rfl rfl rfl Oh hk1 ?_|refine yp b72 hj ?_|exact zL)
  all_goals(obtain⟨c,rfl⟩:=List.length_eq_one_iff.1 hlen;have hcc:=hcw c Oc;have hk0:([c].map clS)[((0:Int)).toNat]? =some (.sl (c.map .str)):=rfl;clear hlen hcw hcl hK;have hne:c≠ []→c.map D.str≠ []:=(fun h=>by simpa using h);have hal:(c.map D.str).length=c.length:=Oc;have hac:∀d∈c.map D.str,d.cells.length=1:=(fun d hd=>by obtain⟨s,-,rfl⟩:=fl3.1 hd;rfl))
  ·-- op 5
   have ha:=eo1 cl c hsc hcc;obtain rfl:R=dn1 cl c:=hse;generalize dn1 cl c=z at*;refine ye2 func46 ntmps46 fun _ _ _=>?_
   repeat'(first|refine yz ?_|refine yp b70 hs ?_|refine qI (.sl (c.map .str)) rfl (ap1 rfl) rfl rfl rfl rfl rfl rfl Oh hk0 ?_|refine yp b73 ha ?_|exact zL)
  ·-- op 6
   have hx:=el6 e c hee;have hse:R=dn6 (dd3 e c) c:=hse
   cases hz0:dd3 e c !=0 with
   |true=>
    have hR2:R=([],dd3 e c):=by rw[hse];unfold dn6;rw[hz0];rfl
    subst hR2;clear hse;generalize dd3 e c=z at*;refine ye2 func46 ntmps46 fun _ _ _=>?_
    repeat'(first|refine yz ?_|refine yp b70 hs ?_|refine qI (.sl (c.map .str)) rfl (ap1 rfl) rfl rfl rfl rfl rfl rfl Oh hk0 ?_|refine yp b74 hx ?_|exact zL)
   |false=>
    have hz1:dd3 e c=0:=by simpa using hz0
    have hR2:R=(c,0):=by rw[hse];unfold dn6;rw[hz0];rfl
    subst hR2;rw[hz1]at hx;clear hse hz0 hz1
    by_cases h0:c=[]
    ·subst h0;refine ye2 func46 ntmps46 fun _ _ _=>?_
     repeat'(first|(refine bm2 ?_)|(refine bm3 ?_)|refine yz ?_|refine yp b70 hs ?_|refine qI (.sl (([]:List ByteArray).map .str)) rfl (ap1 rfl) rfl rfl rfl rfl rfl rfl Oh hk0 ?_|refine yp b74 hx ?_)
     refine bm6 4 rfl ?_
     repeat'(first|refine qM rfl rfl rfl ?_|exact zL)
    ·refine ye2 func46 ntmps46 fun _ _ _=>?_
     repeat'(first|(refine bm2 ?_)|refine yz ?_|refine yp b70 hs ?_|refine qI (.sl (c.map .str)) rfl (ap1 rfl) rfl rfl rfl rfl rfl rfl Oh hk0 ?_|refine yp b74 hx ?_|(refine bm4 ?_ ?_;exact⟨hne h0,hac,by(show(c.map D.str).length*16≤140737488355328;omega),by(show(c.map D.str).length≤9223372036854775807;omega)⟩))
     refine au2 1 rfl ?_;dsimp only[ar6,ar5,ar8,ar7,List.map,List.set]
     repeat'(first|refine qM rfl rfl rfl ?_|exact zL)
  ·-- op 7
   have hi:=eo4 ⟨7,cj,cl,e,nm,it,od,sk,lm⟩ K c hit;have hse:R=bif decide (it.length>24)then erR 4 else dn3 ((7:Int)==8) c it []:=hse;dsimp only at hi;rw[←hse]at hi;clear hse;refine ye2 func46 ntmps46 fun _ _ _=>?_
   repeat'(first|refine yz ?_|refine yp b70 hs ?_|refine qI (.sl (c.map .str)) rfl (ap1 rfl) rfl rfl rfl rfl rfl rfl Oh hk0 ?_|refine yp b75 hi ?_|exact zL)
  ·-- op 8
   have hi:=eo4 ⟨8,cj,cl,e,nm,it,od,sk,lm⟩ K c hit;have hse:R=bif decide (it.length>24)then erR 4 else dn3 ((8:Int)==8) c it []:=hse;dsimp only at hi;rw[←hse]at hi;clear hse;refine ye2 func46 ntmps46 fun _ _ _=>?_
   repeat'(first|refine yz ?_|refine yp b70 hs ?_|refine qI (.sl (c.map .str)) rfl (ap1 rfl) rfl rfl rfl rfl rfl rfl Oh hk0 ?_|refine yp b75 hi ?_|exact zL)
  ·-- op 9
   obtain rfl:R=(c,0):=hse
   by_cases h0:c=[]
   ·subst h0;refine ye2 func46 ntmps46 fun _ _ _=>?_
    repeat'(first|(refine bm2 ?_)|(refine bm3 ?_)|refine yz ?_|refine yp b70 hs ?_|refine qI (.sl (([]:List ByteArray).map .str)) rfl (ap1 rfl) rfl rfl rfl rfl rfl rfl Oh hk0 ?_)
    refine bm6 4 rfl ?_
    repeat'(first|refine qM rfl rfl rfl ?_|exact zL)
   ·refine ye2 func46 ntmps46 fun _ _ _=>?_
    repeat'(first|(refine bm2 ?_)|refine yz ?_|refine yp b70 hs ?_|refine qI (.sl (c.map .str)) rfl (ap1 rfl) rfl rfl rfl rfl rfl rfl Oh hk0 ?_|(refine bm4 ?_ ?_;exact⟨hne h0,hac,by(show(c.map D.str).length*16≤140737488355328;omega),by(show(c.map D.str).length≤9223372036854775807;omega)⟩))
    refine au2 1 rfl ?_;dsimp only[ar6,ar5,ar8,ar7,List.map,List.set]
    repeat'(first|refine qM rfl rfl rfl ?_|exact zL)
  ·-- op 10
   have hse:R=dn6 (dn4 c od) c:=hse;have hlo:(od.map co4).length=od.length:=Oc
   refine ye2 func46 ntmps46 fun _ _ _=>?_
   repeat'(first|refine yz ?_|refine yp b70 hs ?_)
   refine ac7 (α:=SSo c od) (fun s=>⟨[(1,.d (.sl ([c].map clS))),(2,.ptr 0 0),(7,.d (.int s.i))],[oPK ⟨10,cj,cl,e,nm,it,od,sk,lm⟩ K]⟩) (fun s=>od.length-s.i) ⟨0,by omega,rfl⟩ (zle 1) ?_;rintro⟨i,hi,ok⟩;dsimp only;rcases fj8 i od.length with hlt|hge
   ·have g1:decide ((i:Int)<((od.map co4).length:Int))=true:=by rw[hlo];simpa using hlt
    have hx0:=fj7 hlt;generalize od[i]=x at hx0;have hx:=ct3 (f:=co4) hx0;have he:=el6 x.e c (hod x (fj9 hx0));have hat:=dv5 (cols:=c) hx0
    cases hz0:dd3 x.e c !=0 with
    |true=>
     have hR2:R=([],dd3 x.e c):=by rw[hse,ok,hat,hz0,cond_true];unfold dn6;rw[hz0];rfl
     subst hR2;clear hse hat ok;generalize dd3 x.e c=z at*
     repeat'(first|refine yz ?_|refine yi (co4 x) hx ?_|refine bj8 9 rfl rfl rfl rfl rfl rfl ?_|refine qI (.sl (c.map .str)) rfl (ap1 rfl) rfl rfl rfl rfl rfl rfl Oh hk0 ?_|refine yp b74 he ?_|exact zL)
    |false=>
     have hz1:dd3 x.e c=0:=by simpa using hz0
     rw[hz0,cond_false]at hat;rw[hz1]at he
     repeat'(first|refine yz ?_|refine yi (co4 x) hx ?_|refine bj8 9 rfl rfl rfl rfl rfl rfl ?_|refine qI (.sl (c.map .str)) rfl (ap1 rfl) rfl rfl rfl rfl rfl rfl Oh hk0 ?_|refine yp b74 he ?_)
     refine ac1 ?_;exact⟨⟨i+1,by omega,ok.trans hat⟩,by dsimp only;omega,(zle 1)⟩
   ·have g1:decide ((i:Int)<((od.map co4).length:Int))=false:=by rw[hlo];simp;omega
    have hR2:R=(c,0):=by rw[hse,ok,fk5 hge];rfl
    subst hR2;clear hse ok
    by_cases h0:c=[]
    ·subst h0
     repeat'(first|(refine bm2 ?_)|(refine bm3 ?_)|refine yz ?_|refine qI (.sl (([]:List ByteArray).map .str)) rfl (ap1 rfl) rfl rfl rfl rfl rfl rfl Oh hk0 ?_)
     refine bm6 4 rfl ?_
     repeat'(first|refine qM rfl rfl rfl ?_|exact zL)
    ·skip
     repeat'(first|(refine bm2 ?_)|refine yz ?_|refine qI (.sl (c.map .str)) rfl (ap1 rfl) rfl rfl rfl rfl rfl rfl Oh hk0 ?_|(refine bm4 ?_ ?_;exact⟨hne h0,hac,by(show(c.map D.str).length*16≤140737488355328;omega),by(show(c.map D.str).length≤9223372036854775807;omega)⟩))
     refine au2 1 rfl ?_;dsimp only[ar6,ar5,ar8,ar7,List.map,List.set]
     repeat'(first|refine qM rfl rfl rfl ?_|exact zL)
  ·-- op 11
   have hx:=el6 e c hee;have hd:=db1 e;have hee':nd e≤1000000:=hee;have hk:=cn8 e Oa Oa;have hw:=cm5 nm;have hh:=bx8 c nm;have hse:R=dn6 (dn5 ⟨11,cj,cl,e,nm,it,od,sk,lm⟩ c) (c++ [nm]):=hse;have hu:dn5 ⟨11,cj,cl,e,nm,it,od,sk,lm⟩ c=bif cn6 e !=0 then cn6 e else bif !(cm2 nm)|| !(dd2 e c)then 6 else bif co7 e then 9 else bif bx6 c nm then 7 else 0:=rfl;have hq:dd3 e c=bif cn6 e !=0 then cn6 e else bif !(dd2 e c)then 6 else bif co7 e then 9 else 0:=rfl;rw[hu]at hse;rw[hq]at hx;clear hu hq;generalize dd2 e c=kn at*;generalize co7 e=ag at*
   cases hc0:cn6 e !=0 with
   |true=>
    have hR2:R=([],cn6 e):=by rw[hse,hc0,cond_true];unfold dn6;rw[hc0];rfl
    subst hR2;clear hse hx;generalize cn6 e=z at*;refine ye2 func46 ntmps46 fun _ _ _=>?_
    repeat'(first|refine yz ?_|refine yp b70 hs ?_|refine yp b76 hk ?_|exact zL)
   |false=>
   have hc1:cn6 e=0:=by simpa using hc0
   rw[hc1]at hk;rw[hc0,cond_false]at hse hx;clear hc0 hc1
   cases hwd:cm2 nm with
   |false=>
    rw[hwd]at hse hw;have hR2:R=([],6):=by rw[hse];rfl
    subst hR2;clear hse hx;refine ye2 func46 ntmps46 fun _ _ _=>?_
    repeat'(first|refine yz ?_|refine yp b70 hs ?_|refine yp b76 hk ?_|refine yp b77 hw ?_|exact zL)
   |true=>
   rw[hwd]at hse hw;rw[fp8,fm9]at hse
   cases kn with
   |false=>
    have hR2:R=([],6):=by rw[hse];rfl
    subst hR2;clear hse;have hx:Ev E 74 [by1 e,.sl (c.map .str),.bool false] (.d (.int 6)):=hx;refine ye2 func46 ntmps46 fun _ _ _=>?_
    repeat'(first|refine yz ?_|refine yp b70 hs ?_|refine yp b76 hk ?_|refine yp b77 hw ?_|refine qI (.sl (c.map .str)) rfl (ap1 rfl) rfl rfl rfl rfl rfl rfl Oh hk0 ?_|refine yp b74 hx ?_|exact zL)
   |true=>
   cases ag with
   |true=>
    have hR2:R=([],9):=by rw[hse];rfl
    subst hR2;clear hse;have hx:Ev E 74 [by1 e,.sl (c.map .str),.bool false] (.d (.int 9)):=hx;refine ye2 func46 ntmps46 fun _ _ _=>?_
    repeat'(first|refine yz ?_|refine yp b70 hs ?_|refine yp b76 hk ?_|refine yp b77 hw ?_|refine qI (.sl (c.map .str)) rfl (ap1 rfl) rfl rfl rfl rfl rfl rfl Oh hk0 ?_|refine yp b74 hx ?_|exact zL)
   |false=>
   have hx:Ev E 74 [by1 e,.sl (c.map .str),.bool false] (.d (.int 0)):=hx
   cases hhs:bx6 c nm with
   |true=>
    rw[hhs]at hse hh;have hR2:R=([],7):=by rw[hse];rfl
    subst hR2;clear hse;refine ye2 func46 ntmps46 fun _ _ _=>?_
    repeat'(first|refine yz ?_|refine yp b70 hs ?_|refine yp b76 hk ?_|refine yp b77 hw ?_|refine qI (.sl (c.map .str)) rfl (ap1 rfl) rfl rfl rfl rfl rfl rfl Oh hk0 ?_|refine yp b74 hx ?_|refine yp b17 hh ?_|exact zL)
   |false=>
    rw[hhs]at hse hh;have hR2:R=(c++ [nm],0):=by rw[hse];rfl
    subst hR2;clear hse;have hmp:(c++ [nm]).map D.str=c.map D.str++ [.str nm]:=Oc
    dsimp only;rw[hmp]
    by_cases h0:c=[]
    ·subst h0;refine ye2 func46 ntmps46 fun _ _ _=>?_
     repeat'(first|refine bh4 (id:=38) [8] [] Ob Ob Oj ?_|refine reF (id:=38) (i:=0) 8 Ob rfl ?_|refine reF (id:=38) (i:=9) 2 Ob rfl ?_|refine reN ?_|(refine bm2 ?_)|(refine bm3 ?_)|refine yz ?_|refine yp b70 hs ?_|refine yp b76 hk ?_|refine yp b77 hw ?_|refine qI (.sl (([]:List ByteArray).map .str)) rfl (ap1 rfl) rfl rfl rfl rfl rfl rfl Oh hk0 ?_|refine yp b74 hx ?_|refine yp b17 hh ?_|refine reZ (id:=38) (i:=8) (⟨by simp,fun d hd=>by(obtain rfl:=fk8.1 hd;rfl),by(show 1*16≤140737488355328;omega),by(show 1≤9223372036854775807;omega)⟩) rfl rfl rfl rfl rfl rfl rfl rfl rfl rfl Oj ?_)
     refine au2 1 rfl ?_;dsimp only[ar6,ar5,ar8,ar7,List.map,List.set]
     repeat'(first|refine qM rfl rfl rfl ?_|exact zL)
    ·refine ye2 func46 ntmps46 fun _ _ _=>?_
     repeat'(first|refine bh4 (id:=38) [4,8] [] Ob Ob Oj ?_|refine reF (id:=38) (i:=0) 4 Ob rfl ?_|(refine reV (id:=38) (i:=5) rfl rfl rfl rfl rfl rfl ?_ ?_;(first|exact True.intro|rfl|assumption|omega|(simp only[inR];omega)|((show _≤(9223372036854775807:Nat));(try simp only[ByteArray.size_append]);omega)|exact au6 Oa Oa|exact au7 Oa Oa|exact⟨rfl,by decide,by decide⟩))|(refine reV (id:=38) (i:=6) rfl rfl rfl rfl rfl rfl ?_ ?_;(first|exact True.intro|rfl|assumption|omega|(simp only[inR];omega)|((show _≤(9223372036854775807:Nat));(try simp only[ByteArray.size_append]);omega)|exact au6 Oa Oa|exact au7 Oa Oa|exact⟨rfl,by decide,by decide⟩))|refine reF (id:=38) (i:=9) 2 Ob rfl ?_|refine reN ?_|(refine bm2 ?_)|refine yz ?_|refine yp b70 hs ?_|refine yp b76 hk ?_|refine yp b77 hw ?_|refine qI (.sl (c.map .str)) rfl (ap1 rfl) rfl rfl rfl rfl rfl rfl Oh hk0 ?_|refine yp b74 hx ?_|refine yp b17 hh ?_|refine reZ (id:=38) (i:=4) (⟨hne h0,hac,by(show(c.map D.str).length*16≤140737488355328;omega),by(show(c.map D.str).length≤9223372036854775807;omega)⟩) rfl rfl rfl rfl rfl rfl rfl rfl rfl rfl Oj ?_|(refine reV2 (id:=38) (i:=7) rfl rfl rfl rfl rfl rfl ?_ ?_;(first|exact True.intro|rfl|assumption|omega|(simp only[inR];omega)|((show _≤(9223372036854775807:Nat));(try simp only[ByteArray.size_append]);omega)|exact au6 Oa Oa|exact au7 Oa Oa|exact⟨rfl,by decide,by decide⟩))|refine reS (id:=38) (i:=8) rfl rfl rfl rfl (⟨by simp,fun d hd=>by(obtain rfl:=fk8.1 hd;rfl),by(show((c.map D.str).length+1)*16≤140737488355328;rw[fk3];omega),by(show(c.map D.str).length+1≤9223372036854775807;rw[fk3];omega)⟩) Oj ?_)
     refine au2 2 rfl ?_;dsimp only[ar6,ar5,ar8,ar7,List.map,List.set]
     repeat'(first|refine qM rfl rfl rfl ?_|exact zL)
set_option maxHeartbeats 4000000 in
theorem ep5(p:Pl):alB SmR p→szP p≤1000000→cwP p≤1000000→Ev E 25 [dl6 p] (.tup [.sl ((dn8 p).1.map .str),.int (dn8 p).2]):=by
 refine dl4 (P:=fun p=>alB SmR p→szP p≤1000000→cwP p≤1000000→Ev E 25 [dl6 p] (.tup [.sl ((dn8 p).1.map .str),.int (dn8 p).2])) (fun b ks ih hs hz hw=>?_) p;rw[alB]at hs;rw[szP]at hz;rw[cwP]at hw;have hks:=dy7 hs.2;have hkl:=do5 ks;have hsb:=hs.1;have hle:(ks.map dl6).length=ks.length:=Oc
 rw[dl9];generalize hR:dn8 (.mk b ks)=R;refine ye1 func25 ntmps25 fun _ _ _=>?_
 repeat'(refine yz ?_)
 refine ac7 (α:=SiC ks) (fun q=>⟨[(1,.ptr 0 0),(4,bf9 1 ((ks.take q.i).map eb8)),(5,.d (.int q.i))],[oPK b (ks.map dl6)]++aw7 23 1 ((ks.take q.i).map eb8)⟩) (fun q=>ks.length-q.i) ⟨0,by omega,fun _ h=>by cases h⟩ (zle 1) ?_;rintro⟨i,hi,ok⟩;dsimp only;rcases fj8 i ks.length with hlt|hge
 ·have g1:decide ((i:Int)<((ks.map dl6).length:Int))=true:=by rw[hle];simpa using hlt
  have hx0:=fj7 hlt;generalize ks[i]=x at hx0;have hx:=ct3 (f:=dl6) hx0;have hm:=fj9 hx0;have hsx:=do3 hm;have hwx:=dz0 hm;have hc:=ih x hm (hks x hm) Oa Oa;have htk:(ks.take (i+1)).map eb8=(ks.take i).map eb8++ [eb8 x]:=by rw[fm8,hx0,fo8];rfl
  have hln:((ks.take i).map eb8).length≤1000000:=by rw[fk3,fm4];omega
  rw[ea7]at hx hc
  cases hz0:(dn8 x).2 !=0 with
  |true=>
   have hR2:R=([],(dn8 x).2):=by
    rw[←hR,dn8,eb9 hx0 ok (by simpa using hz0),hz0];rfl
   subst hR2;clear hR htk;generalize(dn8 x).2=z at*;generalize(ks.take i).map eb8=K at*
   match K with
   |[]=>
    dsimp only[bf9,aw7,List.append,HAppend.hAppend,Append.append]
    repeat'(first|refine yz ?_|refine qI (dl5 x.b (x.ks.map dl6)) rfl (ap1 rfl) rfl rfl rfl rfl rfl rfl Oh hx ?_|refine yp b25 hc ?_|exact zL)
   |d::r=>
    dsimp only[bf9,aw7,List.append,HAppend.hAppend,Append.append]
    repeat'(first|refine yz ?_|refine qI (dl5 x.b (x.ks.map dl6)) rfl (ap1 rfl) rfl rfl rfl rfl rfl rfl Oh hx ?_|refine yp b25 hc ?_|exact zL)
  |false=>
   have hz1:(dn8 x).2=0:=by simpa using hz0
   have hok:∀p∈ks.take (i+1),(dn8 p).2=0:=by
    rw[fm8,hx0];intro p hp;rcases fm1.1 hp with h|h
    ·exact ok p h
    ·obtain rfl:p=x:=by simpa using h
     exact hz1
   rw[hz1]at hc;have hcd:eb8 x=.sl ((dn8 x).1.map .str):=rfl;rw[hcd]at htk;generalize(dn8 x).1=cx at*;generalize(ks.take i).map eb8=K at*
   match K,hln with
   |[],hln=>
    dsimp only[bf9,aw7,List.append,HAppend.hAppend,Append.append]
    repeat'(first|refine yz ?_|refine qI (dl5 x.b (x.ks.map dl6)) rfl (ap1 rfl) rfl rfl rfl rfl rfl rfl Oh hx ?_|refine yp b25 hc ?_|(refine qS rfl ⟨by simp,fun d hd=>by(obtain rfl:=fk8.1 hd;rfl),by(show _*24≤140737488355328;simp<;>omega),by(show _≤9223372036854775807;simp<;>omega)⟩ ?_))
    refine ac1 ?_;refine⟨⟨i+1,by omega,hok⟩,by dsimp only;omega,?_⟩;dsimp only;rw[htk];exact(bh0 [0,1])
   |d::r,hln=>
    simp only[fk0]at hln;dsimp only[bf9,aw7,List.append,HAppend.hAppend,Append.append]
    repeat'(first|refine yz ?_|refine qI (dl5 x.b (x.ks.map dl6)) rfl (ap1 rfl) rfl rfl rfl rfl rfl rfl Oh hx ?_|refine yp b25 hc ?_|(refine qS rfl ⟨by simp,fun d hd=>by(obtain rfl:=fk8.1 hd;rfl),by(show _*24≤140737488355328;simp<;>omega),by(show _≤9223372036854775807;simp<;>omega)⟩ ?_))
    refine ac1 ?_;refine⟨⟨i+1,by omega,hok⟩,by dsimp only;omega,?_⟩;dsimp only;rw[htk];exact(bh0 [0,2])
 ·have g1:decide ((i:Int)<((ks.map dl6).length:Int))=false:=by rw[hle];simp;omega
  have hall:∀p∈ks,(dn8 p).2=0:=by rw[fl4 hge]at ok;exact ok
  have hsel:R=dn7 b (ks.map fun p=>(dn8 p).1):=by rw[←hR,dn8,ec0 hall];rfl
  have hcw:∀c∈ks.map (fun p=>(dn8 p).1),c.length≤1000000:=fun c hc=>by
   obtain⟨p,hp,rfl⟩:=fl3.1 hc;have h1:=dz7 p;have h2:=dz0 hp;omega
  have hself:=ep4 b (ks.map dl6) (ks.map fun p=>(dn8 p).1) hsb Oc hcw Og;rw[←hsel]at hself;have hmm:(ks.map fun p=>(dn8 p).1).map clS=ks.map eb8:=by rw[List.map_map];rfl
  rw[hmm]at hself;rw[fl4 hge];clear hsel hcw hmm ih hks hall;generalize ks.map eb8=K at*
  match K,hself with
  |[],hself=>
   dsimp only[bf9,aw7,List.append,HAppend.hAppend,Append.append];refine bh7 4 rfl ?_
   repeat'(first|refine yz ?_|refine yp b46 hself ?_|exact zL)
  |d::r,hself=>
   dsimp only[bf9,aw7,List.append,HAppend.hAppend,Append.append];refine au2 1 rfl ?_;dsimp only[ar6,ar5,ar8,ar7,List.map,List.set]
   repeat'(first|refine yz ?_|refine yp b46 hself ?_|exact zL)
theorem ep6(p:Pl)(hs:alB SmR p)(hz:szP p≤1000000)(hw:cwP p≤1000000):Ev E 11 [dl6 p] (.tup [.sl ((do2 p).1.map .str),.int (do2 p).2]):=by
 have h1:=ek9 p hz;have h2:=ek6 p hz;have h3:=ep5 p hs hz hw;unfold do2;generalize dpP p=dd at*;generalize szP p=sz at*;generalize dn8 p=c at*;obtain⟨b,ks⟩:=p;rw[dl9]at*
 cases c1:decide (dd>200)with
 |true=>
  rw[cond_true];have g1:=yT ((dd:Int)>200) (by have:=of_decide_eq_true c1;omega);refine ye1 func11 ntmps11 fun _ _ _=>?_
  repeat'(first|refine yz ?_|refine yp b24 h1 ?_|exact zL)
 |false=>
  have g1:=yF ((dd:Int)>200) (by have:=of_decide_eq_false c1;omega);rw[cond_false]
  cases c2:decide (sz>2000)with
  |true=>
   rw[cond_true];have g2:=yT ((sz:Int)>2000) (by have:=of_decide_eq_true c2;omega);refine ye1 func11 ntmps11 fun _ _ _=>?_
   repeat'(first|refine yz ?_|refine yp b24 h1 ?_|refine yp b14 h2 ?_|exact zL)
  |false=>
   rw[cond_false];have g2:=yF ((sz:Int)>2000) (by have:=of_decide_eq_false c2;omega);refine ye1 func11 ntmps11 fun _ _ _=>?_
   repeat'(first|refine yz ?_|refine yp b24 h1 ?_|refine yp b14 h2 ?_|refine yp b25 h3 ?_|exact zL)
theorem ep7{b:PB}{K:List D}(h:bg5 (dl5 b K)≤1048576)(hv:b.cj.vs.length≤1000000):SmR b:=by
 have hb:=ei5 b K;have l4:=eg5 1 (L:=b.od.map co4) fun d hd=>by obtain⟨p,-,rfl⟩:=fl3.1 hd;exact(eh2 p).2
 rw[fk3]at l4;exact⟨ei6 h hv,ei4 Oa,by omega⟩
theorem ep8(p:Pl):bg5 (dl6 p)≤1048576→vsP p≤100000→alB SmR p:=by
 refine dl4 (P:=fun p=>bg5 (dl6 p)≤1048576→vsP p≤100000→alB SmR p) (fun b ks ih h hv=>?_) p;rw[dl9]at h;rw[vsP]at hv;have hb:=ei5 b (ks.map dl6)
 have key:∀L:List Pl,(∀x∈L,alB SmR x)→dy6 SmR L:=by
  intro L
  induction L with
  |nil=>intro _;exact trivial
  |cons a r ihr=>intro hx;exact⟨hx a Oc,ihr fun x hm=>hx x (by simp[hm])⟩
 rw[alB];refine⟨ep7 h Oa,key ks fun x hx=>ih x hx ?_ ?_⟩
 ·have:=eg4 (fn4 (f:=dl6) hx);omega
 ·have:=ei8 hx;omega
theorem ep9(p:Pl)(h:bg5 (dl6 p)≤1048576)(hv:vsP p≤100000):Ev E 11 [dl6 p] (.tup [.sl ((do2 p).1.map .str),.int (do2 p).2]):=by
 obtain⟨h1,h2,h3⟩:=ei9 p h hv;exact ep6 p (ep8 p h hv) Oa Oa
end Go.Proofs.YtndgolmgaenlfaaGreatDoor
