/- What the functions of layers 1 and 3 return: In, Gcd, Valid of both texts; The small functions of layer 4, of the program and of the specification: lo. Conditions: each part's own, as it says. -/
import Derived.Test.YtndgolmgaenlfaaGreatDoorGC
import Derived.Test.YtndgolmgaenlfaaGreatDoorGS
import Derived.Lib.ItoaLen
import Derived.Lib.AppendIntMem
import Derived.Test.YtndgolmgaenlfaaGreatDoorGB
set_option linter.unusedVariables false
set_option linter.unusedSimpArgs false
namespace Go.Proofs.YtndgolmgaenlfaaGreatDoor
set_option maxRecDepth 4000
open Go Go.Abs Go.Val Go.Proofs.Tryz
attribute [local irreducible] go SGo an9 Ev
theorem bt7(n:Int):Ev E 324 [.int n] (.d (.bool (inM n))):=by
 refine ye1 func324 ntmps324 fun _ _ _=>?_
 repeat'(first|refine yz ?_|(refine yy ?_ ?_<;>intro _))
 all_goals(simp_all [inM];try omega)
theorem bt8(n:Int):Ev E 243 [.int n] (.d (.bool (inM n))):=by
 refine ye1 func243 ntmps243 fun _ _ _=>?_
 repeat'(first|refine yz ?_|(refine yy ?_ ?_<;>intro _))
 all_goals(simp_all [inM];try omega)
theorem bt9(n:Int)(h:inM n=true):Ev E 354 [.int n] (.d (.int (n.natAbs:Int))):=by
 have hb:=(bq0 n).1 h;refine ye1 func354 ntmps354 fun _ _ _=>?_
 repeat'(refine yz ?_)
 all_goals(simp only[cond_true];congr 3;omega)
theorem bu0(n:Int)(h: -9223372036854775807≤n):Ev E 171 [.int n] (.d (.int (n.natAbs:Int))):=by
 by_cases hn:n<0
 ·have hd:decide (n<0)=true:=by simpa using hn
  refine ye1 func171 ntmps171 fun _ _ _=>?_
  repeat'(refine yz ?_)
  all_goals(congr 3;omega)
 ·have hd:decide (n<0)=false:=by simpa using hn
  refine ye1 func171 ntmps171 fun _ _ _=>?_
  repeat'(refine yz ?_)
  all_goals(congr 3;omega)
theorem bu1{x y:Int}(hx:0≤x)(hy:0<y):x.tmod y=x % y∧0≤x % y∧x % y<y:=⟨gg2 hx,Int.emod_nonneg x Oa,Int.emod_lt_of_pos x hy⟩
theorem bu2{x y:Int}(hx:0≤x)(hy:0≤y):Int.gcd y (x % y)=Int.gcd x y:=by
 obtain⟨a,rfl⟩:=gh3 hx;obtain⟨b,rfl⟩:=gh3 hy;have e:((a:Int) % (b:Int))=((a % b:Nat):Int):=Oa
 rw[e];simp only[Int.gcd,Int.natAbs_natCast];rw[Nat.gcd_comm b,←Nat.gcd_rec,Nat.gcd_comm]
structure GS(g:Nat) where
 x:Int
 y:Int
 hx:0≤x
 hy:0≤y
 bx:x≤9223372036854775807
 by_:y≤9223372036854775807
 hg:Int.gcd x y=g
theorem bu3(a b:Int)(ha:0≤a)(hb:0≤b)(ha':a≤9223372036854775807)(hb':b≤9223372036854775807):Ev E 247 [.int a,.int b] (.d (.int (Int.gcd a b:Int))):=by
 refine ye2 func247 ntmps247 fun _ _ _=>?_
 repeat'(refine yz ?_)
 refine ac8 (α:=GS (Int.gcd a b)) (fun p=>⟨[(0,.d (.int p.x)),(1,.d (.int p.y))],[]⟩) (fun p=>p.y.toNat) ⟨a,b,ha,hb,ha',hb',rfl⟩ (zle 0) ?_;rintro⟨x,y,hx,hy,bx,by_,hg⟩;dsimp only
 by_cases hlt:y>0
 ·have hd:decide (y>0)=true:=by simpa using hlt
  obtain⟨e1,e2,e3⟩:=bu1 hx hlt
  repeat'(refine yz ?_)
  refine ac2 ?_;refine⟨⟨y,x % y,hy,e2,by_,by omega,by rw[bu2 hx hy];exact hg⟩,by dsimp only;omega,?_⟩;dsimp only;rw[←e1];exact(zle 0)
 ·have hd:decide (y>0)=false:=by simpa using hlt
  repeat'(refine yz ?_)
  obtain rfl:y=0:=Oa
  rw[←hg,Int.gcd_zero_right];congr 3;omega
theorem bu4(a b:Int):Ev E 327 [.int a,.int b] (.d (.int (bq1 a b))):=by
 cases ha:inM a with
 |false=>
  have ia:Ev E 324 [.int a] (.d (.bool false)):=ha ▸ bt7 a;refine ye2 func327 ntmps327 fun _ _ _=>?_
  repeat'(first|refine yz ?_|refine yp bt6 ia ?_)
  simp[bq1,ha]
 |true=>
  have ia:Ev E 324 [.int a] (.d (.bool true)):=ha ▸ bt7 a
  cases hb:inM b with
  |false=>
   have ib:Ev E 324 [.int b] (.d (.bool false)):=hb ▸ bt7 b;refine ye2 func327 ntmps327 fun _ _ _=>?_
   repeat'(first|refine yz ?_|refine yp bt6 ia ?_|refine yp bt6 ib ?_)
   simp[bq1,ha,hb]
  |true=>
   have ib:Ev E 324 [.int b] (.d (.bool true)):=hb ▸ bt7 b;have ba:=(bq0 a).1 ha;have bb:=(bq0 b).1 hb;refine ye2 func327 ntmps327 fun _ _ _=>?_
   repeat'(first|refine yz ?_|refine yp bt6 ia ?_|refine yp bt6 ib ?_|refine yp b354 (bt9 a ha) ?_|refine yp b354 (bt9 b hb) ?_)
   refine ac8 (α:=GS (Int.gcd a b)) (fun p=>⟨[(0,.d (.int p.x)),(1,.d (.int p.y))],[]⟩) (fun p=>p.y.toNat) ⟨a.natAbs,b.natAbs,by omega,by omega,by omega,by omega,by simp[Int.gcd]⟩ (zle 0) ?_;rintro⟨x,y,hx,hy,bx,by_,hg⟩;dsimp only
   by_cases hlt:y=0
   ·subst hlt
    repeat'(refine yz ?_)
    simp only[bq1,ha,hb,Bool.and_self,cond_true];rw[←hg,Int.gcd_zero_right];congr 3;omega
   ·have hd:(y !=0)=true:=by simpa using hlt
    obtain⟨e1,e2,e3⟩:=bu1 hx (show 0<y by omega)
    repeat'(refine yz ?_)
    refine ac2 ?_;refine⟨⟨y,x % y,hy,e2,by_,by omega,by rw[bu2 hx hy];exact hg⟩,by dsimp only;omega,?_⟩;dsimp only;rw[←e1];exact(zle 0)
theorem bu5(n d:Int):Ev E 284 [.agg [.int n,.int d]] (.d (.bool (bq2 n d))):=by
 have hg:=bu4 n d
 cases hn:inM n with
 |false=>
  have i1:Ev E 324 [.int n] (.d (.bool false)):=hn ▸ bt7 n;refine ye1 func284 ntmps284 fun _ _ _=>?_
  repeat'(first|refine yz ?_|refine yp bt6 i1 ?_|(refine yy ?_ ?_<;>intro _))
  all_goals(refine congrArg D.bool ?_;clear i1 hg;simp_all [bq2])
 |true=>
  have i1:Ev E 324 [.int n] (.d (.bool true)):=hn ▸ bt7 n;refine ye1 func284 ntmps284 fun _ _ _=>?_
  repeat'(first|refine yz ?_|refine yp bt6 i1 ?_|refine yp b327 hg ?_|(refine yy ?_ ?_<;>intro _))
  all_goals(refine congrArg D.bool ?_;clear i1 hg;simp_all [bq2,bq1];try omega)
  rw[(bq0 d).2 Oa];rfl
theorem bu6(n d:Int):Ev E 167 [.agg [.int n,.int d]] (.d (.bool (bq2 n d))):=by
 refine ye1 func167 ntmps167 fun _ _ _=>?_
 repeat'(first|refine yz ?_|refine yp b171 (bu0 n (by simp_all;omega)) ?_|refine yp b247 (bu3 n.natAbs d Oa (by simp_all;omega) (by simp_all;omega) (by simp_all;omega)) ?_|(refine yy ?_ ?_<;>intro _))
 all_goals(refine congrArg D.bool ?_;simp_all [bq2,inM,Int.gcd];try omega)
theorem bu7(b:Bool):Ev E 100 [.bool b] (.d (.int (tt b))):=by
 cases b
 ·refine ye1 func100 ntmps100 fun _ _ _=>?_
  exact Om
 ·refine ye1 func100 ntmps100 fun _ _ _=>?_
  exact Om
def l0(v:V):Bool:=((kids v).length:Int)==0
theorem bu8(v:V):l0 v=(v.l.length==0):=by
 unfold l0;rw[bp6]
 cases v.l with
 |nil=>rfl
 |cons a r=>
  simp only[fy7];rw[beq_eq_false_iff_ne.2 Oa,beq_eq_false_iff_ne.2 Oa]
def bu9(v:V)(n d s l:Bool):Bool:=(n||v.n==0) &&((d||v.d==0) &&((s||s0 v.s) &&(l||l0 v)))
theorem bv0(v:V)(n d s l:Bool):Ev E 242 [enc v,.bool n,.bool d,.bool s,.bool l] (.d (.bool (bu9 v n d s l))):=by
 cases n<;>cases d<;>cases s<;>cases l<;>(
 refine aq7 func242 ntmps242 rfl rfl fun w0 F0 O=>?_
 repeat'(first|refine yz ?_|(refine yy ?_ ?_<;>intro _)|exact zD)
 all_goals(refine congrArg D.bool ?_;simp_all [bu9,s0,l0]))
def cOK(b:UInt8):Bool:= !(decide (b.toNat<32)||decide (b.toNat>126))
theorem bv1{s:ByteArray}{i:Nat}(h:i<s.size):∃b,s.data.toList[i]? =some b∧ag5 s i=(b.toNat:Int):=by
 have hl:i<s.data.toList.length:=by simpa using h
 refine⟨s.data.toList[i],fy4 hl,?_⟩;unfold ag5;rw[gd6,fy4 hl];rfl
structure SI(s:ByteArray) where
 i:Nat
 hi:i≤s.size
 ok:∀(j:Nat) b,j<i→s.data.toList[j]? =some b→cOK b=true
theorem bv2(s:ByteArray):Ev E 244 [.str s] (.d (.bool (bq4 s))):=Ev.fit fun hfit=>by
  have hs:=(hfit (.str s) Oc).str;refine ye1 func244 ntmps244 fun _ _ _=>?_
  repeat'(refine yz ?_)
  refine ac8 (α:=SI s) (fun p=>⟨[(0,.d (.str s)),(3,.d (.int p.i))],[]⟩) (fun p=>s.size-p.i) ⟨0,by omega,fun j b h=>by omega⟩ (zle 0) ?_;rintro⟨i,hi,ok⟩;dsimp only;rcases fy5 i s.size with hlt|hge
  · have hd:decide ((i:Int)<(s.size:Int))=true:=by simpa using hlt
    obtain⟨b,hb1,hb2⟩:=bv1 hlt;have hb:0≤ag5 s (i:Int).toNat∧ag5 s (i:Int).toNat≤255:=by simp only[gb1,hb2];have:=b.toNat_lt;omega
    cases hc:cOK b with
    |true=>
      have h1:decide (ag5 s (i:Int).toNat<32)=false:=by simp[cOK]at hc;simp only[gb1,hb2];simp;omega
      have h2:decide (ag5 s (i:Int).toNat>126)=false:=by simp[cOK]at hc;simp only[gb1,hb2];simp;omega
      repeat'(first|refine yz ?_|refine yx ?_)
      refine ac2 ?_;refine⟨⟨i+1,by omega,fun j b' hj hb'=>?_⟩,by dsimp only;omega,(zle 0)⟩;rcases fy5 j i with h|h
      · exact ok j b' h hb'
      · obtain rfl:j=i:=by omega
        rw[hb1]at hb'
        cases hb'
        exact hc
    |false=>
      have key:bq4 s=false:=by
        unfold bq4;rw[Bool.and_eq_false_iff];left;rw[List.all_eq_false];exact⟨b,fy6 hb1,by simpa[cOK]using hc⟩
      by_cases h32:b.toNat<32
      · have h1:decide (ag5 s (i:Int).toNat<32)=true:=by simp only[gb1,hb2];simp;omega
        repeat'(first|refine yz ?_|refine yx ?_)
        rw[key]
      · have h1:decide (ag5 s (i:Int).toNat<32)=false:=by simp only[gb1,hb2];simp;omega
        have h2:decide (ag5 s (i:Int).toNat>126)=true:=by simp[cOK]at hc;simp only[gb1,hb2];simp;omega
        repeat'(first|refine yz ?_|refine yx ?_)
        rw[key]
  · have hd:decide ((i:Int)<(s.size:Int))=false:=by simp;omega
    repeat'(refine yz ?_)
    have key:bq4 s=decide (s.size≤100):=by
      unfold bq4
      have:(s.data.toList.all fun b=> !(decide (b.toNat<32)||decide (b.toNat>126)))=true:=by
        rw[ga6];intro b hb;obtain⟨j,hj⟩:=ga9 hb;have hjl:j<s.data.toList.length:=(fy9.1 hj).1
        exact ok j b (by have:s.data.toList.length=s.size:=by simp
                         omega) hj
      rw[this,gd1]
    rw[key];refine congrArg D.bool ?_;simp only[decide_eq_decide];omega
theorem bv3(k n d:Int)(s:ByteArray)(l:List V)(nest:Int)(h7:k≠7)(h8:k≠8):Ev E 164 [enc (.mk k n d s l),.int nest] (.d (.bool (bq5 (.mk k n d s l)))):=by
 by_cases h0:k=0
 ·subst h0;refine ye2 func164 ntmps164 fun _ _ _=>?_
  repeat'(first|refine yz ?_|refine yp bs9 (bv0 (.mk 0 n d s l) _ _ _ _) ?_)
  all_goals(refine congrArg D.bool ?_;simp_all [bq5,bu9,bu8,V.k,V.n,V.d,V.s,V.l]<;>first|omega|exact of_decide_eq_true Of|exact ge8.1 (of_decide_eq_false Of)|ac_rfl|(intros;omega)|(intros;simp_all;done))
 by_cases h0:k=1
 ·subst h0;refine ye2 func164 ntmps164 fun _ _ _=>?_
  repeat'(first|refine yz ?_|refine yp bs9 (bv0 (.mk 1 n d s l) _ _ _ _) ?_|(refine yy ?_ ?_<;>intro _))
  all_goals(refine congrArg D.bool ?_;simp_all [bq5,bu9,bu8,V.k,V.n,V.d,V.s,V.l]<;>first|omega|exact of_decide_eq_true Of|exact ge8.1 (of_decide_eq_false Of)|ac_rfl|(intros;omega)|(intros;simp_all;done))
 by_cases h0:k=2
 ·subst h0;refine ye2 func164 ntmps164 fun _ _ _=>?_
  repeat'(first|refine yz ?_|refine yp bs9 (bv0 (.mk 2 n d s l) _ _ _ _) ?_|refine yp b243 (bt8 n) ?_|(refine yy ?_ ?_<;>intro _))
  all_goals(refine congrArg D.bool ?_;simp_all [bq5,bu9,bu8,V.k,V.n,V.d,V.s,V.l]<;>first|omega|exact of_decide_eq_true Of|exact ge8.1 (of_decide_eq_false Of)|ac_rfl|(intros;omega)|(intros;simp_all;done))
 by_cases h0:k=3
 ·subst h0;refine ye2 func164 ntmps164 fun _ _ _=>?_
  repeat'(first|refine yz ?_|refine yp bs9 (bv0 (.mk 3 n d s l) _ _ _ _) ?_|refine yp b167 (bu6 n d) ?_|(refine yy ?_ ?_<;>intro _))
  all_goals(refine congrArg D.bool ?_;simp_all [bq5,bu9,bu8,V.k,V.n,V.d,V.s,V.l]<;>first|omega|exact of_decide_eq_true Of|exact ge8.1 (of_decide_eq_false Of)|ac_rfl|(intros;omega)|(intros;simp_all;done))
 by_cases h0:k=4
 ·subst h0;refine ye2 func164 ntmps164 fun _ _ _=>?_
  repeat'(first|refine yz ?_|refine yp bs9 (bv0 (.mk 4 n d s l) _ _ _ _) ?_|refine yp b244 (bv2 s) ?_|(refine yy ?_ ?_<;>intro _))
  all_goals(refine congrArg D.bool ?_;simp_all [bq5,bu9,bu8,V.k,V.n,V.d,V.s,V.l]<;>first|omega|exact of_decide_eq_true Of|exact ge8.1 (of_decide_eq_false Of)|ac_rfl|(intros;omega)|(intros;simp_all;done))
 by_cases h0:k=5
 ·subst h0;refine ye2 func164 ntmps164 fun _ _ _=>?_
  repeat'(first|refine yz ?_|refine yp bs9 (bv0 (.mk 5 n d s l) _ _ _ _) ?_|(refine yy ?_ ?_<;>intro _))
  all_goals(refine congrArg D.bool ?_;simp_all [bq5,bu9,bu8,V.k,V.n,V.d,V.s,V.l]<;>first|omega|exact of_decide_eq_true Of|exact ge8.1 (of_decide_eq_false Of)|ac_rfl|(intros;omega)|(intros;simp_all;done))
 by_cases h0:k=6
 ·subst h0;refine ye2 func164 ntmps164 fun _ _ _=>?_
  repeat'(first|refine yz ?_|refine yp bs9 (bv0 (.mk 6 n d s l) _ _ _ _) ?_|(refine yy ?_ ?_<;>intro _))
  all_goals(refine congrArg D.bool ?_;simp_all [bq5,bu9,bu8,V.k,V.n,V.d,V.s,V.l]<;>first|omega|exact of_decide_eq_true Of|exact ge8.1 (of_decide_eq_false Of)|ac_rfl|(intros;omega)|(intros;simp_all;done))
 have e0:(k==0)=false:=by simpa
 have e1:(k==1)=false:=by simpa
 have e2:(k==2)=false:=by simpa
 have e3:(k==3)=false:=by simpa
 have e4:(k==4)=false:=by simpa
 have e5:(k==5)=false:=by simpa
 have e6:(k==6)=false:=by simpa
 have e7:(k==7)=false:=by simpa
 have e8:(k==8)=false:=by simpa
 refine ye2 func164 ntmps164 fun _ _ _=>?_
 repeat'(refine yz ?_)
 refine congrArg D.bool ?_;simp only[bq5,V.k,e0,e1,e2,e3,e4,e5,e6,ge9,gc6]
def bv4:Prop:=∀s:ByteArray,∃n:Int,Ev E 182 [.str s,.imm (.func (.func 325) #[] #[])] (.d (.int n))∧decide (n<0)=s.data.toList.all (fun b=> !(decide (b.toNat<32)||decide (b.toNat>126)))
theorem bv5(v:V):kids v=[]↔v.l=[]:=by
 rw[bp4];simp
theorem bv6(hix:bv4)(k n d:Int)(s:ByteArray)(l:List V)(lists:Int)(h7:k≠7)(h8:k≠8):Ev E 282 [enc (.mk k n d s l),.int lists] (.d (.bool (bq5 (.mk k n d s l)))):=by
 obtain⟨ix,hi1,hi2⟩:=hix s;have hst:bq4 s=(decide (ix<0) &&decide ((s.size:Int)≤100)):=by rw[hi2,show decide ((s.size:Int)≤100)=decide (s.size≤100)from by simp only[decide_eq_decide];omega];rfl
 clear hi2;have hs0:s0 s=(s.toList==(⟨#[]⟩:ByteArray).toList):=rfl
 by_cases h0:k=0
 ·subst h0;refine ye2 func282 ntmps282 fun _ _ _=>?_
  repeat'(first|refine yz ?_|(refine yy ?_ ?_<;>intro _)|(refine qV rfl ?_ ?_<;>intro _))
  all_goals(refine congrArg D.bool ?_;clear hix hi1 hst;simp_all [bq5,bu9,bv5,bp6,V.k,V.n,V.d,V.s,V.l]<;>first|omega|exact of_decide_eq_true Of|exact ge8.1 (of_decide_eq_false Of)|ac_rfl|(intros;omega)|(intros;simp_all;done))
 by_cases h0:k=1
 ·subst h0;refine ye2 func282 ntmps282 fun _ _ _=>?_
  repeat'(first|refine yz ?_|(refine yy ?_ ?_<;>intro _)|(refine qV rfl ?_ ?_<;>intro _))
  all_goals(refine congrArg D.bool ?_;clear hix hi1 hst;simp_all [bq5,bu9,bv5,bp6,V.k,V.n,V.d,V.s,V.l]<;>first|omega|exact of_decide_eq_true Of|exact ge8.1 (of_decide_eq_false Of)|ac_rfl|(intros;omega)|(intros;simp_all;done))
 by_cases h0:k=2
 ·subst h0;refine ye2 func282 ntmps282 fun _ _ _=>?_
  repeat'(first|refine yz ?_|refine yp bt6 (bt7 n) ?_|(refine yy ?_ ?_<;>intro _)|(refine qV rfl ?_ ?_<;>intro _))
  all_goals(refine congrArg D.bool ?_;clear hix hi1 hst;simp_all [bq5,bu9,bv5,bp6,V.k,V.n,V.d,V.s,V.l]<;>first|omega|exact of_decide_eq_true Of|exact ge8.1 (of_decide_eq_false Of)|ac_rfl|(intros;omega)|(intros;simp_all;done))
 by_cases h0:k=3
 ·subst h0;refine ye2 func282 ntmps282 fun _ _ _=>?_
  repeat'(first|refine yz ?_|refine yp b284 (bu5 n d) ?_|(refine yy ?_ ?_<;>intro _)|(refine qV rfl ?_ ?_<;>intro _))
  all_goals(refine congrArg D.bool ?_;clear hix hi1 hst;simp_all [bq5,bu9,bv5,bp6,V.k,V.n,V.d,V.s,V.l]<;>first|omega|exact of_decide_eq_true Of|exact ge8.1 (of_decide_eq_false Of)|ac_rfl|(intros;omega)|(intros;simp_all;done))
 by_cases h0:k=4
 ·subst h0
  cases h100:decide ((s.size:Int)≤100)with
  |true=>
   rw[h100]at hst;refine ye2 func282 ntmps282 fun _ _ _=>?_
   repeat'(first|refine yz ?_|refine yp b182 hi1 ?_|refine yx ?_|(refine yy ?_ ?_<;>intro _)|(refine qV rfl ?_ ?_<;>intro _))
   all_goals(refine congrArg D.bool ?_;clear hix hi1;simp_all [bq5,bu9,bv5,bp6,V.k,V.n,V.d,V.s,V.l]<;>first|omega|exact of_decide_eq_true Of|exact ge8.1 (of_decide_eq_false Of)|ac_rfl|(intros;omega)|(intros;simp_all;done))
  |false=>
   rw[h100]at hst;refine ye2 func282 ntmps282 fun _ _ _=>?_
   repeat'(first|refine yz ?_|refine yx ?_|(refine yy ?_ ?_<;>intro _)|(refine qV rfl ?_ ?_<;>intro _))
   all_goals(refine congrArg D.bool ?_;clear hix hi1;simp_all [bq5,bu9,bv5,bp6,V.k,V.n,V.d,V.s,V.l]<;>first|omega|exact of_decide_eq_true Of|exact ge8.1 (of_decide_eq_false Of)|ac_rfl|(intros;omega)|(intros;simp_all;done))
 by_cases h0:k=5
 ·subst h0;refine ye2 func282 ntmps282 fun _ _ _=>?_
  repeat'(first|refine yz ?_|(refine yy ?_ ?_<;>intro _)|(refine qV rfl ?_ ?_<;>intro _))
  all_goals(refine congrArg D.bool ?_;clear hix hi1 hst;simp_all [bq5,bu9,bv5,bp6,V.k,V.n,V.d,V.s,V.l]<;>first|omega|exact of_decide_eq_true Of|exact ge8.1 (of_decide_eq_false Of)|ac_rfl|(intros;omega)|(intros;simp_all;done))
 by_cases h0:k=6
 ·subst h0;refine ye2 func282 ntmps282 fun _ _ _=>?_
  repeat'(first|refine yz ?_|(refine yy ?_ ?_<;>intro _)|(refine qV rfl ?_ ?_<;>intro _))
  all_goals(refine congrArg D.bool ?_;clear hix hi1 hst;simp_all [bq5,bu9,bv5,bp6,V.k,V.n,V.d,V.s,V.l]<;>first|omega|exact of_decide_eq_true Of|exact ge8.1 (of_decide_eq_false Of)|ac_rfl|(intros;omega)|(intros;simp_all;done))
 have e0:(k==0)=false:=by simpa
 have e1:(k==1)=false:=by simpa
 have e2:(k==2)=false:=by simpa
 have e3:(k==3)=false:=by simpa
 have e4:(k==4)=false:=by simpa
 have e5:(k==5)=false:=by simpa
 have e6:(k==6)=false:=by simpa
 have e7:(k==7)=false:=by simpa
 have e8:(k==8)=false:=by simpa
 have f3:(k !=3)=true:=by simpa
 have f4:(k !=4)=true:=by simpa
 have f7:(k !=7)=true:=by simpa
 have f8:(k !=8)=true:=by simpa
 have key:bq5 (.mk k n d s l)=false:=by simp only[bq5,V.k,e0,e1,e2,e3,e4,e5,e6,ge9,gc6]
 refine ye2 func282 ntmps282 fun _ _ _=>?_
 repeat'(first|refine yz ?_|refine yx ?_|(refine yy ?_ ?_<;>intro _)|(refine qV rfl ?_ ?_<;>intro _))
 all_goals(rw[key])
theorem bv7{α:Type}{l:List α}{i:Nat}{x:α}(h:l[i]? =some x):l.drop i=x::l.drop (i+1):=by
 have hi:=(fy9.1 h).1;rw[List.drop_eq_getElem_cons hi];rw[fy4 hi]at h
 cases h
 rfl
structure SP(l:List V) where
 i:Nat
 hi:i≤l.length
 ok:bq7 0 l=bq7 i (l.drop i)
theorem bv8(i:Nat):(bif i % 2==0 then(5:Int)else 6)=5∧i % 2=0∨(bif i % 2==0 then(5:Int)else 6)=6∧i % 2=1:=by
 rcases Nat.mod_two_eq_zero_or_one i with h|h<;>simp[h]
theorem bv9(hix:bv4)(l:List V):Ev E 326 [.sl (bp2 l)] (.d (.bool (bq8 l))):=Ev.fit fun hfit=>by
  obtain⟨hmax,-⟩:=bp9 (hfit (.sl (bp2 l)) Oc);have hlen:(bp2 l).length=l.length:=bp7 l
  have hmod:((l.length:Int).tmod 2==0)=(l.length % 2==0):=by
    rw[gg2 Oa]
    cases h:l.length % 2==0 with
    |true=>simp at h ⊢;omega
    |false=>simp at h ⊢;omega
  cases h2:l.length % 2==0 with
  |true=>
    have key:bq8 l=false:=by unfold bq8;have:(l.length % 2==1)=false:=by simp at h2 ⊢;omega
                             rw[this];rfl
    rw[h2]at hmod;rw[←hlen]at hmod;refine ye1 func326 ntmps326 fun _ _ _=>?_
    repeat'(first|refine yz ?_|refine yx ?_)
    rw[key]
  |false=>
    rw[h2]at hmod;rw[←hlen]at hmod;have h21:(l.length % 2==1)=true:=by simp at h2 ⊢;omega
    by_cases h25:l.length≤25
    · have hd:decide (((bp2 l).length:Int)>25)=false:=by rw[hlen];simp;omega
      have hokp:bq8 l=bq7 0 l:=by unfold bq8;rw[h21];simp[h25]
      rw[hokp];refine ye1 func326 ntmps326 fun _ _ _=>?_
      repeat'(first|refine yz ?_|refine yx ?_)
      refine ac8 (α:=SP l) (fun p=>⟨[(15,.d (.sl (bp2 l))),(16,.d (.int (bp2 l).length)),(17,.d (.int p.i))],[]⟩) (fun p=>l.length-p.i) ⟨0,by omega,rfl⟩ (zle 0) ?_;rintro⟨i,hi,ok⟩;dsimp only;rcases fy5 i l.length with hlt|hge
      · have hd:decide ((i:Int)<((bp2 l).length:Int))=true:=by rw[hlen];simpa using hlt
        have hx0:=fy4 hlt;obtain⟨k,n,d,s,r,hv⟩:∃k n d s r,l[i]=V.mk k n d s r:=⟨_,_,_,_,_,(V.eta _).symm⟩;rw[hv]at hx0;have hx:(bp2 l)[(i:Int).toNat]? =some (enc (V.mk k n d s r)):=bp5 (by rw[gb1];exact hx0)
        have hm:(([.int 5,.int 6]:List D))[((i:Int).tmod 2).toNat]? =some (.int (bif i % 2==0 then 5 else 6)):=by
          rw[gg2 Oa];rcases Nat.mod_two_eq_zero_or_one i with h|h
          · rw[show((i:Int) % 2).toNat=0 from by omega,h];rfl
          · rw[show((i:Int) % 2).toNat=1 from by omega,h];rfl
        have hmn:0≤(i:Int).tmod 2:=Int.tmod_nonneg _ Oa;have hmx:(i:Int).tmod 2≤2:=by have:=Int.tmod_lt_of_pos (i:Int) (show(0:Int)<2 by omega);omega
        have hkd:=bv8 i;have hst:bq6 i (V.mk k n d s r)=(k==(bif i % 2==0 then 5 else 6) &&bq5 (V.mk k n d s r)):=rfl;generalize(bif i % 2==0 then(5:Int)else 6)=kd at*;rw[ok,bv7 hx0];simp only[bq7,hst]
        cases hkk:k !=kd with
        |true=>
          have:(k==kd)=false:=by simpa using hkk
          rw[this]
          repeat'(first|refine yz ?_|refine yi (enc _) hx ?_|refine yi (.int kd) hm ?_|refine yx ?_|exact zD)
        |false=>
          have hk:k=kd:=by simpa using hkk
          have hf:=bv6 hix k n d s r 0 Oa Oa
          cases hfl:bq5 (V.mk k n d s r)with
          |true=>
            rw[hfl]at hf
            repeat'(first|refine yz ?_|refine yi (enc _) hx ?_|refine yi (.int kd) hm ?_|refine yp bt2 hf ?_|refine yx ?_)
            refine ac2 ?_;refine⟨⟨i+1,by omega,?_⟩,by dsimp only;omega,(zle 0)⟩;rw[ok,bv7 hx0];simp only[bq7];rw[hst,hfl,hk];simp
          |false=>
            rw[hfl]at hf
            repeat'(first|refine yz ?_|refine yi (enc _) hx ?_|refine yi (.int kd) hm ?_|refine yp bt2 hf ?_|refine yx ?_)
            simp
      · have hd:decide ((i:Int)<((bp2 l).length:Int))=false:=by rw[hlen];simp;omega
        have:l.drop i=[]:=ga2 hge;rw[ok,this]
        exact Om
    · have hd:decide (((bp2 l).length:Int)>25)=true:=by rw[hlen];simp;omega
      have key:bq8 l=false:=by unfold bq8;simp[h25]
      rw[key];refine ye1 func326 ntmps326 fun _ _ _=>?_
      exact Om
theorem bw0(l:List V):Ev E 245 [.sl (bp2 l)] (.d (.bool (bq8 l))):=Ev.fit fun hfit=>by
  obtain⟨hmax,-⟩:=bp9 (hfit (.sl (bp2 l)) Oc);have hlen:(bp2 l).length=l.length:=bp7 l
  have hmod:((l.length:Int).tmod 2==0)=(l.length % 2==0):=by
    rw[gg2 Oa]
    cases h:l.length % 2==0 with
    |true=>simp at h ⊢;omega
    |false=>simp at h ⊢;omega
  cases h2:l.length % 2==0 with
  |true=>
    have key:bq8 l=false:=by unfold bq8;have:(l.length % 2==1)=false:=by simp at h2 ⊢;omega
                             rw[this];rfl
    rw[h2]at hmod;rw[←hlen]at hmod;refine ye1 func245 ntmps245 fun _ _ _=>?_
    repeat'(first|refine yz ?_|refine yx ?_)
    rw[key]
  |false=>
    rw[h2]at hmod;rw[←hlen]at hmod;have h21:(l.length % 2==1)=true:=by simp at h2 ⊢;omega
    by_cases h25:l.length≤25
    · have hd:decide (((bp2 l).length:Int)>25)=false:=by rw[hlen];simp;omega
      have hokp:bq8 l=bq7 0 l:=by unfold bq8;rw[h21];simp[h25]
      rw[hokp];refine ye1 func245 ntmps245 fun _ _ _=>?_
      repeat'(first|refine yz ?_|refine yx ?_)
      refine ac8 (α:=SP l) (fun p=>⟨[(0,.d (.sl (bp2 l))),(3,.d (.int p.i))],[]⟩) (fun p=>l.length-p.i) ⟨0,by omega,rfl⟩ (zle 0) ?_;rintro⟨i,hi,ok⟩;dsimp only;rcases fy5 i l.length with hlt|hge
      · have hd:decide ((i:Int)<((bp2 l).length:Int))=true:=by rw[hlen];simpa using hlt
        have hx0:=fy4 hlt;obtain⟨k,n,d,s,r,hv⟩:∃k n d s r,l[i]=V.mk k n d s r:=⟨_,_,_,_,_,(V.eta _).symm⟩;rw[hv]at hx0;have hx:(bp2 l)[(i:Int).toNat]? =some (enc (V.mk k n d s r)):=bp5 (by rw[gb1];exact hx0);have hst:bq6 i (V.mk k n d s r)=(k==(bif i % 2==0 then 5 else 6) &&bq5 (V.mk k n d s r)):=rfl;rw[ok,bv7 hx0];simp only[bq7,hst]
        have hodd:((i:Int).tmod 2==1)=(i % 2==1):=by
          rw[gg2 Oa]
          cases h:i % 2==1 with
          |true=>simp at h ⊢;omega
          |false=>simp at h ⊢;omega
        rcases Nat.mod_two_eq_zero_or_one i with he|he
        · have hkd:(bif i % 2==0 then(5:Int)else 6)=5:=by simp[he]
          rw[he]at hodd;have hodd':((i:Int).tmod 2==1)=false:=hodd;rw[hkd]at hst;rw[hkd]
          cases hkk:k !=5 with
          |true=>
            have:(k==5)=false:=by simpa using hkk
            rw[this]
            repeat'(first|refine yz ?_|refine yi (enc _) hx ?_|refine yx ?_|exact zD)
          |false=>
            have hk:k=5:=by simpa using hkk
            have hf:=bv3 k n d s r 0 Oa Oa
            cases hfl:bq5 (V.mk k n d s r)with
            |true=>
              rw[hfl]at hf
              repeat'(first|refine yz ?_|refine yi (enc _) hx ?_|refine yp br8 hf ?_|refine yx ?_)
              refine ac2 ?_;refine⟨⟨i+1,by omega,?_⟩,by dsimp only;omega,(zle 0)⟩;rw[ok,bv7 hx0];simp only[bq7];rw[hst,hfl,hk];simp
            |false=>
              rw[hfl]at hf
              repeat'(first|refine yz ?_|refine yi (enc _) hx ?_|refine yp br8 hf ?_|refine yx ?_)
              simp
        · have hkd:(bif i % 2==0 then(5:Int)else 6)=6:=by simp[he]
          rw[he]at hodd;have hodd':((i:Int).tmod 2==1)=true:=hodd;rw[hkd]at hst;rw[hkd]
          cases hkk:k !=6 with
          |true=>
            have:(k==6)=false:=by simpa using hkk
            rw[this]
            repeat'(first|refine yz ?_|refine yi (enc _) hx ?_|refine yx ?_|exact zD)
          |false=>
            have hk:k=6:=by simpa using hkk
            have hf:=bv3 k n d s r 0 Oa Oa
            cases hfl:bq5 (V.mk k n d s r)with
            |true=>
              rw[hfl]at hf
              repeat'(first|refine yz ?_|refine yi (enc _) hx ?_|refine yp br8 hf ?_|refine yx ?_)
              refine ac2 ?_;refine⟨⟨i+1,by omega,?_⟩,by dsimp only;omega,(zle 0)⟩;rw[ok,bv7 hx0];simp only[bq7];rw[hst,hfl,hk];simp
            |false=>
              rw[hfl]at hf
              repeat'(first|refine yz ?_|refine yi (enc _) hx ?_|refine yp br8 hf ?_|refine yx ?_)
              simp
      · have hd:decide ((i:Int)<((bp2 l).length:Int))=false:=by rw[hlen];simp;omega
        have:l.drop i=[]:=ga2 hge;rw[ok,this]
        exact Om
    · have hd:decide (((bp2 l).length:Int)>25)=true:=by rw[hlen];simp;omega
      have key:bq8 l=false:=by unfold bq8;simp[h25]
      rw[key];refine ye1 func245 ntmps245 fun _ _ _=>?_
      exact Om
theorem bw1(k n d:Int)(s:ByteArray)(l:List V)(h:k=7∨k=8):bq5 (.mk k n d s l)=false:=by
 rcases h with h|h<;>subst h<;>simp[bq5,V.k]
theorem bw2(m:Nat)(k n d:Int)(s:ByteArray)(l:List V)(h7:k≠7)(h8:k≠8):okN m (.mk k n d s l)=bq5 (.mk k n d s l):=by
 have e7:(k==7)=false:=by simpa
 have e8:(k==8)=false:=by simpa
 cases m<;>simp[okN,V.k,e7,e8]
theorem bw3(m:Nat)(n d:Int)(s:ByteArray)(l:List V):okN m (.mk 7 n d s l)=((d==0&&s0 s) &&(n==0&&bq8 l)):=by
 cases m<;>simp[okN,V.k,V.n,V.d,V.s,V.l,bw1 7 n d s l (.inl rfl)]
theorem bw4(n d:Int)(s:ByteArray)(l:List V):okN 0 (.mk 8 n d s l)=false:=by
 simp[okN,V.k,bw1 8 n d s l (.inr rfl)]
theorem bw5(m:Nat)(n d:Int)(s:ByteArray)(l:List V):okN (m+1) (.mk 8 n d s l)=((d==0&&s0 s) &&((n==0&&decide (l.length≤64)) &&l.all (okN m))):=by
 simp[okN,V.k,V.n,V.d,V.s,V.l,bw1 8 n d s l (.inr rfl),Bool.and_assoc]
 try rfl
structure SA(p:V→Bool)(l:List V) where
 i:Nat
 hi:i≤l.length
 ok:l.all p=(l.drop i).all p
theorem bw6(m:Nat)(hm:m≤8)(ih:∀v:V,Ev E 164 [enc v,.int (m:Int)] (.d (.bool (okN m v))))(l:List V):
  Ev E 246 [.sl (bp2 l),.int ((m+1:Nat):Int)] (.d (.bool (decide (l.length≤64) &&l.all (okN m)))):=Ev.fit fun hfit=>by
 obtain⟨hmax,-⟩:=bp9 (hfit (.sl (bp2 l)) Oc);have hlen:(bp2 l).length=l.length:=bp7 l;have hn:decide (((m+1:Nat):Int)<1)=false:=Og
 have hn1:((m+1:Nat):Int) -1=(m:Int):=Oa
 by_cases h64:l.length≤64
 ·have hd:decide (((bp2 l).length:Int)>64)=false:=by rw[hlen];simp;omega
  rw[show decide (l.length≤64)=true by simpa using h64,gd1];refine ye2 func246 ntmps246 fun _ _ _=>?_
  repeat'(refine yz ?_)
  refine ac8 (α:=SA (okN m) l) (fun p=>⟨[(0,.d (.sl (bp2 l))),(1,.d (.int ((m+1:Nat):Int))),(5,.d (.int p.i))],[]⟩) (fun p=>l.length-p.i) ⟨0,by omega,rfl⟩ (zle 0) ?_;rintro⟨i,hi,ok⟩;dsimp only;rcases fy5 i l.length with hlt|hge
  ·have hd:decide ((i:Int)<((bp2 l).length:Int))=true:=by rw[hlen];simpa using hlt
   have hx0:=fy4 hlt;generalize l[i]=v at hx0;have hx:(bp2 l)[(i:Int).toNat]? =some (enc v):=bp5 (by rw[gb1];exact hx0);have hv:=ih v;rw[←hn1]at hv;rw[ok,bv7 hx0,ge6]
   cases hvv:okN m v with
   |true=>
    rw[hvv]at hv
    repeat'(first|refine yz ?_|refine yi (enc _) hx ?_|refine yp br8 hv ?_)
    refine ac2 ?_;refine⟨⟨i+1,by omega,by rw[ok,bv7 hx0,ge6,hvv,gd1]⟩,by dsimp only;omega,(zle 0)⟩
   |false=>
    rw[hvv]at hv
    repeat'(first|refine yz ?_|refine yi (enc _) hx ?_|refine yp br8 hv ?_|exact zD)
  ·have hd:decide ((i:Int)<((bp2 l).length:Int))=false:=by rw[hlen];simp;omega
   have:l.drop i=[]:=ga2 hge;rw[ok,this]
   exact Om
 ·have hd:decide (((bp2 l).length:Int)>64)=true:=by rw[hlen];simp;omega
  rw[show decide (l.length≤64)=false by simpa using h64,ge9];refine ye2 func246 ntmps246 fun _ _ _=>?_
  exact Om
theorem bw7(l:List V):Ev E 246 [.sl (bp2 l),.int 0] (.d (.bool false)):=by
 refine ye2 func246 ntmps246 fun _ _ _=>?_
 exact Om
theorem bw8(m:Nat):m≤8→∀v:V,Ev E 164 [enc v,.int (m:Int)] (.d (.bool (okN m v))):=by
 induction m with
 |zero=>
  rintro-⟨k,n,d,s,l⟩
  by_cases h7:k=7
  ·subst h7;rw[bw3];refine ye2 func164 ntmps164 fun _ _ _=>?_
   repeat'(first|refine yz ?_|refine yp bs9 (bv0 (.mk 7 n d s l) _ _ _ _) ?_|refine yp b245 (bw0 l) ?_|(refine yy ?_ ?_<;>intro _))
   all_goals(refine congrArg D.bool ?_;simp_all [bu9,V.k,V.n,V.d,V.s,V.l]<;>first|ac_rfl|(intros;simp_all;done))
  by_cases h8:k=8
  ·subst h8;rw[bw4];refine ye2 func164 ntmps164 fun _ _ _=>?_
   repeat'(first|refine yz ?_|refine yp bs9 (bv0 (.mk 8 n d s l) _ _ _ _) ?_|refine yp b246 (bw7 l) ?_|(refine yy ?_ ?_<;>intro _)|exact zD)
  rw[bw2 _ _ _ _ _ _ h7 h8];exact bv3 k n d s l _ h7 h8
 |succ m ih=>
  rintro hm ⟨k,n,d,s,l⟩;have ih:=ih Oa
  by_cases h7:k=7
  ·subst h7;rw[bw3];refine ye2 func164 ntmps164 fun _ _ _=>?_
   repeat'(first|refine yz ?_|refine yp bs9 (bv0 (.mk 7 n d s l) _ _ _ _) ?_|refine yp b245 (bw0 l) ?_|(refine yy ?_ ?_<;>intro _))
   all_goals(refine congrArg D.bool ?_;simp_all [bu9,V.k,V.n,V.d,V.s,V.l]<;>first|ac_rfl|(intros;simp_all;done))
  by_cases h8:k=8
  ·subst h8;rw[bw5];have hl:=bw6 m Oa ih l;refine ye2 func164 ntmps164 fun _ _ _=>?_
   repeat'(first|refine yz ?_|refine yp bs9 (bv0 (.mk 8 n d s l) _ _ _ _) ?_|refine yp b246 hl ?_|(refine yy ?_ ?_<;>intro _))
   all_goals(refine congrArg D.bool ?_;clear hl ih;simp_all [bu9,V.k,V.n,V.d,V.s,V.l]<;>first|ac_rfl|(intros;simp_all;done))
  rw[bw2 _ _ _ _ _ _ h7 h8];exact bv3 k n d s l _ h7 h8
theorem bw9(hix:bv4)(m:Nat):m≤8→∀v:V,Ev E 282 [enc v,.int (8-(m:Int))] (.d (.bool (okN m v))):=by
 induction m with
 |zero=>
  rintro-⟨k,n,d,s,l⟩
  by_cases h7:k=7
  ·subst h7;rw[bw3];refine ye2 func282 ntmps282 fun _ _ _=>?_
   repeat'(first|refine yz ?_|refine yp b326 (bv9 hix l) ?_|(refine yy ?_ ?_<;>intro _))
   all_goals(refine congrArg D.bool ?_;clear hix;simp_all [s0,V.k,V.n,V.d,V.s,V.l]<;>first|ac_rfl|(intros;simp_all;done))
  by_cases h8:k=8
  ·subst h8;rw[bw4];refine ye2 func282 ntmps282 fun _ _ _=>?_
   exact Om
  rw[bw2 _ _ _ _ _ _ h7 h8];exact bv6 hix k n d s l _ h7 h8
 |succ m ih=>
  rintro hm ⟨k,n,d,s,l⟩;have ih:=ih Oa
  by_cases h7:k=7
  ·subst h7;rw[bw3];refine ye2 func282 ntmps282 fun _ _ _=>?_
   repeat'(first|refine yz ?_|refine yp b326 (bv9 hix l) ?_|(refine yy ?_ ?_<;>intro _))
   all_goals(refine congrArg D.bool ?_;clear hix ih;simp_all [s0,V.k,V.n,V.d,V.s,V.l]<;>first|ac_rfl|(intros;simp_all;done))
  by_cases h8:k=8
  ·subst h8;rw[bw5];refine Ev.fit fun hfit=>?_
   obtain⟨-,-,-,-,hmax,-⟩:=bp8 (hfit (enc (.mk 8 n d s l)) Oc);simp only[V.l]at hmax;have hk:kids (.mk 8 n d s l)=bp2 l:=by simp[kids]
   have hlen:(kids (.mk 8 n d s l)).length=l.length:=by rw[bp6];rfl
   have hn1:8-((m+1:Nat):Int)+1=8-(m:Int):=Oa
   have hn8:decide (8-((m+1:Nat):Int)≥8)=false:=Og
   cases hd0:d==0 with
   |false=>
    have hdn:(d !=0)=true:=by simpa using hd0
    rw[ge9,ge9];refine ye2 func282 ntmps282 fun _ _ _=>?_
    exact Om
   |true=>
   have hdn:(d !=0)=false:=by simpa using hd0
   cases hs0:s0 s with
   |false=>
    have hsn:(!(s.toList==(⟨#[]⟩:ByteArray).toList))=true:=by rw[show(s.toList==(⟨#[]⟩:ByteArray).toList)=false from hs0];rfl
    rw[Bool.and_false,ge9];refine ye2 func282 ntmps282 fun _ _ _=>?_
    exact Om
   |true=>
   have hsn:(!(s.toList==(⟨#[]⟩:ByteArray).toList))=false:=by rw[show(s.toList==(⟨#[]⟩:ByteArray).toList)=true from hs0];rfl
   cases hnn:n==0 with
   |false=>
    have hnn':(n !=0)=true:=by simpa using hnn
    simp only[ge9,Bool.and_false];refine ye2 func282 ntmps282 fun _ _ _=>?_
    exact Om
   |true=>
   have hnn':(n !=0)=false:=by simpa using hnn
   by_cases h64:l.length≤64
   ·have hd:decide (((kids (.mk 8 n d s l)).length:Int)>64)=false:=by rw[hlen];simp;omega
    rw[show decide (l.length≤64)=true by simpa using h64];simp only[gd1];refine ye2 func282 ntmps282 fun _ _ _=>?_
    repeat'(first|refine yz ?_|refine yx ?_)
    refine ac8 (α:=SA (okN m) l) (fun p=>⟨[(1,.d (.int (8-((m+1:Nat):Int)))),(120,.d (.sl (kids (.mk 8 n d s l)))),(121,.d (.int (kids (.mk 8 n d s l)).length)),(122,.d (.int p.i))],[]⟩) (fun p=>l.length-p.i) ⟨0,by omega,rfl⟩ (zle 0) ?_;rintro⟨i,hi,ok⟩;dsimp only;rcases fy5 i l.length with hlt|hge
    ·have hd:decide ((i:Int)<((kids (.mk 8 n d s l)).length:Int))=true:=by rw[hlen];simpa using hlt
     have hx0:=fy4 hlt;generalize l[i]=v at hx0;have hx:(kids (.mk 8 n d s l))[(i:Int).toNat]? =some (enc v):=by rw[hk];exact bp5 (by rw[gb1];exact hx0)
     have hv:=ih v;rw[←hn1]at hv;rw[ok,bv7 hx0,ge6]
     cases hvv:okN m v with
     |true=>
      rw[hvv]at hv
      repeat'(first|refine yz ?_|refine yi (enc _) hx ?_|refine yp bt2 hv ?_)
      refine ac2 ?_;refine⟨⟨i+1,by omega,by rw[ok,bv7 hx0,ge6,hvv,gd1]⟩,by dsimp only;omega,(zle 0)⟩
     |false=>
      rw[hvv]at hv
      repeat'(first|refine yz ?_|refine yi (enc _) hx ?_|refine yp bt2 hv ?_|exact zD)
    ·have hd:decide ((i:Int)<((kids (.mk 8 n d s l)).length:Int))=false:=by rw[hlen];simp;omega
     have:l.drop i=[]:=ga2 hge;rw[ok,this]
     exact Om
   ·have hd:decide (((kids (.mk 8 n d s l)).length:Int)>64)=true:=by rw[hlen];simp;omega
    rw[show decide (l.length≤64)=false by simpa using h64];simp only[ge9,Bool.and_false];refine ye2 func282 ntmps282 fun _ _ _=>?_
    exact Om
  rw[bw2 _ _ _ _ _ _ h7 h8];exact bv6 hix k n d s l _ h7 h8
theorem bx0(hix:bv4)(v:V):Ev E 224 [enc v] (.d (.bool (okV v))):=by
 have h:=bw9 hix 8 Oa v;refine ye1 func224 ntmps224 fun _ _ _=>?_
 repeat'(first|refine yz ?_|refine yp bt2 h ?_|refine yx ?_|(refine yy ?_ ?_<;>intro _)|exact zD|exact zL)
theorem bx1(v:V):Ev E 99 [enc v] (.d (.bool (okV v))):=by
 have h:=bw8 8 Oa v;refine ye1 func99 ntmps99 fun _ _ _=>?_
 repeat'(first|refine yz ?_|refine yp br8 h ?_|refine yx ?_|(refine yy ?_ ?_<;>intro _)|exact zD|exact zL)
theorem bx2(hix:bv4)(v:V):Ev E 174 [enc v] (.d (.bool (bq9 v))):=by
 have h:=bx0 hix v;refine ye1 func174 ntmps174 fun _ _ _=>?_
 repeat'(first|refine yz ?_|refine yp bs7 h ?_|refine yx ?_|(refine yy ?_ ?_<;>intro _)|(refine qV rfl ?_ ?_<;>intro _)|exact zD|exact zL)
 all_goals(refine congrArg D.bool ?_;clear h hix;simp_all [bq9])
theorem bx3(v:V):Ev E 104 [enc v] (.tup [.agg [.int (br1 v),.int (br2 v)],.bool (br0 v)]):=by
 have h:=bx1 v
 cases hv:okV v with
 |false=>
  rw[hv]at h;refine ye1 func104 ntmps104 fun _ _ _=>?_
  repeat'(first|refine yz ?_|refine yp b99 h ?_|refine yx ?_|(refine yy ?_ ?_<;>intro _)|exact zD|exact zL)
  simp[br1,br2,br0,hv]
 |true=>
  rw[hv]at h
  cases h2:v.k==2 with
  |true=>
   refine ye1 func104 ntmps104 fun _ _ _=>?_
   repeat'(first|refine yz ?_|refine yp b99 h ?_|refine yx ?_|(refine yy ?_ ?_<;>intro _)|exact zD|exact zL)
   simp[br1,br2,br0,h2,hv,ah0,D.cells]
  |false=>
   cases h3:v.k==3 with
   |true=>
    refine ye1 func104 ntmps104 fun _ _ _=>?_
    repeat'(first|refine yz ?_|refine yp b99 h ?_|refine yx ?_|(refine yy ?_ ?_<;>intro _)|exact zD|exact zL)
    simp[br1,br2,br0,h2,h3,hv,ah0,D.cells]
   |false=>
    refine ye1 func104 ntmps104 fun _ _ _=>?_
    repeat'(first|refine yz ?_|refine yp b99 h ?_|refine yx ?_|(refine yy ?_ ?_<;>intro _)|exact zD|exact zL)
    simp[br1,br2,br0,h2,h3]
end Go.Proofs.YtndgolmgaenlfaaGreatDoor
namespace Go.Proofs.YtndgolmgaenlfaaGreatDoor
set_option maxRecDepth 4000
open Go Go.Abs Go.Val Go.RowKit Go.Proofs.Tryz
theorem bx4{f:FuncId}{ds:List D}{r:Value}(hok:Go.Abs.okV r=true)(h:∀(w:World) (F:Nat→Prop) (vs:List Value),E.GI w F→vs.length=ds.length→(∀(i:Nat) d v,ds[i]? =some d→vs[i]? =some v→Rd w F d v)→
  Calls E.P f vs.toArray w fun e w'=>e=.returned r∧Below w.heap.size w w'):Ev E f ds (.d (.imm r)):=by
 intro w F vs hF hG hl hr;refine(h w F vs hG hl hr).mono ?_;rintro e w' ⟨rfl,hb⟩;exact⟨r,F,rfl,Ext.of_below hb hF,.imm r hok⟩
theorem bx5{f:FuncId}{a r:Value}(hok:Go.Abs.okV r=true)(h:∀(w:World) (F:Nat→Prop),E.GI w F→Go.Abs.okV a=true→Calls E.P f #[a] w fun e w'=>e=.returned r∧Below w.heap.size w w'):Ev E f [.imm a] (.d (.imm r)):=by
 refine bx4 hok fun w F vs hG hl hr=>?_
 match vs,hl with
 |[v],_=>
  obtain⟨rfl,hk⟩:=Rd.imm_inv (hr 0 _ v rfl rfl);exact h w F hG hk
theorem bx6{f:FuncId}{a b r:Value}(hok:Go.Abs.okV r=true)(h:∀(w:World) (F:Nat→Prop),E.GI w F→Go.Abs.okV a=true→Go.Abs.okV b=true→Calls E.P f #[a,b] w fun e w'=>e=.returned r∧Below w.heap.size w w'):Ev E f [.imm a,.imm b] (.d (.imm r)):=by
 refine bx4 hok fun w F vs hG hl hr=>?_
 match vs,hl with
 |[v,u],_=>
  obtain⟨rfl,hk⟩:=Rd.imm_inv (hr 0 _ v rfl rfl);obtain⟨rfl,hk'⟩:=Rd.imm_inv (hr 1 _ u rfl rfl);exact h w F hG hk hk'
theorem bx7(n:Int):Ev E 151 [.int n] (.d (.str ⟨(Lib.itoa n).toArray⟩)):=Ev.fit fun hfit=>by
 have hn:=(hfit (.int n) Oc).int;simp only[inR]at hn;have hlen:=Lib.itoa_length_le n hn.1 hn.2;refine bx5 (by simp only[Go.Abs.okV,decide_eq_true_eq];show(Lib.itoa n).toArray.size≤9223372036854775807;simp only[ge3];omega) fun w F hG _=>?_
 refine(Tryz.strconv_Itoa n hn.1 hn.2 w hG.2.1.2).mono ?_;rintro e w' ⟨rfl,k,os,rfl⟩;exact⟨rfl,Lib.below_grow _ w (fz6 _) k os⟩
theorem bx8(b:Bool):Ev E 225 [.bool b] (.d (.str ⟨(Lib.formatBool b).toArray⟩)):=by
 refine bx5 (by cases b<;>decide) fun w F _ _=>?_
 refine(Tryz.strconv_FormatBool b w).mono ?_;rintro e w' ⟨rfl,rfl⟩;exact⟨rfl,Below.refl _ _⟩
theorem bx9(x y:Int):Ev E 253 [.int x,.int y] (.d (.int (Lib.compareInt x y))):=by
 refine bx6 (af5 (k:=.i64) (by unfold Lib.compareInt;simp only[inR];split<;>(try split)<;>omega)) fun w F _ _ _=>?_
 refine(Tryz.cmp_Compare_int x y w).mono ?_;rintro e w' ⟨rfl,rfl⟩;exact⟨rfl,Below.refl _ _⟩
open Go.Shelf
def by0(r:Nat):Bool:=decide (r<32)||decide (r>126)
theorem by1(s:ByteArray)(i:Nat)(b:UInt8)(hb:s.get! i=b):(b.toNat<128→Utf8.decode s i=(b.toNat,1))∧(128≤b.toNat→128≤(Utf8.decode s i).1):=by
 have h0:(s.get! (i+0)).toNat=b.toNat:=by rw[gd2,hb]
 constructor
 ·intro h;unfold Utf8.decode;simp only[h0];rw[if_pos h]
 ·intro h;unfold Utf8.decode;simp only[h0,Utf8.runeError];rw[if_neg Oa];split
  ·split<;>simp only[]<;>omega
  ·split
   ·split
    ·rename_i h1 h2;simp only[fz4,decide_eq_true_eq]at h2;simp only[];omega
    ·simp only[];omega
   ·split
    ·split
     ·rename_i h1 h2;simp only[fz4,decide_eq_true_eq]at h2;simp only[];omega
     ·simp only[];omega
    ·simp only[];omega
theorem by2{s:ByteArray}{i:Nat}{b:UInt8}(h:s.data.toList[i]? =some b):s.get! i=b:=by
 have hl:i<s.data.size:=by simpa using(fy9.1 h).1
 have:s.data.toList[i]? =some s.data[i]:=by simp[hl]
 rw[this]at h
 cases h
 cases s
 simp only[ByteArray.get!];simp[hl]
theorem by3(s:ByteArray):∀(f pos:Nat),s.size≤pos+f→(decide (Lib.idxFuncFrom by0 true s f pos<0))=(s.data.toList.drop pos).all fun b=> !(decide (b.toNat<32)||decide (b.toNat>126))
 |0,pos,h=>by
  have hlen:s.data.toList.length=s.size:=Oc
  have:s.data.toList.drop pos=[]:=ga2 Oa;rw[this];simp[Lib.idxFuncFrom]
 |f+1,pos,h=>by
  have hlen:s.data.toList.length=s.size:=Oc
  unfold Lib.idxFuncFrom
  by_cases hp:pos<s.size
  ·rw[if_pos hp];have hx:=fy4 (show pos<s.data.toList.length by omega);generalize s.data.toList[pos]=b at hx;rw[bv7 hx,ge6];obtain⟨d1,d2⟩:=by1 s pos b (by2 hx)
   by_cases hb:b.toNat<128
   ·rw[d1 hb];simp only[]
    cases hbad:by0 b.toNat with
    |true=>
     rw[if_pos rfl];have:(!(decide (b.toNat<32)||decide (b.toNat>126)))=false:=by unfold by0 at hbad;rw[hbad];rfl
     rw[this,ge9];simp
    |false=>
     rw[if_neg Oc,by3 s f (pos+1) Oa];have:(!(decide (b.toNat<32)||decide (b.toNat>126)))=true:=by unfold by0 at hbad;rw[hbad];rfl
     rw[this,gd1]
   ·have h128:=d2 Oa;have hbad:by0 (Utf8.decode s pos).1=true:=by unfold by0;simp;omega
    rw[hbad,if_pos rfl];have:(!(decide (b.toNat<32)||decide (b.toNat>126)))=false:=Og
    rw[this,ge9];simp
  ·rw[if_neg hp];have:s.data.toList.drop pos=[]:=ga2 Oa;rw[this];simp
theorem by4(w:World):PredAt Tryz.prog 325 #[] encR by0 w:=fun W r _=>by
 unfold FnGives
 by_cases h1:r<32<;>by_cases h2:r>126
 all_goals
  have z1:(r:Int)<32↔r<32:=Oa
  have z2:(126:Int)<(r:Int)↔r>126:=Oa
  go_enter func325,ntmps325
  go_wp2
  all_goals first|(exfalso;omega)|(go_ret;exact⟨by simp[by0,h1,h2],0,rfl⟩)
theorem by5:bv4:=by
 intro s;refine⟨Lib.idxFunc by0 true s,?_,?_⟩
 ·refine Ev.fit fun hfit=>?_
  have hs:=(hfit (.str s) Oc).str;refine bx6 (af5 (k:=.i64) ?_) fun w F _ _ _=>?_
  ·unfold Lib.idxFunc;rcases Lib.idxFuncFrom_range by0 true s s.size 0 with h|h<;>simp only[inR]<;>omega
  ·refine(Tryz.strings_IndexFunc 325 #[] Tryz.call325 by0 s w (by4 w)).mono ?_;rintro e w' ⟨rfl,hb⟩;exact⟨rfl,hb⟩
 ·unfold Lib.idxFunc;rw[by3 s s.size 0 Oa,gh6]
end Go.Proofs.YtndgolmgaenlfaaGreatDoor
namespace Go.Proofs.YtndgolmgaenlfaaGreatDoor
set_option maxRecDepth 4000
open Go Go.Abs Go.Val Go.Proofs.Tryz
attribute [local irreducible] go SGo an9 Ev
theorem vind{P:V→Prop}(h:∀(k n d:Int) (s:ByteArray) (l:List V),(∀x∈l,P x)→P (.mk k n d s l))(v:V):P v:=
 V.rec (motive_1:=P) (motive_2:=fun l=>∀x∈l,P x) (fun k n d s l ih=>h k n d s l ih) (fun x hx=>by simp at hx)
  (fun a r ha hr x hx=>by
   rcases fz0.1 hx with e|e
   ·rw[e];exact ha
   ·exact hr x e) v
attribute [local irreducible] EvO EvS aw1
theorem by6{α β:Type}{l:List α}{f:α→β}{i:Nat}{x:α}(h:l[i]? =some x):(l.map f)[(i:Int).toNat]? =some (f x):=by
 rw[gb1,fz1,h];rfl
theorem by7{α:Type}{l:List α}{f:α→D}(h:Fit (.sl (l.map f))):l.length≤9223372036854775807∧∀x∈l,Fit (f x):=by
 have h5:=h.sls;rw[fz3]at h5;exact⟨h5.1,fun x hx=>h5.2 _ (gc4 hx)⟩
def by8(l:List ByteArray)(s:ByteArray):Bool:=l.any fun x=>x.toList==s.toList
inductive Ex where
 |mk (op:Int) (v:V) (nm:ByteArray) (ds:Bool) (ks:List Ex)
 deriving Inhabited
def Ex.op:Ex→Int|.mk op _ _ _ _=>op
def Ex.v:Ex→V|.mk _ v _ _ _=>v
def Ex.nm:Ex→ByteArray|.mk _ _ nm _ _=>nm
def Ex.ds:Ex→Bool|.mk _ _ _ ds _=>ds
def Ex.ks:Ex→List Ex|.mk _ _ _ _ ks=>ks
theorem Ex.eta(e:Ex):Ex.mk e.op e.v e.nm e.ds e.ks=e:=by cases e;rfl
mutual
def by9:Ex→List D
 |.mk _ _ _ _ l=>bz0 l
def bz0:List Ex→List D
 |[]=>[]
 |e::r=>.agg [.int e.op,.int e.v.k,.int e.v.n,.int e.v.d,.str e.v.s,.sl (kids e.v),.str e.nm,.bool e.ds,.sl (by9 e)]::bz0 r
end
def bz1(e:Ex):D:=.agg [.int e.op,.int e.v.k,.int e.v.n,.int e.v.d,.str e.v.s,.sl (kids e.v),.str e.nm,.bool e.ds,.sl (by9 e)]
theorem bz2(l:List Ex):bz0 l=l.map bz1:=by
 induction l with
 |nil=>simp[bz0]
 |cons v r ih=>simp[bz0,ih,bz1]
theorem bz3(e:Ex):by9 e=e.ks.map bz1:=by
 cases e
 simp[by9,bz2,Ex.ks]
theorem bz4{e:Ex}{i:Nat}{x:Ex}(h:e.ks[i]? =some x):(by9 e)[i]? =some (bz1 x):=by
 rw[bz3,fz1,h];rfl
theorem bz5{l:List Ex}{i:Nat}{x:Ex}(h:l[i]? =some x):(bz0 l)[i]? =some (bz1 x):=by
 rw[bz2,fz1,h];rfl
theorem bz6(e:Ex):(by9 e).length=e.ks.length:=by rw[bz3];simp
theorem bz7(l:List Ex):(bz0 l).length=l.length:=by rw[bz2];simp
theorem bz8{e:Ex}(h:Fit (bz1 e)):inR .i64 e.op∧Fit (enc e.v)∧e.nm.size≤9223372036854775807∧e.ks.length≤9223372036854775807∧∀x∈e.ks,Fit (bz1 x):=by
 have hc:=h.aggs;have h5:=(hc (.sl (by9 e)) Oc).sls;rw[bz6]at h5;refine⟨(hc (.int e.op) Oc).int,?_,(hc (.str e.nm) Oc).str,h5.1,fun x hx=>h5.2 _ ?_⟩
 ·refine Fit.agg _ fun c hm=>hc c ?_
  simp only[fz0,gf8,or_false]at hm ⊢;rcases hm with rfl|rfl|rfl|rfl|rfl<;>simp
 ·rw[bz3];exact gc4 hx
theorem bz9{l:List Ex}(h:Fit (.sl (bz0 l))):l.length≤9223372036854775807∧∀x∈l,Fit (bz1 x):=by
 have h5:=h.sls;rw[bz7]at h5;refine⟨h5.1,fun x hx=>h5.2 _ ?_⟩;rw[bz2];exact gc4 hx
theorem ca0{P:Ex→Prop}(h:∀op v nm ds ks,(∀x∈ks,P x)→P (.mk op v nm ds ks)):∀e,P e:=by
 intro e;refine Ex.rec (motive_1:=P) (motive_2:=fun l=>∀x∈l,P x) (fun op v nm ds ks ih=>h op v nm ds ks ih) (fun x hx=>by simp at hx) (fun a r ha hr x hx=>?_) e;rcases fz0.1 hx with rfl|hx
 ·exact ha
 ·exact hr x hx
end Go.Proofs.YtndgolmgaenlfaaGreatDoor
namespace Go.Proofs.YtndgolmgaenlfaaGreatDoor
set_option maxRecDepth 4000
open Go Go.Abs Go.Val Go.Proofs.Tryz
attribute [local irreducible] go SGo an9 Ev aw1 EvO EvS
def ca1(n:Int):Bool:=(decide (n≥97) &&decide (n≤122))||(decide (n≥65) &&decide (n≤90))
def wcF(n:Int):Bool:=ca1 n||((decide (n≥48) &&decide (n≤57))||n==95)
def ca2(s:ByteArray):Bool:=decide (1≤s.size) &&(decide (s.size≤20) &&(ca1 (ag5 s 0) &&(List.range s.size).all fun j=>wcF (ag5 s j)))
theorem ca3(n:Int):Ev E 259 [.imm (.int .u8 n)] (.d (.bool (ca1 n))):=by
 refine ye1 func259 ntmps259 fun _ _ _=>?_
 repeat'(first|refine yz ?_|(refine yy ?_ ?_<;>intro _))
 all_goals(refine congrArg D.bool ?_;simp_all [ca1]<;>omega)
structure SNm(s:ByteArray) where
 i:Nat
 hi:i≤s.size
 ok:((List.range s.size).all fun j=>wcF (ag5 s j))=((List.range s.size).drop i).all fun j=>wcF (ag5 s j)
theorem ca4{n i:Nat}(h:i<n):(List.range n)[i]? =some i:=by rw[gf6 h]
theorem ca5(s:ByteArray)(i:Nat)(h:i<s.size):0≤ag5 s i∧ag5 s i≤255:=by
 obtain⟨b,-,hb2⟩:=bv1 h;rw[hb2];have:=b.toNat_lt;omega
set_option maxHeartbeats 2000000 in
theorem ca6(s:ByteArray):Ev E 179 [.str s] (.d (.bool (ca2 s))):=Ev.fit fun hfit=>by
 have hs:=(hfit (.str s) Oc).str
 by_cases h0:s.size=0
 ·have hse:s=ByteArray.empty:=by simpa using h0
  have gs:(s.toList==(⟨#[]⟩:ByteArray).toList)=true:=by rw[hse];exact beq_self_eq_true ByteArray.empty.toList
  have e:ca2 s=false:=by unfold ca2;rw[h0];rfl
  rw[e];refine ye1 func179 ntmps179 fun _ _ _=>?_
  exact Om
 have g0:(s.toList==(⟨#[]⟩:ByteArray).toList)=false:=by
  rw[beq_eq_false_iff_ne];intro e;rw[ByteArray.toList_eq,ByteArray.toList_eq]at e;have:=congrArg List.length e;simp at this;exact h0 (by rw[this];rfl)
 cases h20:decide (s.size≤20)with
 |false=>
  have g1:decide ((s.size:Int)>20)=true:=by simp at h20 ⊢;omega
  have e:ca2 s=false:=by unfold ca2;rw[h20];simp
  rw[e];refine ye1 func179 ntmps179 fun _ _ _=>?_
  exact Om
 |true=>
  have g1:decide ((s.size:Int)>20)=false:=by simp at h20 ⊢;omega
  have hb0:=ca5 s 0 Oa;have hl:=ca3 (ag5 s 0)
  cases hl0:ca1 (ag5 s 0)with
  |false=>
   rw[hl0]at hl;have e:ca2 s=false:=by unfold ca2;rw[hl0];simp
   rw[e];refine ye1 func179 ntmps179 fun _ _ _=>?_
   repeat'(first|refine yz ?_|refine yp bt1 hl ?_|refine yx ?_|exact zD)
  |true=>
   rw[hl0]at hl
   have e:ca2 s=(List.range s.size).all fun j=>wcF (ag5 s j):=by
    unfold ca2;rw[hl0,h20,show decide (1≤s.size)=true by simp;omega];rfl
   rw[e];refine ye1 func179 ntmps179 fun _ _ _=>?_
   repeat'(first|refine yz ?_|refine yp bt1 hl ?_|refine yx ?_)
   refine ac8 (α:=SNm s) (fun p=>⟨[(0,.d (.str s)),(18,.d (.int s.size)),(19,.d (.int p.i))],[]⟩) (fun p=>s.size-p.i) ⟨0,by omega,rfl⟩ (zle 0) ?_;rintro⟨i,hi,ok⟩;dsimp only;rcases fy5 i s.size with hlt|hge
   ·have hd:decide ((i:Int)<(s.size:Int))=true:=by simpa using hlt
    have hb:=ca5 s i hlt;rw[ok,bv7 (ca4 hlt),ge6];have hli:=ca3 (ag5 s i);have hti:(i:Int).toNat=i:=gb1 i;rw[←hti]at hli hb
    cases hl1:ca1 (ag5 s (i:Int).toNat)with
    |true=>
     rw[hl1]at hli;rw[hti]at hl1;have hw:wcF (ag5 s i)=true:=by unfold wcF;rw[hl1];rfl
     repeat'(first|refine yz ?_|refine yp bt1 hli ?_)
     refine ac2 ?_;exact⟨⟨i+1,by omega,by rw[ok,bv7 (ca4 hlt),ge6,hw,gd1]⟩,by dsimp only;omega,(zle 0)⟩
    |false=>
     rw[hl1]at hli
     have key:∀b,((decide (ag5 s i≥48) &&decide (ag5 s i≤57))||ag5 s i==95)=b→wcF (ag5 s i)=b:=by
      intro b hb;unfold wcF;rw[←hti,hl1,hti,hb,gd0]
     cases h48:decide (ag5 s (i:Int).toNat<48)with
     |true=>
      cases h95:ag5 s (i:Int).toNat !=95 with
      |true=>
       have hw:wcF (ag5 s i)=false:=key _ (by rw[hti]at h48 h95;simp at h48 h95 ⊢;exact⟨fun h=>by omega,h95⟩)
       repeat'(first|refine yz ?_|refine yp bt1 hli ?_|refine yx ?_)
       rw[hw];rfl
      |false=>
       have hw:wcF (ag5 s i)=true:=key _ (by rw[hti]at h48 h95;simp at h48 h95 ⊢;exact .inr h95)
       repeat'(first|refine yz ?_|refine yp bt1 hli ?_|refine yx ?_)
       refine ac2 ?_;exact⟨⟨i+1,by omega,by rw[ok,bv7 (ca4 hlt),ge6,hw,gd1]⟩,by dsimp only;omega,(zle 0)⟩
     |false=>
      cases h57:decide (ag5 s (i:Int).toNat>57)with
      |false=>
       have hw:wcF (ag5 s i)=true:=key _ (by rw[hti]at h48 h57;simp at h48 h57 ⊢;exact .inl ⟨h48,h57⟩)
       repeat'(first|refine yz ?_|refine yp bt1 hli ?_|refine yx ?_)
       refine ac2 ?_;exact⟨⟨i+1,by omega,by rw[ok,bv7 (ca4 hlt),ge6,hw,gd1]⟩,by dsimp only;omega,(zle 0)⟩
      |true=>
       cases h95:ag5 s (i:Int).toNat !=95 with
       |true=>
        have hw:wcF (ag5 s i)=false:=key _ (by rw[hti]at h48 h57 h95;simp at h48 h57 h95 ⊢;exact⟨fun h=>by omega,h95⟩)
        repeat'(first|refine yz ?_|refine yp bt1 hli ?_|refine yx ?_)
        rw[hw];rfl
       |false=>
        have hw:wcF (ag5 s i)=true:=key _ (by rw[hti]at h95;simp at h95 ⊢;exact .inr h95)
        repeat'(first|refine yz ?_|refine yp bt1 hli ?_|refine yx ?_)
        refine ac2 ?_;exact⟨⟨i+1,by omega,by rw[ok,bv7 (ca4 hlt),ge6,hw,gd1]⟩,by dsimp only;omega,(zle 0)⟩
   ·have hd:decide ((i:Int)<(s.size:Int))=false:=by simp;omega
    have:(List.range s.size).drop i=[]:=ga2 (by simpa using hge);rw[ok,this]
    exact Om
def ca7(s:ByteArray):List ByteArray→Nat→Int
 |[],_=> -1
 |x::r,i=>bif s.toList==x.toList then(i:Int)else ca7 s r (i+1)
theorem ca8(s:ByteArray):∀(l:List ByteArray) (i:Nat),decide (ca7 s l i≥0)=by8 l s
 |[],i=>rfl
 |x::r,i=>by
  rw[ca7,by8,ge0]
  have hc:(x.toList==s.toList)=(s.toList==x.toList):=by
   rw[gb5,beq_iff_eq,beq_iff_eq];exact⟨fun h=>h.symm,fun h=>h.symm⟩
  rw[hc]
  cases s.toList==x.toList with
  |true=>simp
  |false=>rw[cond_false,gd0];exact ca8 s r (i+1)
theorem ca9{l:List ByteArray}{s x:ByteArray}{i:Nat}(h:l[i]? =some x):ca7 s (l.drop i) i=bif s.toList==x.toList then(i:Int)else ca7 s (l.drop (i+1)) (i+1):=by
 rw[bv7 h];rfl
structure SIx(l:List ByteArray)(s:ByteArray) where
 i:Nat
 hi:i≤l.length
 ok:ca7 s l 0=ca7 s (l.drop i) i
theorem cb0(l:List ByteArray)(s:ByteArray):Ev E 116 [.sl (l.map .str),.str s] (.d (.int (ca7 s l 0))):=Ev.fit fun hfit=>by
 obtain⟨hmax,-⟩:=by7 (l:=l) (f:=D.str) (hfit _ Oc);have hle:(l.map D.str).length=l.length:=Oc
 refine ye2 func116 ntmps116 fun _ _ _=>?_
 repeat'(first|refine yz ?_|refine yx ?_|(refine yy ?_ ?_<;>intro _)|exact zD|exact zL)
 refine ac8 (α:=SIx l s) (fun p=>⟨[(0,.d (.sl (l.map .str))),(1,.d (.str s)),(6,.d (.sl (l.map .str))),(7,.d (.int (l.map D.str).length)),(8,.d (.int p.i))],[]⟩) (fun p=>l.length-p.i) ⟨0,by omega,rfl⟩ (zle 0) ?_;rintro⟨i,hi,ok⟩;dsimp only;rcases fy5 i l.length with hlt|hge
 ·have g1:decide ((i:Int)<((l.map D.str).length:Int))=true:=by rw[hle];simpa using hlt
  have hx0:=fy4 hlt;generalize l[i]=x at hx0;have hx:=by6 (f:=D.str) hx0;rw[ok,ca9 hx0]
  cases hc:s.toList==x.toList with
  |true=>
   repeat'(first|refine yz ?_|refine yi (.str x) hx ?_|refine yx ?_|(refine yy ?_ ?_<;>intro _)|exact zD|exact zL)
  |false=>
   repeat'(first|refine yz ?_|refine yi (.str x) hx ?_|refine yx ?_|(refine yy ?_ ?_<;>intro _)|exact zD|exact zL)
   refine ac2 ?_;exact⟨⟨i+1,by omega,by rw[ok,ca9 hx0,hc];rfl⟩,by dsimp only;omega,(zle 0)⟩
 ·have g1:decide ((i:Int)<((l.map D.str).length:Int))=false:=by rw[hle];simp;omega
  rw[ok,ga2 hge]
  exact Om
theorem cb1(l:List ByteArray)(s:ByteArray):Ev E 60 [.sl (l.map .str),.str s] (.d (.bool (by8 l s))):=by
 have h:=cb0 l s;rw[←ca8 s l 0];refine ye2 func60 ntmps60 fun _ _ _=>?_
 repeat'(first|refine yz ?_|refine yp b116 h ?_|refine yx ?_|(refine yy ?_ ?_<;>intro _)|exact zD|exact zL)
end Go.Proofs.YtndgolmgaenlfaaGreatDoor
