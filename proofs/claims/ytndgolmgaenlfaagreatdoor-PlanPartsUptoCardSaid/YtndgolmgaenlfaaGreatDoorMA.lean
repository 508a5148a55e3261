/- What the functions of layers 1 and 3 return: In, Gcd, Valid of both texts; The small functions of layer 4, of the program and of the specification: logic, constructors, classes; Which values are valid: the flat kinds, of the program and of the specification; Which flat values are valid, by both texts; Paths and lists: which values are valid, by both texts; Lists within lists: which values are valid, by both texts; Valid, Plain, Number and Truth, by both texts; The library's functions, by the kit's contracts, in the engine's form; and the program's test of a string's characters; The program's t. Conditions: each part's own, as it says. -/
import Derived.Test.YtndgolmgaenlfaaGreatDoorGC
import Derived.Test.YtndgolmgaenlfaaGreatDoorGS
import Derived.Lib.ItoaLen
import Derived.Lib.AppendIntMem
import Derived.Test.YtndgolmgaenlfaaGreatDoorGB
set_option linter.unusedVariables false
set_option linter.unusedSimpArgs false
namespace Go.Proofs.YtndgolmgaenlfaaGreatDoor
set_option maxRecDepth 4000
open Go Go.Abs Go.Val Go.Proofs.Tryz
attribute [local irreducible] go SGo an1 Ev
theorem bq4(n:Int):Ev E 324 [.int n] (.d (.bool (inM n))):=by
 refine ye1 func324 ntmps324 fun _ _ _=>?_
 repeat'(first|refine yz ?_|(refine yy ?_ ?_<;>intro _))
 all_goals(simp_all [inM];try omega)
theorem bq5(n:Int)(h:inM n=true):Ev E 354 [.int n] (.d (.int (n.natAbs:Int))):=by
 have hb:=(bn6 n).1 h;refine ye1 func354 ntmps354 fun _ _ _=>?_
 repeat'(refine yz ?_)
 all_goals(simp only[cond_true];congr 3;omega)
theorem bq6{x y:Int}(hx:0≤x)(hy:0<y):x.tmod y=x % y∧0≤x % y∧x % y<y:=⟨Int.tmod_eq_emod_of_nonneg hx,Int.emod_nonneg x Oa,Int.emod_lt_of_pos x hy⟩
theorem bq7{x y:Int}(hx:0≤x)(hy:0≤y):Int.gcd y (x % y)=Int.gcd x y:=by
 obtain⟨a,rfl⟩:=Int.eq_ofNat_of_zero_le hx;obtain⟨b,rfl⟩:=Int.eq_ofNat_of_zero_le hy;have e:((a:Int) % (b:Int))=((a % b:Nat):Int):=Oa
 rw[e];simp only[Int.gcd,Int.natAbs_natCast];rw[Nat.gcd_comm b,←Nat.gcd_rec,Nat.gcd_comm]
structure GS(g:Nat) where
 x:Int
 y:Int
 hx:0≤x
 hy:0≤y
 bx:x≤9223372036854775807
 by_:y≤9223372036854775807
 hg:Int.gcd x y=g
theorem bq8(a b:Int):Ev E 327 [.int a,.int b] (.d (.int (bn7 a b))):=by
 cases ha:inM a with
 |false=>
  have ia:Ev E 324 [.int a] (.d (.bool false)):=ha ▸ bq4 a;refine ye2 func327 ntmps327 fun _ _ _=>?_
  repeat'(first|refine yz ?_|refine yp bq3 ia ?_)
  simp[bn7,ha]
 |true=>
  have ia:Ev E 324 [.int a] (.d (.bool true)):=ha ▸ bq4 a
  cases hb:inM b with
  |false=>
   have ib:Ev E 324 [.int b] (.d (.bool false)):=hb ▸ bq4 b;refine ye2 func327 ntmps327 fun _ _ _=>?_
   repeat'(first|refine yz ?_|refine yp bq3 ia ?_|refine yp bq3 ib ?_)
   simp[bn7,ha,hb]
  |true=>
   have ib:Ev E 324 [.int b] (.d (.bool true)):=hb ▸ bq4 b;have ba:=(bn6 a).1 ha;have bb:=(bn6 b).1 hb;refine ye2 func327 ntmps327 fun _ _ _=>?_
   repeat'(first|refine yz ?_|refine yp bq3 ia ?_|refine yp bq3 ib ?_|refine yp b354 (bq5 a ha) ?_|refine yp b354 (bq5 b hb) ?_)
   refine ac7 (α:=GS (Int.gcd a b)) (fun p=>⟨[(0,.d (.int p.x)),(1,.d (.int p.y))],[]⟩) (fun p=>p.y.toNat) ⟨a.natAbs,b.natAbs,by omega,by omega,by omega,by omega,by simp[Int.gcd]⟩ (zle 0) ?_;rintro⟨x,y,hx,hy,bx,by_,hg⟩;dsimp only
   by_cases hlt:y=0
   ·subst hlt
    repeat'(refine yz ?_)
    simp only[bn7,ha,hb,Bool.and_self,cond_true];rw[←hg,Int.gcd_zero_right];congr 3;omega
   ·have hd:(y !=0)=true:=by simpa using hlt
    obtain⟨e1,e2,e3⟩:=bq6 hx (show 0<y by omega)
    repeat'(refine yz ?_)
    refine ac1 ?_;refine⟨⟨y,x % y,hy,e2,by_,by omega,by rw[bq7 hx hy];exact hg⟩,by dsimp only;omega,?_⟩;dsimp only;rw[←e1];exact(zle 0)
theorem bq9(n d:Int):Ev E 284 [.agg [.int n,.int d]] (.d (.bool (bn8 n d))):=by
 have hg:=bq8 n d
 cases hn:inM n with
 |false=>
  have i1:Ev E 324 [.int n] (.d (.bool false)):=hn ▸ bq4 n;refine ye1 func284 ntmps284 fun _ _ _=>?_
  repeat'(first|refine yz ?_|refine yp bq3 i1 ?_|(refine yy ?_ ?_<;>intro _))
  all_goals(refine congrArg D.bool ?_;clear i1 hg;simp_all [bn8])
 |true=>
  have i1:Ev E 324 [.int n] (.d (.bool true)):=hn ▸ bq4 n;refine ye1 func284 ntmps284 fun _ _ _=>?_
  repeat'(first|refine yz ?_|refine yp bq3 i1 ?_|refine yp b327 hg ?_|(refine yy ?_ ?_<;>intro _))
  all_goals(refine congrArg D.bool ?_;clear i1 hg;simp_all [bn8,bn7];try omega)
  rw[(bn6 d).2 Oa];rfl
def l0(v:V):Bool:=((kids v).length:Int)==0
def br0(v:V)(n d s l:Bool):Bool:=(n||v.n==0) &&((d||v.d==0) &&((s||s0 v.s) &&(l||l0 v)))
theorem br1{s:ByteArray}{i:Nat}(h:i<s.size):∃b,s.data.toList[i]? =some b∧ag0 s i=(b.toNat:Int):=by
 have hl:i<s.data.toList.length:=by simpa using h
 refine⟨s.data.toList[i],ex6 hl,?_⟩;unfold ag0;rw[fb6,ex6 hl];rfl
def br2:Prop:=∀s:ByteArray,∃n:Int,Ev E 182 [.str s,.imm (.func (.func 325) #[] #[])] (.d (.int n))∧decide (n<0)=s.data.toList.all (fun b=> !(decide (b.toNat<32)||decide (b.toNat>126)))
theorem br3(v:V):kids v=[]↔v.l=[]:=by
 rw[bn0];simp
theorem br4(hix:br2)(k n d:Int)(s:ByteArray)(l:List V)(lists:Int)(h7:k≠7)(h8:k≠8):Ev E 282 [enc (.mk k n d s l),.int lists] (.d (.bool (bo1 (.mk k n d s l)))):=by
 obtain⟨ix,hi1,hi2⟩:=hix s;have hst:bo0 s=(decide (ix<0) &&decide ((s.size:Int)≤100)):=by rw[hi2,show decide ((s.size:Int)≤100)=decide (s.size≤100)from by simp only[decide_eq_decide];omega];rfl
 clear hi2;have hs0:s0 s=(s.toList==(⟨#[]⟩:ByteArray).toList):=rfl
 by_cases h0:k=0
 ·subst h0;refine ye2 func282 ntmps282 fun _ _ _=>?_
  repeat'(first|refine yz ?_|(refine yy ?_ ?_<;>intro _)|(refine qV rfl ?_ ?_<;>intro _))
  all_goals(refine congrArg D.bool ?_;clear hix hi1 hst;simp_all [bo1,br0,br3,bn2,V.k,V.n,V.d,V.s,V.l]<;>first|omega|exact of_decide_eq_true Of|exact Int.not_le.1 (of_decide_eq_false Of)|ac_rfl|(intros;omega)|(intros;simp_all;done))
 by_cases h0:k=1
 ·subst h0;refine ye2 func282 ntmps282 fun _ _ _=>?_
  repeat'(first|refine yz ?_|(refine yy ?_ ?_<;>intro _)|(refine qV rfl ?_ ?_<;>intro _))
  all_goals(refine congrArg D.bool ?_;clear hix hi1 hst;simp_all [bo1,br0,br3,bn2,V.k,V.n,V.d,V.s,V.l]<;>first|omega|exact of_decide_eq_true Of|exact Int.not_le.1 (of_decide_eq_false Of)|ac_rfl|(intros;omega)|(intros;simp_all;done))
 by_cases h0:k=2
 ·subst h0;refine ye2 func282 ntmps282 fun _ _ _=>?_
  repeat'(first|refine yz ?_|refine yp bq3 (bq4 n) ?_|(refine yy ?_ ?_<;>intro _)|(refine qV rfl ?_ ?_<;>intro _))
  all_goals(refine congrArg D.bool ?_;clear hix hi1 hst;simp_all [bo1,br0,br3,bn2,V.k,V.n,V.d,V.s,V.l]<;>first|omega|exact of_decide_eq_true Of|exact Int.not_le.1 (of_decide_eq_false Of)|ac_rfl|(intros;omega)|(intros;simp_all;done))
 by_cases h0:k=3
 ·subst h0;refine ye2 func282 ntmps282 fun _ _ _=>?_
  repeat'(first|refine yz ?_|refine yp b284 (bq9 n d) ?_|(refine yy ?_ ?_<;>intro _)|(refine qV rfl ?_ ?_<;>intro _))
  all_goals(refine congrArg D.bool ?_;clear hix hi1 hst;simp_all [bo1,br0,br3,bn2,V.k,V.n,V.d,V.s,V.l]<;>first|omega|exact of_decide_eq_true Of|exact Int.not_le.1 (of_decide_eq_false Of)|ac_rfl|(intros;omega)|(intros;simp_all;done))
 by_cases h0:k=4
 ·subst h0
  cases h100:decide ((s.size:Int)≤100)with
  |true=>
   rw[h100]at hst;refine ye2 func282 ntmps282 fun _ _ _=>?_
   repeat'(first|refine yz ?_|refine yp b182 hi1 ?_|refine yx ?_|(refine yy ?_ ?_<;>intro _)|(refine qV rfl ?_ ?_<;>intro _))
   all_goals(refine congrArg D.bool ?_;clear hix hi1;simp_all [bo1,br0,br3,bn2,V.k,V.n,V.d,V.s,V.l]<;>first|omega|exact of_decide_eq_true Of|exact Int.not_le.1 (of_decide_eq_false Of)|ac_rfl|(intros;omega)|(intros;simp_all;done))
  |false=>
   rw[h100]at hst;refine ye2 func282 ntmps282 fun _ _ _=>?_
   repeat'(first|refine yz ?_|refine yx ?_|(refine yy ?_ ?_<;>intro _)|(refine qV rfl ?_ ?_<;>intro _))
   all_goals(refine congrArg D.bool ?_;clear hix hi1;simp_all [bo1,br0,br3,bn2,V.k,V.n,V.d,V.s,V.l]<;>first|omega|exact of_decide_eq_true Of|exact Int.not_le.1 (of_decide_eq_false Of)|ac_rfl|(intros;omega)|(intros;simp_all;done))
 by_cases h0:k=5
 ·subst h0;refine ye2 func282 ntmps282 fun _ _ _=>?_
  repeat'(first|refine yz ?_|(refine yy ?_ ?_<;>intro _)|(refine qV rfl ?_ ?_<;>intro _))
  all_goals(refine congrArg D.bool ?_;clear hix hi1 hst;simp_all [bo1,br0,br3,bn2,V.k,V.n,V.d,V.s,V.l]<;>first|omega|exact of_decide_eq_true Of|exact Int.not_le.1 (of_decide_eq_false Of)|ac_rfl|(intros;omega)|(intros;simp_all;done))
 by_cases h0:k=6
 ·subst h0;refine ye2 func282 ntmps282 fun _ _ _=>?_
  repeat'(first|refine yz ?_|(refine yy ?_ ?_<;>intro _)|(refine qV rfl ?_ ?_<;>intro _))
  all_goals(refine congrArg D.bool ?_;clear hix hi1 hst;simp_all [bo1,br0,br3,bn2,V.k,V.n,V.d,V.s,V.l]<;>first|omega|exact of_decide_eq_true Of|exact Int.not_le.1 (of_decide_eq_false Of)|ac_rfl|(intros;omega)|(intros;simp_all;done))
 have e0:(k==0)=false:=by simpa
 have e1:(k==1)=false:=by simpa
 have e2:(k==2)=false:=by simpa
 have e3:(k==3)=false:=by simpa
 have e4:(k==4)=false:=by simpa
 have e5:(k==5)=false:=by simpa
 have e6:(k==6)=false:=by simpa
 have e7:(k==7)=false:=by simpa
 have e8:(k==8)=false:=by simpa
 have f3:(k !=3)=true:=by simpa
 have f4:(k !=4)=true:=by simpa
 have f7:(k !=7)=true:=by simpa
 have f8:(k !=8)=true:=by simpa
 have key:bo1 (.mk k n d s l)=false:=by simp only[bo1,V.k,e0,e1,e2,e3,e4,e5,e6,fe6,fe0]
 refine ye2 func282 ntmps282 fun _ _ _=>?_
 repeat'(first|refine yz ?_|refine yx ?_|(refine yy ?_ ?_<;>intro _)|(refine qV rfl ?_ ?_<;>intro _))
 all_goals(rw[key])
theorem br5{α:Type}{l:List α}{i:Nat}{x:α}(h:l[i]? =some x):l.drop i=x::l.drop (i+1):=by
 have hi:=(ey1.1 h).1;rw[List.drop_eq_getElem_cons hi];rw[ex6 hi]at h
 cases h
 rfl
structure SP(l:List V) where
 i:Nat
 hi:i≤l.length
 ok:bo3 0 l=bo3 i (l.drop i)
theorem br6(i:Nat):(bif i % 2==0 then(5:Int)else 6)=5∧i % 2=0∨(bif i % 2==0 then(5:Int)else 6)=6∧i % 2=1:=by
 rcases Nat.mod_two_eq_zero_or_one i with h|h<;>simp[h]
theorem br7(hix:br2)(l:List V):Ev E 326 [.sl (bm8 l)] (.d (.bool (bo4 l))):=Ev.fit fun hfit=>by
  obtain⟨hmax,-⟩:=bn5 (hfit (.sl (bm8 l)) Oc);have hlen:(bm8 l).length=l.length:=bn3 l
  have hmod:((l.length:Int).tmod 2==0)=(l.length % 2==0):=by
    rw[Int.tmod_eq_emod_of_nonneg Oa]
    cases h:l.length % 2==0 with
    |true=>simp at h ⊢;omega
    |false=>simp at h ⊢;omega
  cases h2:l.length % 2==0 with
  |true=>
    have key:bo4 l=false:=by unfold bo4;have:(l.length % 2==1)=false:=by simp at h2 ⊢;omega
                             rw[this];rfl
    rw[h2]at hmod;rw[←hlen]at hmod;refine ye1 func326 ntmps326 fun _ _ _=>?_
    repeat'(first|refine yz ?_|refine yx ?_)
    rw[key]
  |false=>
    rw[h2]at hmod;rw[←hlen]at hmod;have h21:(l.length % 2==1)=true:=by simp at h2 ⊢;omega
    by_cases h25:l.length≤25
    · have hd:decide (((bm8 l).length:Int)>25)=false:=by rw[hlen];simp;omega
      have hokp:bo4 l=bo3 0 l:=by unfold bo4;rw[h21];simp[h25]
      rw[hokp];refine ye1 func326 ntmps326 fun _ _ _=>?_
      repeat'(first|refine yz ?_|refine yx ?_)
      refine ac7 (α:=SP l) (fun p=>⟨[(15,.d (.sl (bm8 l))),(16,.d (.int (bm8 l).length)),(17,.d (.int p.i))],[]⟩) (fun p=>l.length-p.i) ⟨0,by omega,rfl⟩ (zle 0) ?_;rintro⟨i,hi,ok⟩;dsimp only;rcases ex7 i l.length with hlt|hge
      · have hd:decide ((i:Int)<((bm8 l).length:Int))=true:=by rw[hlen];simpa using hlt
        have hx0:=ex6 hlt;obtain⟨k,n,d,s,r,hv⟩:∃k n d s r,l[i]=V.mk k n d s r:=⟨_,_,_,_,_,(V.eta _).symm⟩;rw[hv]at hx0;have hx:(bm8 l)[(i:Int).toNat]? =some (enc (V.mk k n d s r)):=bn1 (by rw[fb2];exact hx0)
        have hm:(([.int 5,.int 6]:List D))[((i:Int).tmod 2).toNat]? =some (.int (bif i % 2==0 then 5 else 6)):=by
          rw[Int.tmod_eq_emod_of_nonneg Oa];rcases Nat.mod_two_eq_zero_or_one i with h|h
          · rw[show((i:Int) % 2).toNat=0 from by omega,h];rfl
          · rw[show((i:Int) % 2).toNat=1 from by omega,h];rfl
        have hmn:0≤(i:Int).tmod 2:=Int.tmod_nonneg _ Oa;have hmx:(i:Int).tmod 2≤2:=by have:=Int.tmod_lt_of_pos (i:Int) (show(0:Int)<2 by omega);omega
        have hkd:=br6 i;have hst:bo2 i (V.mk k n d s r)=(k==(bif i % 2==0 then 5 else 6) &&bo1 (V.mk k n d s r)):=rfl;generalize(bif i % 2==0 then(5:Int)else 6)=kd at*;rw[ok,br5 hx0];simp only[bo3,hst]
        cases hkk:k !=kd with
        |true=>
          have:(k==kd)=false:=by simpa using hkk
          rw[this]
          repeat'(first|refine yz ?_|refine yi (enc _) hx ?_|refine yi (.int kd) hm ?_|refine yx ?_|exact zD)
        |false=>
          have hk:k=kd:=by simpa using hkk
          have hf:=br4 hix k n d s r 0 Oa Oa
          cases hfl:bo1 (V.mk k n d s r)with
          |true=>
            rw[hfl]at hf
            repeat'(first|refine yz ?_|refine yi (enc _) hx ?_|refine yi (.int kd) hm ?_|refine yp bp9 hf ?_|refine yx ?_)
            refine ac1 ?_;refine⟨⟨i+1,by omega,?_⟩,by dsimp only;omega,(zle 0)⟩;rw[ok,br5 hx0];simp only[bo3];rw[hst,hfl,hk];simp
          |false=>
            rw[hfl]at hf
            repeat'(first|refine yz ?_|refine yi (enc _) hx ?_|refine yi (.int kd) hm ?_|refine yp bp9 hf ?_|refine yx ?_)
            simp
      · have hd:decide ((i:Int)<((bm8 l).length:Int))=false:=by rw[hlen];simp;omega
        have:l.drop i=[]:=ez5 hge;rw[ok,this]
        exact Ok
    · have hd:decide (((bm8 l).length:Int)>25)=true:=by rw[hlen];simp;omega
      have key:bo4 l=false:=by unfold bo4;simp[h25]
      rw[key];refine ye1 func326 ntmps326 fun _ _ _=>?_
      exact Ok
theorem br8(k n d:Int)(s:ByteArray)(l:List V)(h:k=7∨k=8):bo1 (.mk k n d s l)=false:=by
 rcases h with h|h<;>subst h<;>simp[bo1,V.k]
theorem br9(m:Nat)(k n d:Int)(s:ByteArray)(l:List V)(h7:k≠7)(h8:k≠8):okN m (.mk k n d s l)=bo1 (.mk k n d s l):=by
 have e7:(k==7)=false:=by simpa
 have e8:(k==8)=false:=by simpa
 cases m<;>simp[okN,V.k,e7,e8]
theorem bs0(m:Nat)(n d:Int)(s:ByteArray)(l:List V):okN m (.mk 7 n d s l)=((d==0&&s0 s) &&(n==0&&bo4 l)):=by
 cases m<;>simp[okN,V.k,V.n,V.d,V.s,V.l,br8 7 n d s l (.inl rfl)]
theorem bs1(n d:Int)(s:ByteArray)(l:List V):okN 0 (.mk 8 n d s l)=false:=by
 simp[okN,V.k,br8 8 n d s l (.inr rfl)]
theorem bs2(m:Nat)(n d:Int)(s:ByteArray)(l:List V):okN (m+1) (.mk 8 n d s l)=((d==0&&s0 s) &&((n==0&&decide (l.length≤64)) &&l.all (okN m))):=by
 simp[okN,V.k,V.n,V.d,V.s,V.l,br8 8 n d s l (.inr rfl),Bool.and_assoc]
 try rfl
structure SA(p:V→Bool)(l:List V) where
 i:Nat
 hi:i≤l.length
 ok:l.all p=(l.drop i).all p
theorem bs3(hix:br2)(m:Nat):m≤8→∀v:V,Ev E 282 [enc v,.int (8-(m:Int))] (.d (.bool (okN m v))):=by
 induction m with
 |zero=>
  rintro-⟨k,n,d,s,l⟩
  by_cases h7:k=7
  ·subst h7;rw[bs0];refine ye2 func282 ntmps282 fun _ _ _=>?_
   repeat'(first|refine yz ?_|refine yp b326 (br7 hix l) ?_|(refine yy ?_ ?_<;>intro _))
   all_goals(refine congrArg D.bool ?_;clear hix;simp_all [s0,V.k,V.n,V.d,V.s,V.l]<;>first|ac_rfl|(intros;simp_all;done))
  by_cases h8:k=8
  ·subst h8;rw[bs1];refine ye2 func282 ntmps282 fun _ _ _=>?_
   exact Ok
  rw[br9 _ _ _ _ _ _ h7 h8];exact br4 hix k n d s l _ h7 h8
 |succ m ih=>
  rintro hm ⟨k,n,d,s,l⟩;have ih:=ih Oa
  by_cases h7:k=7
  ·subst h7;rw[bs0];refine ye2 func282 ntmps282 fun _ _ _=>?_
   repeat'(first|refine yz ?_|refine yp b326 (br7 hix l) ?_|(refine yy ?_ ?_<;>intro _))
   all_goals(refine congrArg D.bool ?_;clear hix ih;simp_all [s0,V.k,V.n,V.d,V.s,V.l]<;>first|ac_rfl|(intros;simp_all;done))
  by_cases h8:k=8
  ·subst h8;rw[bs2];refine Ev.fit fun hfit=>?_
   obtain⟨-,-,-,-,hmax,-⟩:=bn4 (hfit (enc (.mk 8 n d s l)) Oc);simp only[V.l]at hmax;have hk:kids (.mk 8 n d s l)=bm8 l:=by simp[kids]
   have hlen:(kids (.mk 8 n d s l)).length=l.length:=by rw[bn2];rfl
   have hn1:8-((m+1:Nat):Int)+1=8-(m:Int):=Oa
   have hn8:decide (8-((m+1:Nat):Int)≥8)=false:=Og
   cases hd0:d==0 with
   |false=>
    have hdn:(d !=0)=true:=by simpa using hd0
    rw[fe6,fe6];refine ye2 func282 ntmps282 fun _ _ _=>?_
    exact Ok
   |true=>
   have hdn:(d !=0)=false:=by simpa using hd0
   cases hs0:s0 s with
   |false=>
    have hsn:(!(s.toList==(⟨#[]⟩:ByteArray).toList))=true:=by rw[show(s.toList==(⟨#[]⟩:ByteArray).toList)=false from hs0];rfl
    rw[Bool.and_false,fe6];refine ye2 func282 ntmps282 fun _ _ _=>?_
    exact Ok
   |true=>
   have hsn:(!(s.toList==(⟨#[]⟩:ByteArray).toList))=false:=by rw[show(s.toList==(⟨#[]⟩:ByteArray).toList)=true from hs0];rfl
   cases hnn:n==0 with
   |false=>
    have hnn':(n !=0)=true:=by simpa using hnn
    simp only[fe6,Bool.and_false];refine ye2 func282 ntmps282 fun _ _ _=>?_
    exact Ok
   |true=>
   have hnn':(n !=0)=false:=by simpa using hnn
   by_cases h64:l.length≤64
   ·have hd:decide (((kids (.mk 8 n d s l)).length:Int)>64)=false:=by rw[hlen];simp;omega
    rw[show decide (l.length≤64)=true by simpa using h64];simp only[fc1];refine ye2 func282 ntmps282 fun _ _ _=>?_
    repeat'(first|refine yz ?_|refine yx ?_)
    refine ac7 (α:=SA (okN m) l) (fun p=>⟨[(1,.d (.int (8-((m+1:Nat):Int)))),(120,.d (.sl (kids (.mk 8 n d s l)))),(121,.d (.int (kids (.mk 8 n d s l)).length)),(122,.d (.int p.i))],[]⟩) (fun p=>l.length-p.i) ⟨0,by omega,rfl⟩ (zle 0) ?_;rintro⟨i,hi,ok⟩;dsimp only;rcases ex7 i l.length with hlt|hge
    ·have hd:decide ((i:Int)<((kids (.mk 8 n d s l)).length:Int))=true:=by rw[hlen];simpa using hlt
     have hx0:=ex6 hlt;generalize l[i]=v at hx0;have hx:(kids (.mk 8 n d s l))[(i:Int).toNat]? =some (enc v):=by rw[hk];exact bn1 (by rw[fb2];exact hx0)
     have hv:=ih v;rw[←hn1]at hv;rw[ok,br5 hx0,fd8]
     cases hvv:okN m v with
     |true=>
      rw[hvv]at hv
      repeat'(first|refine yz ?_|refine yi (enc _) hx ?_|refine yp bp9 hv ?_)
      refine ac1 ?_;refine⟨⟨i+1,by omega,by rw[ok,br5 hx0,fd8,hvv,fc1]⟩,by dsimp only;omega,(zle 0)⟩
     |false=>
      rw[hvv]at hv
      repeat'(first|refine yz ?_|refine yi (enc _) hx ?_|refine yp bp9 hv ?_|exact zD)
    ·have hd:decide ((i:Int)<((kids (.mk 8 n d s l)).length:Int))=false:=by rw[hlen];simp;omega
     have:l.drop i=[]:=ez5 hge;rw[ok,this]
     exact Ok
   ·have hd:decide (((kids (.mk 8 n d s l)).length:Int)>64)=true:=by rw[hlen];simp;omega
    rw[show decide (l.length≤64)=false by simpa using h64];simp only[fe6,Bool.and_false];refine ye2 func282 ntmps282 fun _ _ _=>?_
    exact Ok
  rw[br9 _ _ _ _ _ _ h7 h8];exact br4 hix k n d s l _ h7 h8
theorem bs4(hix:br2)(v:V):Ev E 224 [enc v] (.d (.bool (okV v))):=by
 have h:=bs3 hix 8 Oa v;refine ye1 func224 ntmps224 fun _ _ _=>?_
 repeat'(first|refine yz ?_|refine yp bp9 h ?_|refine yx ?_|(refine yy ?_ ?_<;>intro _)|exact zD|exact zL)
theorem bs5(hix:br2)(v:V):Ev E 174 [enc v] (.d (.bool (bo5 v))):=by
 have h:=bs4 hix v;refine ye1 func174 ntmps174 fun _ _ _=>?_
 repeat'(first|refine yz ?_|refine yp bp6 h ?_|refine yx ?_|(refine yy ?_ ?_<;>intro _)|(refine qV rfl ?_ ?_<;>intro _)|exact zD|exact zL)
 all_goals(refine congrArg D.bool ?_;clear h hix;simp_all [bo5])
end Go.Proofs.YtndgolmgaenlfaaGreatDoor
namespace Go.Proofs.YtndgolmgaenlfaaGreatDoor
set_option maxRecDepth 4000
open Go Go.Abs Go.Val Go.RowKit Go.Proofs.Tryz
theorem bs6{f:FuncId}{ds:List D}{r:Value}(hok:Go.Abs.okV r=true)(h:∀(w:World) (F:Nat→Prop) (vs:List Value),E.GI w F→vs.length=ds.length→(∀(i:Nat) d v,ds[i]? =some d→vs[i]? =some v→Rd w F d v)→
  Calls E.P f vs.toArray w fun e w'=>e=.returned r∧Below w.heap.size w w'):Ev E f ds (.d (.imm r)):=by
 intro w F vs hF hG hl hr;refine(h w F vs hG hl hr).mono ?_;rintro e w' ⟨rfl,hb⟩;exact⟨r,F,rfl,Ext.of_below hb hF,.imm r hok⟩
theorem bs7{f:FuncId}{a r:Value}(hok:Go.Abs.okV r=true)(h:∀(w:World) (F:Nat→Prop),E.GI w F→Go.Abs.okV a=true→Calls E.P f #[a] w fun e w'=>e=.returned r∧Below w.heap.size w w'):Ev E f [.imm a] (.d (.imm r)):=by
 refine bs6 hok fun w F vs hG hl hr=>?_
 match vs,hl with
 |[v],_=>
  obtain⟨rfl,hk⟩:=Rd.imm_inv (hr 0 _ v rfl rfl);exact h w F hG hk
theorem bs8{f:FuncId}{a b r:Value}(hok:Go.Abs.okV r=true)(h:∀(w:World) (F:Nat→Prop),E.GI w F→Go.Abs.okV a=true→Go.Abs.okV b=true→Calls E.P f #[a,b] w fun e w'=>e=.returned r∧Below w.heap.size w w'):Ev E f [.imm a,.imm b] (.d (.imm r)):=by
 refine bs6 hok fun w F vs hG hl hr=>?_
 match vs,hl with
 |[v,u],_=>
  obtain⟨rfl,hk⟩:=Rd.imm_inv (hr 0 _ v rfl rfl);obtain⟨rfl,hk'⟩:=Rd.imm_inv (hr 1 _ u rfl rfl);exact h w F hG hk hk'
theorem bs9(n:Int):Ev E 151 [.int n] (.d (.str ⟨(Lib.itoa n).toArray⟩)):=Ev.fit fun hfit=>by
 have hn:=(hfit (.int n) Oc).int;simp only[inR]at hn;have hlen:=Lib.itoa_length_le n hn.1 hn.2;refine bs7 (by simp only[Go.Abs.okV,decide_eq_true_eq];show(Lib.itoa n).toArray.size≤9223372036854775807;simp only[fc9];omega) fun w F hG _=>?_
 refine(Tryz.strconv_Itoa n hn.1 hn.2 w hG.2.1.2).mono ?_;rintro e w' ⟨rfl,k,os,rfl⟩;exact⟨rfl,Lib.below_grow _ w (ez0 _) k os⟩
theorem bt0(b:Bool):Ev E 225 [.bool b] (.d (.str ⟨(Lib.formatBool b).toArray⟩)):=by
 refine bs7 (by cases b<;>decide) fun w F _ _=>?_
 refine(Tryz.strconv_FormatBool b w).mono ?_;rintro e w' ⟨rfl,rfl⟩;exact⟨rfl,Below.refl _ _⟩
theorem bt1(x y:Int):Ev E 253 [.int x,.int y] (.d (.int (Lib.compareInt x y))):=by
 refine bs8 (af2 (k:=.i64) (by unfold Lib.compareInt;simp only[inR];split<;>(try split)<;>omega)) fun w F _ _ _=>?_
 refine(Tryz.cmp_Compare_int x y w).mono ?_;rintro e w' ⟨rfl,rfl⟩;exact⟨rfl,Below.refl _ _⟩
open Go.Shelf
def bt2(r:Nat):Bool:=decide (r<32)||decide (r>126)
theorem bt3(s:ByteArray)(i:Nat)(b:UInt8)(hb:s.get! i=b):(b.toNat<128→Utf8.decode s i=(b.toNat,1))∧(128≤b.toNat→128≤(Utf8.decode s i).1):=by
 have h0:(s.get! (i+0)).toNat=b.toNat:=by rw[fb0,hb]
 constructor
 ·intro h;unfold Utf8.decode;simp only[h0];rw[if_pos h]
 ·intro h;unfold Utf8.decode;simp only[h0,Utf8.runeError];rw[if_neg Oa];split
  ·split<;>simp only[]<;>omega
  ·split
   ·split
    ·rename_i h1 h2;simp only[ey9,decide_eq_true_eq]at h2;simp only[];omega
    ·simp only[];omega
   ·split
    ·split
     ·rename_i h1 h2;simp only[ey9,decide_eq_true_eq]at h2;simp only[];omega
     ·simp only[];omega
    ·simp only[];omega
theorem bt4{s:ByteArray}{i:Nat}{b:UInt8}(h:s.data.toList[i]? =some b):s.get! i=b:=by
 have hl:i<s.data.size:=by simpa using(ey1.1 h).1
 have:s.data.toList[i]? =some s.data[i]:=by simp[hl]
 rw[this]at h
 cases h
 cases s
 simp only[ByteArray.get!];simp[hl]
theorem bt5(s:ByteArray):∀(f pos:Nat),s.size≤pos+f→(decide (Lib.idxFuncFrom bt2 true s f pos<0))=(s.data.toList.drop pos).all fun b=> !(decide (b.toNat<32)||decide (b.toNat>126))
 |0,pos,h=>by
  have hlen:s.data.toList.length=s.size:=Oc
  have:s.data.toList.drop pos=[]:=ez5 Oa;rw[this];simp[Lib.idxFuncFrom]
 |f+1,pos,h=>by
  have hlen:s.data.toList.length=s.size:=Oc
  unfold Lib.idxFuncFrom
  by_cases hp:pos<s.size
  ·rw[if_pos hp];have hx:=ex6 (show pos<s.data.toList.length by omega);generalize s.data.toList[pos]=b at hx;rw[br5 hx,fd8];obtain⟨d1,d2⟩:=bt3 s pos b (bt4 hx)
   by_cases hb:b.toNat<128
   ·rw[d1 hb];simp only[]
    cases hbad:bt2 b.toNat with
    |true=>
     rw[if_pos rfl];have:(!(decide (b.toNat<32)||decide (b.toNat>126)))=false:=by unfold bt2 at hbad;rw[hbad];rfl
     rw[this,fe6];simp
    |false=>
     rw[if_neg Oc,bt5 s f (pos+1) Oa];have:(!(decide (b.toNat<32)||decide (b.toNat>126)))=true:=by unfold bt2 at hbad;rw[hbad];rfl
     rw[this,fc1]
   ·have h128:=d2 Oa;have hbad:bt2 (Utf8.decode s pos).1=true:=by unfold bt2;simp;omega
    rw[hbad,if_pos rfl];have:(!(decide (b.toNat<32)||decide (b.toNat>126)))=false:=Og
    rw[this,fe6];simp
  ·rw[if_neg hp];have:s.data.toList.drop pos=[]:=ez5 Oa;rw[this];simp
theorem bt6(w:World):PredAt Tryz.prog 325 #[] encR bt2 w:=fun W r _=>by
 unfold FnGives
 by_cases h1:r<32<;>by_cases h2:r>126
 all_goals
  have z1:(r:Int)<32↔r<32:=Oa
  have z2:(126:Int)<(r:Int)↔r>126:=Oa
  go_enter func325,ntmps325
  go_wp2
  all_goals first|(exfalso;omega)|(go_ret;exact⟨by simp[bt2,h1,h2],0,rfl⟩)
theorem bt7:br2:=by
 intro s;refine⟨Lib.idxFunc bt2 true s,?_,?_⟩
 ·refine Ev.fit fun hfit=>?_
  have hs:=(hfit (.str s) Oc).str;refine bs8 (af2 (k:=.i64) ?_) fun w F _ _ _=>?_
  ·unfold Lib.idxFunc;rcases Lib.idxFuncFrom_range bt2 true s s.size 0 with h|h<;>simp only[inR]<;>omega
  ·refine(Tryz.strings_IndexFunc 325 #[] Tryz.call325 bt2 s w (bt6 w)).mono ?_;rintro e w' ⟨rfl,hb⟩;exact⟨rfl,hb⟩
 ·unfold Lib.idxFunc;rw[bt5 s s.size 0 Oa,fg1]
end Go.Proofs.YtndgolmgaenlfaaGreatDoor
namespace Go.Proofs.YtndgolmgaenlfaaGreatDoor
set_option maxRecDepth 4000
open Go Go.Abs Go.Val Go.Proofs.Tryz
attribute [local irreducible] go SGo an1 Ev
theorem vind{P:V→Prop}(h:∀(k n d:Int) (s:ByteArray) (l:List V),(∀x∈l,P x)→P (.mk k n d s l))(v:V):P v:=
 V.rec (motive_1:=P) (motive_2:=fun l=>∀x∈l,P x) (fun k n d s l ih=>h k n d s l ih) (fun x hx=>by simp at hx)
  (fun a r ha hr x hx=>by
   rcases ey2.1 hx with e|e
   ·rw[e];exact ha
   ·exact hr x e) v
attribute [local irreducible] EvO EvS au7
theorem bt8{α β:Type}{l:List α}{f:α→β}{i:Nat}{x:α}(h:l[i]? =some x):(l.map f)[(i:Int).toNat]? =some (f x):=by
 rw[fb2,ey3,h];rfl
theorem bt9{α:Type}{l:List α}{f:α→D}(h:Fit (.sl (l.map f))):l.length≤9223372036854775807∧∀x∈l,Fit (f x):=by
 have h5:=h.sls;rw[ey4]at h5;exact⟨h5.1,fun x hx=>h5.2 _ (fa5 hx)⟩
def bu0(l:List ByteArray)(s:ByteArray):Bool:=l.any fun x=>x.toList==s.toList
structure SHs(l:List ByteArray)(s:ByteArray) where
 i:Nat
 hi:i≤l.length
 ok:bu0 l s=bu0 (l.drop i) s
theorem bu1{l:List ByteArray}{s x:ByteArray}{i:Nat}(h:l[i]? =some x):bu0 (l.drop i) s=(x.toList==s.toList||bu0 (l.drop (i+1)) s):=by
 rw[br5 h];rfl
theorem bu2(l:List ByteArray)(s:ByteArray):Ev E 17 [.sl (l.map .str),.str s] (.d (.bool (bu0 l s))):=Ev.fit fun hfit=>by
 obtain⟨hmax,-⟩:=bt9 (l:=l) (f:=D.str) (hfit _ Oc);have hle:(l.map D.str).length=l.length:=Oc
 refine ye2 func17 ntmps17 fun _ _ _=>?_
 repeat'(first|refine yz ?_|refine yx ?_|(refine yy ?_ ?_<;>intro _)|exact zD|exact zL)
 refine ac7 (α:=SHs l s) (fun p=>⟨[(0,.d (.sl (l.map .str))),(1,.d (.str s)),(5,.d (.int p.i))],[]⟩) (fun p=>l.length-p.i) ⟨0,by omega,rfl⟩ (zle 0) ?_;rintro⟨i,hi,ok⟩;dsimp only;rcases ex7 i l.length with hlt|hge
 ·have g1:decide ((i:Int)<((l.map D.str).length:Int))=true:=by rw[hle];simpa using hlt
  have hx0:=ex6 hlt;generalize l[i]=x at hx0;have hx:=bt8 (f:=D.str) hx0;rw[ok,bu1 hx0]
  cases hc:x.toList==s.toList with
  |true=>
   repeat'(first|refine yz ?_|refine yi (.str x) hx ?_|refine yx ?_|(refine yy ?_ ?_<;>intro _)|exact zD|exact zL)
  |false=>
   repeat'(first|refine yz ?_|refine yi (.str x) hx ?_|refine yx ?_|(refine yy ?_ ?_<;>intro _)|exact zD|exact zL)
   refine ac1 ?_;exact⟨⟨i+1,by omega,by rw[ok,bu1 hx0,hc];rfl⟩,by dsimp only;omega,(zle 0)⟩
 ·have g1:decide ((i:Int)<((l.map D.str).length:Int))=false:=by rw[hle];simp;omega
  rw[ok,ez5 hge]
  exact Ok
inductive Ex where
 |mk (op:Int) (v:V) (nm:ByteArray) (ds:Bool) (ks:List Ex)
 deriving Inhabited
def Ex.op:Ex→Int|.mk op _ _ _ _=>op
def Ex.v:Ex→V|.mk _ v _ _ _=>v
def Ex.nm:Ex→ByteArray|.mk _ _ nm _ _=>nm
def Ex.ds:Ex→Bool|.mk _ _ _ ds _=>ds
def Ex.ks:Ex→List Ex|.mk _ _ _ _ ks=>ks
theorem Ex.eta(e:Ex):Ex.mk e.op e.v e.nm e.ds e.ks=e:=by cases e;rfl
mutual
def bu3:Ex→List D
 |.mk _ _ _ _ l=>bu4 l
def bu4:List Ex→List D
 |[]=>[]
 |e::r=>.agg [.int e.op,.int e.v.k,.int e.v.n,.int e.v.d,.str e.v.s,.sl (kids e.v),.str e.nm,.bool e.ds,.sl (bu3 e)]::bu4 r
end
def bu5(e:Ex):D:=.agg [.int e.op,.int e.v.k,.int e.v.n,.int e.v.d,.str e.v.s,.sl (kids e.v),.str e.nm,.bool e.ds,.sl (bu3 e)]
theorem bu6(l:List Ex):bu4 l=l.map bu5:=by
 induction l with
 |nil=>simp[bu4]
 |cons v r ih=>simp[bu4,ih,bu5]
theorem bu7(e:Ex):bu3 e=e.ks.map bu5:=by
 cases e
 simp[bu3,bu6,Ex.ks]
theorem bu8{e:Ex}{i:Nat}{x:Ex}(h:e.ks[i]? =some x):(bu3 e)[i]? =some (bu5 x):=by
 rw[bu7,ey3,h];rfl
theorem bu9{l:List Ex}{i:Nat}{x:Ex}(h:l[i]? =some x):(bu4 l)[i]? =some (bu5 x):=by
 rw[bu6,ey3,h];rfl
theorem bv0(e:Ex):(bu3 e).length=e.ks.length:=by rw[bu7];simp
theorem bv1(l:List Ex):(bu4 l).length=l.length:=by rw[bu6];simp
theorem bv2{e:Ex}(h:Fit (bu5 e)):inR .i64 e.op∧Fit (enc e.v)∧e.nm.size≤9223372036854775807∧e.ks.length≤9223372036854775807∧∀x∈e.ks,Fit (bu5 x):=by
 have hc:=h.aggs;have h5:=(hc (.sl (bu3 e)) Oc).sls;rw[bv0]at h5;refine⟨(hc (.int e.op) Oc).int,?_,(hc (.str e.nm) Oc).str,h5.1,fun x hx=>h5.2 _ ?_⟩
 ·refine Fit.agg _ fun c hm=>hc c ?_
  simp only[ey2,fe9,or_false]at hm ⊢;rcases hm with rfl|rfl|rfl|rfl|rfl<;>simp
 ·rw[bu7];exact fa5 hx
theorem bv3{l:List Ex}(h:Fit (.sl (bu4 l))):l.length≤9223372036854775807∧∀x∈l,Fit (bu5 x):=by
 have h5:=h.sls;rw[bv1]at h5;refine⟨h5.1,fun x hx=>h5.2 _ ?_⟩;rw[bu6];exact fa5 hx
theorem bv4{P:Ex→Prop}(h:∀op v nm ds ks,(∀x∈ks,P x)→P (.mk op v nm ds ks)):∀e,P e:=by
 intro e;refine Ex.rec (motive_1:=P) (motive_2:=fun l=>∀x∈l,P x) (fun op v nm ds ks ih=>h op v nm ds ks ih) (fun x hx=>by simp at hx) (fun a r ha hr x hx=>?_) e;rcases ey2.1 hx with rfl|hx
 ·exact ha
 ·exact hr x hx
end Go.Proofs.YtndgolmgaenlfaaGreatDoor
namespace Go.Proofs.YtndgolmgaenlfaaGreatDoor
set_option maxRecDepth 4000
open Go Go.Abs Go.Val Go.Proofs.Tryz
attribute [local irreducible] go SGo an1 Ev au7 EvO EvS
def bv5(n:Int):Bool:=(decide (n≥97) &&decide (n≤122))||(decide (n≥65) &&decide (n≤90))
def wcF(n:Int):Bool:=bv5 n||((decide (n≥48) &&decide (n≤57))||n==95)
def bv6(s:ByteArray):Bool:=decide (1≤s.size) &&(decide (s.size≤20) &&(bv5 (ag0 s 0) &&(List.range s.size).all fun j=>wcF (ag0 s j)))
theorem bv7(n:Int):Ev E 259 [.imm (.int .u8 n)] (.d (.bool (bv5 n))):=by
 refine ye1 func259 ntmps259 fun _ _ _=>?_
 repeat'(first|refine yz ?_|(refine yy ?_ ?_<;>intro _))
 all_goals(refine congrArg D.bool ?_;simp_all [bv5]<;>omega)
structure SNm(s:ByteArray) where
 i:Nat
 hi:i≤s.size
 ok:((List.range s.size).all fun j=>wcF (ag0 s j))=((List.range s.size).drop i).all fun j=>wcF (ag0 s j)
theorem bv8{n i:Nat}(h:i<n):(List.range n)[i]? =some i:=by rw[fe3 h]
theorem bv9(s:ByteArray)(i:Nat)(h:i<s.size):0≤ag0 s i∧ag0 s i≤255:=by
 obtain⟨b,-,hb2⟩:=br1 h;rw[hb2];have:=b.toNat_lt;omega
set_option maxHeartbeats 2000000 in
theorem bw0(s:ByteArray):Ev E 179 [.str s] (.d (.bool (bv6 s))):=Ev.fit fun hfit=>by
 have hs:=(hfit (.str s) Oc).str
 by_cases h0:s.size=0
 ·have hse:s=ByteArray.empty:=by simpa using h0
  have gs:(s.toList==(⟨#[]⟩:ByteArray).toList)=true:=by rw[hse];exact beq_self_eq_true ByteArray.empty.toList
  have e:bv6 s=false:=by unfold bv6;rw[h0];rfl
  rw[e];refine ye1 func179 ntmps179 fun _ _ _=>?_
  exact Ok
 have g0:(s.toList==(⟨#[]⟩:ByteArray).toList)=false:=by
  rw[beq_eq_false_iff_ne];intro e;rw[ByteArray.toList_eq,ByteArray.toList_eq]at e;have:=congrArg List.length e;simp at this;exact h0 (by rw[this];rfl)
 cases h20:decide (s.size≤20)with
 |false=>
  have g1:decide ((s.size:Int)>20)=true:=by simp at h20 ⊢;omega
  have e:bv6 s=false:=by unfold bv6;rw[h20];simp
  rw[e];refine ye1 func179 ntmps179 fun _ _ _=>?_
  exact Ok
 |true=>
  have g1:decide ((s.size:Int)>20)=false:=by simp at h20 ⊢;omega
  have hb0:=bv9 s 0 Oa;have hl:=bv7 (ag0 s 0)
  cases hl0:bv5 (ag0 s 0)with
  |false=>
   rw[hl0]at hl;have e:bv6 s=false:=by unfold bv6;rw[hl0];simp
   rw[e];refine ye1 func179 ntmps179 fun _ _ _=>?_
   repeat'(first|refine yz ?_|refine yp bp8 hl ?_|refine yx ?_|exact zD)
  |true=>
   rw[hl0]at hl
   have e:bv6 s=(List.range s.size).all fun j=>wcF (ag0 s j):=by
    unfold bv6;rw[hl0,h20,show decide (1≤s.size)=true by simp;omega];rfl
   rw[e];refine ye1 func179 ntmps179 fun _ _ _=>?_
   repeat'(first|refine yz ?_|refine yp bp8 hl ?_|refine yx ?_)
   refine ac7 (α:=SNm s) (fun p=>⟨[(0,.d (.str s)),(18,.d (.int s.size)),(19,.d (.int p.i))],[]⟩) (fun p=>s.size-p.i) ⟨0,by omega,rfl⟩ (zle 0) ?_;rintro⟨i,hi,ok⟩;dsimp only;rcases ex7 i s.size with hlt|hge
   ·have hd:decide ((i:Int)<(s.size:Int))=true:=by simpa using hlt
    have hb:=bv9 s i hlt;rw[ok,br5 (bv8 hlt),fd8];have hli:=bv7 (ag0 s i);have hti:(i:Int).toNat=i:=fb2 i;rw[←hti]at hli hb
    cases hl1:bv5 (ag0 s (i:Int).toNat)with
    |true=>
     rw[hl1]at hli;rw[hti]at hl1;have hw:wcF (ag0 s i)=true:=by unfold wcF;rw[hl1];rfl
     repeat'(first|refine yz ?_|refine yp bp8 hli ?_)
     refine ac1 ?_;exact⟨⟨i+1,by omega,by rw[ok,br5 (bv8 hlt),fd8,hw,fc1]⟩,by dsimp only;omega,(zle 0)⟩
    |false=>
     rw[hl1]at hli
     have key:∀b,((decide (ag0 s i≥48) &&decide (ag0 s i≤57))||ag0 s i==95)=b→wcF (ag0 s i)=b:=by
      intro b hb;unfold wcF;rw[←hti,hl1,hti,hb,fc8]
     cases h48:decide (ag0 s (i:Int).toNat<48)with
     |true=>
      cases h95:ag0 s (i:Int).toNat !=95 with
      |true=>
       have hw:wcF (ag0 s i)=false:=key _ (by rw[hti]at h48 h95;simp at h48 h95 ⊢;exact⟨fun h=>by omega,h95⟩)
       repeat'(first|refine yz ?_|refine yp bp8 hli ?_|refine yx ?_)
       rw[hw];rfl
      |false=>
       have hw:wcF (ag0 s i)=true:=key _ (by rw[hti]at h48 h95;simp at h48 h95 ⊢;exact .inr h95)
       repeat'(first|refine yz ?_|refine yp bp8 hli ?_|refine yx ?_)
       refine ac1 ?_;exact⟨⟨i+1,by omega,by rw[ok,br5 (bv8 hlt),fd8,hw,fc1]⟩,by dsimp only;omega,(zle 0)⟩
     |false=>
      cases h57:decide (ag0 s (i:Int).toNat>57)with
      |false=>
       have hw:wcF (ag0 s i)=true:=key _ (by rw[hti]at h48 h57;simp at h48 h57 ⊢;exact .inl ⟨h48,h57⟩)
       repeat'(first|refine yz ?_|refine yp bp8 hli ?_|refine yx ?_)
       refine ac1 ?_;exact⟨⟨i+1,by omega,by rw[ok,br5 (bv8 hlt),fd8,hw,fc1]⟩,by dsimp only;omega,(zle 0)⟩
      |true=>
       cases h95:ag0 s (i:Int).toNat !=95 with
       |true=>
        have hw:wcF (ag0 s i)=false:=key _ (by rw[hti]at h48 h57 h95;simp at h48 h57 h95 ⊢;exact⟨fun h=>by omega,h95⟩)
        repeat'(first|refine yz ?_|refine yp bp8 hli ?_|refine yx ?_)
        rw[hw];rfl
       |false=>
        have hw:wcF (ag0 s i)=true:=key _ (by rw[hti]at h95;simp at h95 ⊢;exact .inr h95)
        repeat'(first|refine yz ?_|refine yp bp8 hli ?_|refine yx ?_)
        refine ac1 ?_;exact⟨⟨i+1,by omega,by rw[ok,br5 (bv8 hlt),fd8,hw,fc1]⟩,by dsimp only;omega,(zle 0)⟩
   ·have hd:decide ((i:Int)<(s.size:Int))=false:=by simp;omega
    have:(List.range s.size).drop i=[]:=ez5 (by simpa using hge);rw[ok,this]
    exact Ok
def bw1(s:ByteArray):List ByteArray→Nat→Int
 |[],_=> -1
 |x::r,i=>bif s.toList==x.toList then(i:Int)else bw1 s r (i+1)
theorem bw2(s:ByteArray):∀(l:List ByteArray) (i:Nat),decide (bw1 s l i≥0)=bu0 l s
 |[],i=>rfl
 |x::r,i=>by
  rw[bw1,bu0,fd2]
  have hc:(x.toList==s.toList)=(s.toList==x.toList):=by
   rw[fa4,beq_iff_eq,beq_iff_eq];exact⟨fun h=>h.symm,fun h=>h.symm⟩
  rw[hc]
  cases s.toList==x.toList with
  |true=>simp
  |false=>rw[cond_false,fc8];exact bw2 s r (i+1)
theorem bw3{l:List ByteArray}{s x:ByteArray}{i:Nat}(h:l[i]? =some x):bw1 s (l.drop i) i=bif s.toList==x.toList then(i:Int)else bw1 s (l.drop (i+1)) (i+1):=by
 rw[br5 h];rfl
structure SIx(l:List ByteArray)(s:ByteArray) where
 i:Nat
 hi:i≤l.length
 ok:bw1 s l 0=bw1 s (l.drop i) i
theorem bw4(l:List ByteArray)(s:ByteArray):Ev E 116 [.sl (l.map .str),.str s] (.d (.int (bw1 s l 0))):=Ev.fit fun hfit=>by
 obtain⟨hmax,-⟩:=bt9 (l:=l) (f:=D.str) (hfit _ Oc);have hle:(l.map D.str).length=l.length:=Oc
 refine ye2 func116 ntmps116 fun _ _ _=>?_
 repeat'(first|refine yz ?_|refine yx ?_|(refine yy ?_ ?_<;>intro _)|exact zD|exact zL)
 refine ac7 (α:=SIx l s) (fun p=>⟨[(0,.d (.sl (l.map .str))),(1,.d (.str s)),(6,.d (.sl (l.map .str))),(7,.d (.int (l.map D.str).length)),(8,.d (.int p.i))],[]⟩) (fun p=>l.length-p.i) ⟨0,by omega,rfl⟩ (zle 0) ?_;rintro⟨i,hi,ok⟩;dsimp only;rcases ex7 i l.length with hlt|hge
 ·have g1:decide ((i:Int)<((l.map D.str).length:Int))=true:=by rw[hle];simpa using hlt
  have hx0:=ex6 hlt;generalize l[i]=x at hx0;have hx:=bt8 (f:=D.str) hx0;rw[ok,bw3 hx0]
  cases hc:s.toList==x.toList with
  |true=>
   repeat'(first|refine yz ?_|refine yi (.str x) hx ?_|refine yx ?_|(refine yy ?_ ?_<;>intro _)|exact zD|exact zL)
  |false=>
   repeat'(first|refine yz ?_|refine yi (.str x) hx ?_|refine yx ?_|(refine yy ?_ ?_<;>intro _)|exact zD|exact zL)
   refine ac1 ?_;exact⟨⟨i+1,by omega,by rw[ok,bw3 hx0,hc];rfl⟩,by dsimp only;omega,(zle 0)⟩
 ·have g1:decide ((i:Int)<((l.map D.str).length:Int))=false:=by rw[hle];simp;omega
  rw[ok,ez5 hge]
  exact Ok
theorem bw5(l:List ByteArray)(s:ByteArray):Ev E 60 [.sl (l.map .str),.str s] (.d (.bool (bu0 l s))):=by
 have h:=bw4 l s;rw[←bw2 s l 0];refine ye2 func60 ntmps60 fun _ _ _=>?_
 repeat'(first|refine yz ?_|refine yp b116 h ?_|refine yx ?_|(refine yy ?_ ?_<;>intro _)|exact zD|exact zL)
end Go.Proofs.YtndgolmgaenlfaaGreatDoor
