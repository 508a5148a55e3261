/- As each says. -/
import Derived.Test.YtndgolmgaenlfaaGreatDoorGC
import Derived.Test.YtndgolmgaenlfaaGreatDoorMA
import Derived.Test.YtndgolmgaenlfaaGreatDoorGA
import Derived.Test.YtndgolmgaenlfaaGreatDoorGB
import Derived.Shelf.Spec.BitsCarry
import Derived.Lib.ReplaceLaws
import Derived.Lib.Join
set_option linter.unusedVariables false
set_option linter.unusedSimpArgs false
namespace Go.Proofs.YtndgolmgaenlfaaGreatDoor
set_option maxRecDepth 4000
open Go Go.Abs Go.Val Go.Proofs.Tryz
attribute [local irreducible] go SGo an1 Ev
attribute [local irreducible] au8
def sv(neg:Bool)(m:Nat):Int:=bif neg then-(m:Int)else m
end Go.Proofs.YtndgolmgaenlfaaGreatDoor
namespace Go.Proofs.YtndgolmgaenlfaaGreatDoor
set_option maxRecDepth 4000
open Go Go.Abs Go.Val Go.RowKit Go.Proofs.Tryz
def bs(l:List UInt8):ByteArray:=⟨l.toArray⟩
theorem ca9(a b:List UInt8):bs a++bs b=bs (a++b):=by
 apply ByteArray.ext;simp[bs,ByteArray.data_append]
theorem cb0(s:ByteArray):bs s.data.toList=s:=by
 cases s
 simp[bs]
theorem cb1(l:List UInt8):(bs l).size=l.length:=by simp[bs,ByteArray.size]
theorem cb2(l:List UInt8):(bs l).data.toList=l:=by simp[bs]
theorem cb3(n:Int):strOf [n]=bs [UInt8.ofNat n.toNat]:=rfl
def dd(u:Nat):List UInt8:=if u=0 then []else Lib.decDigits u
theorem cb4{u:Nat}(h:u≠0):dd u=dd (u/10)++ [UInt8.ofNat (48+u % 10)]:=by
 unfold dd;rw[if_neg h,Lib.decDigits]
 by_cases h10:u<10
 ·rw[dif_pos h10,if_pos Oa,fr8,Nat.mod_eq_of_lt h10]
 ·rw[dif_neg h10,if_neg Oa]
theorem cb5{u:Nat}(h:u<18446744073709551616):(dd u).length≤20:=by
 unfold dd;split
 ·simp
 ·rw[Lib.decDigits_length];exact Lib.nDigits_le20 u h
structure ST(n:Int) where
 m:Int
 s:List UInt8
 hm:m.natAbs≤n.natAbs
 hs:dd n.natAbs=dd m.natAbs++s
end Go.Proofs.YtndgolmgaenlfaaGreatDoor
namespace Go.Proofs.YtndgolmgaenlfaaGreatDoor
open Go Go.Abs Go.Val Go.RowKit Go.Proofs.Tryz
attribute [local irreducible] go SGo an1 Ev au8
theorem cb6(n:Int):Ev E 160 [.int n] (.d (.str (bs (Lib.itoa n)))):=Ev.fit fun hfit=>by
 have hn:=(hfit (.int n) Oc).int;simp only[inR]at hn
 by_cases h0:n=0
 ·subst h0;have e:bs (Lib.itoa 0)=⟨#[48]⟩:=by simp[bs,Lib.itoa,Lib.decDigits]
  rw[e];refine ye1 func160 ntmps160 fun _ _ _=>?_
  exact Ok
 ·have g0:(n==0)=false:=by simpa using h0
  have hdd:(dd n.natAbs).length≤20:=cb5 Oa;have he:dd n.natAbs=Lib.decDigits n.natAbs:=by unfold dd;rw[if_neg Oa]
  refine ye1 func160 ntmps160 fun _ _ _=>?_
  repeat'(refine yz ?_)
  refine ac7 (α:=ST n) (fun p=>⟨[(0,.d (.int n)),(3,.d (.str (bs p.s))),(4,.d (.int p.m))],[]⟩) (fun p=>p.m.natAbs) ⟨n,[],fq7 _,by simp⟩ (zle 0) ?_;rintro⟨m,s,hm,hs⟩;dsimp only
  by_cases hz:m=0
  ·subst hz;have g1:((0:Int) !=0)=false:=rfl;have hs':s=Lib.decDigits n.natAbs:=by rw[←he,hs];rfl
   by_cases hneg:n<0
   ·have g2:decide (n<0)=true:=by simpa using hneg
    have e:bs (Lib.itoa n)=⟨#[45]⟩++bs s:=by
     show _=bs [45]++bs s;rw[ca9,Lib.itoa,if_pos hneg,hs'];rfl
    rw[e];have hsz:(bs s).size≤20:=by rw[cb1,hs',←he];exact hdd
    have hone:(⟨#[45]⟩:ByteArray).size=1:=rfl
    exact Ok
   ·have g2:decide (n<0)=false:=by simpa using hneg
    have e:bs (Lib.itoa n)=bs s:=by rw[Lib.itoa,if_neg hneg,hs',show n.natAbs=n.toNat by omega]
    rw[e]
    exact Ok
  ·have g1:(m !=0)=true:=by simpa using hz
   have hstep:=cb4 (u:=m.natAbs) Oa
   have hq:(m.tdiv 10).natAbs=m.natAbs/10:=by
    rw[Int.natAbs_tdiv];rfl
   have hr:(m.tmod 10).natAbs=m.natAbs % 10:=by
    rw[Int.natAbs_tmod];rfl
   have hr9: -9≤m.tmod 10∧m.tmod 10≤9:=Oa
   have hlen:s.length≤20:=by
    have:=congrArg List.length hs;rw[fp4]at this;omega
   have hsz:(bs s).size≤20:=by rw[cb1];exact hlen
   have key:∀d:Int,d=(m.tmod 10).natAbs→strOf [48+d]++bs s=bs (UInt8.ofNat (48+m.natAbs % 10)::s)∧(strOf [48+d]).size=1:=by
    intro d hd;refine⟨?_,at0 _⟩;rw[cb3,ca9,show(48+d).toNat=48+m.natAbs % 10 by omega];rfl
   by_cases hneg:m.tmod 10<0
   ·have g2:decide (m.tmod 10<0)=true:=by simpa using hneg
    obtain⟨k1,k2⟩:=key (0-m.tmod 10) Oa
    repeat'(refine yz ?_)
    refine ac1 ?_;rw[k1];exact⟨⟨m.tdiv 10,_,by omega,by rw[hs,hstep,hq,fs0,fy4]⟩,by dsimp only;omega,(zle 0)⟩
   ·have g2:decide (m.tmod 10<0)=false:=by simpa using hneg
    obtain⟨k1,k2⟩:=key (m.tmod 10) Oa
    repeat'(refine yz ?_)
    refine ac1 ?_;rw[k1];exact⟨⟨m.tdiv 10,_,by omega,by rw[hs,hstep,hq,fs0,fy4]⟩,by dsimp only;omega,(zle 0)⟩
def dbl(l:List UInt8):List UInt8:=l.flatMap fun b=>bif b==39 then [39,39]else [b]
theorem cb7:∀l:List UInt8,(dbl l).length≤2*l.length
 |[]=>by simp[dbl]
 |b::r=>by
  have:=cb7 r;have e:dbl (b::r)=(bif b==39 then [39,39]else [b])++dbl r:=rfl;rw[e,fp4,fp5]
  cases b==39<;>simp<;>omega
structure SD1(l:List UInt8) where
 i:Nat
 s:List UInt8
 hi:i≤l.length
 hs:s++dbl (l.drop i)=dbl l
theorem cb8(s:ByteArray)(h:s.size≤1000000000000000000):Ev E 234 [.str s] (.d (.str (bs (dbl s.data.toList)))):=by
 have hl:s.data.toList.length=s.size:=Oc
 have hd2:=cb7 s.data.toList;refine ye1 func234 ntmps234 fun _ _ _=>?_
 repeat'(refine yz ?_)
 refine ac7 (α:=SD1 s.data.toList) (fun p=>⟨[(0,.d (.str s)),(3,.d (.str (bs p.s))),(4,.d (.int p.i))],[]⟩) (fun p=>s.size-p.i) ⟨0,[],by omega,rfl⟩ (zle 0) ?_;rintro⟨i,t,hi,hs⟩;dsimp only
 have htl:t.length≤2*s.size:=by
  have:=congrArg List.length hs;rw[fp4]at this;omega
 have hts:(bs t).size≤2*s.size:=by rw[cb1];exact htl
 rcases fp2 i s.size with hlt|hge
 ·have g1:decide ((i:Int)<(s.size:Int))=true:=by simpa using hlt
  have hx:=fp1 (show i<s.data.toList.length by omega);generalize s.data.toList[i]=b at hx
  have hb1:ag0 s i=(b.toNat:Int):=by
   unfold ag0;rw[fu1,hx];rfl
  have hb:0≤ag0 s (i:Int).toNat∧ag0 s (i:Int).toNat≤255:=by simp only[fr2,hb1];have:=b.toNat_lt;omega
  have hex:s.extract (i:Int).toNat ((i:Int)+1).toNat=bs [b]:=by
   rw[fr2,show((i:Int)+1).toNat=i+1 by omega]
   have:(s.extract i (i+1)).data.toList=[b]:=by
    rw[ByteArray.data_extract,Array.toList_extract];simp only[List.extract_eq_take_drop,Nat.add_sub_cancel_left];rw[bu9 hx];rfl
   rw[←cb0 (s.extract i (i+1)),this]
  have hdrop:=bu9 hx;have e:dbl (b::s.data.toList.drop (i+1))=(bif b==39 then [39,39]else [b])++dbl (s.data.toList.drop (i+1)):=rfl;rw[hdrop,e]at hs;have hone:(bs [b]).size=1:=rfl;have hone':(⟨#[39]⟩:ByteArray).size=1:=rfl;have k0:bs t++s.extract (i:Int).toNat ((i:Int)+1).toNat=bs (t++ [b]):=by rw[hex,ca9]
  have k1:(s.extract (i:Int).toNat ((i:Int)+1).toNat).size=1:=by rw[hex];rfl
  cases hq:b==39 with
  |true=>
   have g2:(ag0 s (i:Int).toNat==39)=true:=by
    simp only[fr2,hb1];rw[beq_iff_eq.1 hq];rfl
   rw[hq]at hs;have k3:(bs t++s.extract (i:Int).toNat ((i:Int)+1).toNat).size=t.length+1:=by rw[k0,cb1,fp4];rfl
   repeat'(first|refine yz ?_|(refine qS rfl ⟨⟨by omega,by omega,by omega⟩,trivial⟩ ?_))
   refine ac1 ?_
   have k2:bs t++s.extract (i:Int).toNat ((i:Int)+1).toNat++⟨#[39]⟩=bs (t++ [39,39]):=by
    rw[k0];show bs (t++ [b])++bs [39]=_;rw[ca9,beq_iff_eq.1 hq,fs0];rfl
   rw[k2];exact⟨⟨i+1,t++ [39,39],by omega,by rw[fs0];exact hs⟩,by dsimp only;omega,(zle 0)⟩
  |false=>
   have g2:(ag0 s (i:Int).toNat==39)=false:=by
    simp only[fr2,hb1];rw[beq_eq_false_iff_ne]at hq ⊢;intro hc;apply hq;have:b.toNat=39:=Oa
    exact UInt8.toNat_inj.1 this
   rw[hq]at hs
   repeat'(first|refine yz ?_|(refine qS rfl ⟨⟨by omega,by omega,by omega⟩,trivial⟩ ?_))
   refine ac1 ?_;rw[k0];exact⟨⟨i+1,t++ [b],by omega,by rw[fs0];exact hs⟩,by dsimp only;omega,(zle 0)⟩
 ·have g1:decide ((i:Int)<(s.size:Int))=false:=by simp;omega
  have:s.data.toList.drop i=[]:=fp8 Oa;rw[this]at hs;have hs':t=dbl s.data.toList:=by rw[←hs];simp[dbl]
  rw[←hs']
  exact Ok
theorem cb9:∀l:List UInt8,Lib.replaceK [39] [39,39] (Lib.count l [39]) l=dbl l
 |[]=>rfl
 |b::l=>by
  have ih:=cb9 l
  by_cases hb:b=39
  ·subst hb;have hidx:Lib.index (39::l) [39]=((0:Nat):Int):=rfl;rw[Lib.count_cons_eq,Nat.add_comm,Lib.replaceK_hit _ _ _ _ _ hidx];show []++ [39,39]++Lib.replaceK [39] [39,39] (Lib.count l [39]) l=_;rw[ih];rfl
  ·have e:dbl (b::l)=b::dbl l:=by
    show(bif b==39 then [39,39]else [b])++dbl l=_;rw[beq_eq_false_iff_ne.2 hb];rfl
   rw[Lib.count_cons_ne b 39 l hb,e]
   cases hc:Lib.count l [39]with
   |zero=>
    rw[hc]at ih;have:l=dbl l:=ih;show b::l=b::dbl l;rw[←this]
   |succ k=>
    obtain⟨i,hi⟩:=Lib.index_of_count (s:=l) (old:=[39]) Oa
    have hidx:Lib.index (b::l) [39]=((i+1:Nat):Int):=by
     have hp:([39]:List UInt8).isPrefixOf (b::l)=false:=by
      simp[List.isPrefixOf];exact fun h=>hb h.symm
     rw[Lib.index,hp,hi];have:((i:Int)== -1)=false:=Oc
     rw[this];rfl
    rw[hc,Lib.replaceK_hit _ _ _ _ _ hi]at ih;rw[Lib.replaceK_hit _ _ _ _ _ hidx,←ih];simp only[List.take_succ_cons,fp5,fq0,fs9];rw[show i+1+(0+1)=(i+(0+1))+1 by omega,List.drop_succ_cons]
theorem cc0(l:List UInt8):Lib.replaceAll l [39] [39,39]=dbl l:=by
 rw[Lib.replaceAll,Lib.replace,if_neg Od,Lib.replaceNum,if_pos (.inl Oa)];exact cb9 l
theorem cc1{f:FuncId}{a b c r:Value}(hok:Go.Abs.okV r=true)(h:∀(w:World) (F:Nat→Prop),E.GI w F→Go.Abs.okV a=true→Go.Abs.okV b=true→Go.Abs.okV c=true→Calls E.P f #[a,b,c] w fun e w'=>e=.returned r∧Below w.heap.size w w'):Ev E f [.imm a,.imm b,.imm c] (.d (.imm r)):=by
 refine bw7 hok fun w F vs hG hl hr=>?_
 match vs,hl with
 |[v,u,t],_=>
  obtain⟨rfl,hk⟩:=Rd.imm_inv (hr 0 _ v rfl rfl);obtain⟨rfl,hk'⟩:=Rd.imm_inv (hr 1 _ u rfl rfl);obtain⟨rfl,hk''⟩:=Rd.imm_inv (hr 2 _ t rfl rfl);exact h w F hG hk hk' hk''
theorem cc2(s:ByteArray)(hs:s.size≤1000000000):Ev E 227 [.str s,.str ⟨#[39]⟩,.str ⟨#[39,39]⟩] (.d (.str (bs (dbl s.data.toList)))):=by
 have hl:s.data.toList.length=s.size:=Oc
 have hd2:=cb7 s.data.toList;refine cc1 ?_ fun w F hG _ _ _=>?_
 ·simp only[Go.Abs.okV,decide_eq_true_eq,cb1,maxLen];omega
 ·obtain⟨-,-,m,hm⟩:=hG.2;have hcnt:=Lib.countB_mul_le ⟨#[39]⟩ Od s.size s (fq7 _);have h1:(⟨#[39]⟩:ByteArray).size=1:=rfl;have h2:(⟨#[39,39]⟩:ByteArray).size=2:=rfl;rw[h1,Nat.mul_one]at hcnt;refine(Tryz.strings_ReplaceAll s ⟨#[39]⟩ ⟨#[39,39]⟩ m w Oa hm Od (by rw[h2];omega)).mono ?_;rintro e w' ⟨rfl,hb⟩;refine⟨?_,hb⟩;show Ending.returned (.string (bs (Lib.replaceAll s.data.toList [39] [39,39])))=_;rw[cc0]
def ftxt(n d:Int):List UInt8:=bif bo1 n d then(bif d==1 then Lib.itoa n else Lib.itoa n++ [47]++Lib.itoa d)else []
theorem cc3{n:Int}(h:inR .i64 n):(Lib.itoa n).length≤21:=Lib.itoa_length_le n h.1 h.2
theorem cc4(n d:Int):Ev E 226 [.agg [.int n,.int d]] (.d (.str (bs (ftxt n d)))):=Ev.fit fun hfit=>by
 have hn:=cc3 ((hfit _ (fz5)).aggs (.int n) Oc).int;have hd:=cc3 ((hfit _ (fz5)).aggs (.int d) Oc).int;have hv:=bt5 n d;unfold ftxt
 cases hf:bo1 n d with
 |false=>
  rw[hf]at hv;show Ev E _ _ (.d (.str ⟨#[]⟩));refine ye1 func226 ntmps226 fun _ _ _=>?_
  repeat'(first|refine yz ?_|refine yp b284 hv ?_|exact zD)
 |true=>
  rw[hf]at hv
  cases h1:d==1 with
  |true=>
   refine ye1 func226 ntmps226 fun _ _ _=>?_
   repeat'(first|refine yz ?_|refine yp b284 hv ?_|refine yp bq3 (bx0 n) ?_|exact zD)
  |false=>
   have e:bs (Lib.itoa n++ [47]++Lib.itoa d)=⟨(Lib.itoa n).toArray⟩++⟨#[47]⟩++⟨(Lib.itoa d).toArray⟩:=by
    rw[←ca9,←ca9];rfl
   simp only[cond_true,cond_false];rw[e];have z1:(⟨(Lib.itoa n).toArray⟩:ByteArray).size≤21:=by show(bs (Lib.itoa n)).size≤21;rw[cb1];exact hn
   have z2:(⟨(Lib.itoa d).toArray⟩:ByteArray).size≤21:=by show(bs (Lib.itoa d)).size≤21;rw[cb1];exact hd
   have z3:(⟨#[47]⟩:ByteArray).size=1:=rfl;refine ye1 func226 ntmps226 fun _ _ _=>?_
   repeat'(first|refine yz ?_|refine yp b284 hv ?_|refine qP (d:=16) rfl rfl rfl rfl rfl rfl bq3 (bx0 n) ?_|refine yp bq3 (bx0 d) ?_|exact zD)
end Go.Proofs.YtndgolmgaenlfaaGreatDoor
namespace Go.Proofs.YtndgolmgaenlfaaGreatDoor
set_option maxRecDepth 4000
open Go Go.Abs Go.Val Go.RowKit Go.Proofs.Tryz
mutual
def txt:V→List UInt8
 |.mk k n d s l=>
  bif !(Val.okV (.mk k n d s l))then [63]else
  bif k==1 then(bif n==1 then [116,114,117,101]else [102,97,108,115,101])else
  bif k==2 then Lib.itoa n else
  bif k==3 then Lib.itoa n++ [47]++Lib.itoa d else
  bif k==4 then [39]++dbl s.data.toList++ [39]else
  bif k==5 then [35]++Lib.itoa n else
  bif k==6 then [64]++Lib.itoa n else
  bif k==8 then [91]++Lib.join (cc5 l) [44,32]++ [93]else
  bif k==7 then [60]++Lib.join (cc5 l) [32]++ [62]else [110,117,108,108]
def cc5:List V→List (List UInt8)
 |[]=>[]
 |v::r=>txt v::cc5 r
end
theorem cc6(l:List V):cc5 l=l.map txt:=by
 induction l with
 |nil=>simp[cc5]
 |cons v r ih=>simp[cc5,ih]
theorem cc7(sep:List UInt8):∀(xs:List (List UInt8)) (x:List UInt8),x∈xs→x.length≤(Lib.join xs sep).length
 |[],x,h=>by simp at h
 |a::r,x,h=>by
  rw[Lib.join_cons,fp4];rcases fq1.1 h with e|e
  ·rw[e];omega
  ·have:x.length≤(Lib.joinTail sep r).length:=by
    clear h
    induction r with
    |nil=>simp at e
    |cons b q ih=>
     have hc:Lib.joinTail sep (b::q)=(sep++b)++Lib.joinTail sep q:=rfl;rw[hc,fp4,fp4];rcases fq1.1 e with e'|e'
     ·rw[e'];omega
     ·have:=ih e';omega
   omega
theorem cc8{v:V}(h:Val.okV v=true):v.k=0∨v.k=1∨v.k=2∨v.k=3∨v.k=4∨v.k=5∨v.k=6∨v.k=7∨v.k=8:=by
 unfold Val.okV at h;simp only[okN,bo5,ft0,fq9,beq_iff_eq]at h;omega
theorem okV_3{n d:Int}{s:ByteArray}{l:List V}(h:Val.okV (.mk 3 n d s l)=true):d≥2∧bo1 n d=true:=by
 unfold Val.okV at h;rw[bv4 8 3 n d s l Oa Oa]at h;simp[bo5,V.k,V.n,V.d,V.s,V.l]at h;exact⟨h.2.1,h.2.2⟩
theorem cc9{n d:Int}{s:ByteArray}{l:List V}(h:Val.okV (.mk 4 n d s l)=true):s.size≤100:=by
 unfold Val.okV at h;rw[bv4 8 4 n d s l Oa Oa]at h;simp[bo5,V.k,V.n,V.d,V.s,V.l,bo4]at h;exact of_decide_eq_true h.2.2.2
theorem okV_7{n d:Int}{s:ByteArray}{l:List V}(h:Val.okV (.mk 7 n d s l)=true):l.length≤25:=by
 unfold Val.okV at h;rw[bv5]at h;simp only[bo8,fq9,decide_eq_true_eq]at h;omega
theorem okV_8{n d:Int}{s:ByteArray}{l:List V}(h:Val.okV (.mk 8 n d s l)=true):l.length≤64:=by
 unfold Val.okV at h;rw[bv7 7]at h;simp only[fq9,decide_eq_true_eq]at h;omega
structure SJ(xs:List (List UInt8))(sep:List UInt8) where
 i:Nat
 s:List UInt8
 hi:i≤xs.length
 h0:i=0→s=[]
 h1:i≠0→s++Lib.joinTail sep (xs.drop i)=Lib.join xs sep
theorem cd0{xs:List (List UInt8)}{sep x:List UInt8}{i:Nat}(h:xs[i]? =some x):Lib.joinTail sep (xs.drop i)=sep++x++Lib.joinTail sep (xs.drop (i+1)):=by
 rw[bu9 h];rfl
theorem cd1(xs:List ByteArray)(sep:ByteArray)(hN:xs.length≤140737488355328)(hlen:(Lib.join (xs.map (·.data.toList)) sep.data.toList).length≤140737488355328):Ev E 84 [.sl (xs.map .str),.str sep] (.d (.str (bs (Lib.join (xs.map (·.data.toList)) sep.data.toList)))):=by
 intro w F vs hF hG hl hr
 match vs,hl with
 |[v,u],_=>
  have h0:=hr 0 _ v rfl rfl;obtain⟨rfl,-⟩:=Rd.imm_inv (hr 1 _ u rfl rfl)
  have hok:Go.Abs.okV (.string (bs (Lib.join (xs.map (·.data.toList)) sep.data.toList)))=true:=by
   simp only[Go.Abs.okV,decide_eq_true_eq,cb1,maxLen];omega
  have hnone:∀(a:Option Addr) (c:Nat),v=.slice a 0 c→xs=[]→Calls E.P 84 #[v,.string sep] w fun e w'=>∃v F',e=.returned v∧Ext w F w' F'∧RdX w' F' [] (.d (.str (bs (Lib.join (xs.map (·.data.toList)) sep.data.toList)))) v:=by
   rintro a c rfl rfl;refine(Tryz.strings_Join_none a c sep w).mono ?_;rintro e w' ⟨rfl,rfl⟩;exact⟨_,F,rfl,Ext.refl hF,Rd.imm _ hok⟩
  rcases Rd.sl_inv h0 with⟨hx,rfl⟩|⟨size,ad,cap,rfl,h1,h2,h3,h4,h5,h6⟩
  ·exact hnone none 0 rfl (by simpa using hx)
  ·by_cases hx:xs=[]
   ·exact hnone _ _ (by rw[hx];rfl) hx
   ·have hlen':(xs.map D.str).length=xs.length:=by simp
    have hcell:∀(j:Nat) x,xs[j]? =some x→w.cell? (ad.add j)=some (.string x):=by
     intro j x hj;have hj':(xs.map D.str)[j]? =some (.str x):=by rw[fp9,hj];rfl
     have hs1:size=1:=(h4 _ (fp3 hj')).symm;obtain⟨q,e1,e2⟩:=h6 j _ 0 _ hj' rfl;obtain⟨rfl,-⟩:=Rd.imm_inv e2;rw[hs1,Nat.mul_one,ft6]at e1;exact e1
    obtain⟨bk,o,sp⟩:=ad
    have hsp:sp=none:=by
     obtain⟨x0,hx0⟩:∃x,xs[0]? =some x:=⟨xs[0]'(fy9.2 hx),fp1 _⟩;have:=hcell 0 x0 hx0
     cases sp with
     |none=>rfl
     |some q=>
      have e:(⟨bk,o,some q⟩:Addr).add 0=⟨bk,o,some q⟩:=by simp[Addr.add]
      rw[e]at this;unfold World.cell? at this;simp only[Option.isSome_some,if_true]at this;split at this<;>cases this
    subst hsp;rw[hlen']at h1 ⊢;have hbk:bk<w.heap.size:=hF _ (h3 (by simpa using hx));refine(Tryz.strings_Join bk o cap xs sep w (fun j x hj=>by rw[←aa2];exact hcell j x hj) hbk hN h1 hlen).mono ?_;rintro e w' ⟨rfl,hb⟩;exact⟨_,F,rfl,Ext.of_below hb hF,Rd.imm _ hok⟩
end Go.Proofs.YtndgolmgaenlfaaGreatDoor
namespace Go.Proofs.YtndgolmgaenlfaaGreatDoor
open Go Go.Abs Go.Val Go.RowKit Go.Proofs.Tryz
attribute [local irreducible] go SGo an1 Ev au8
theorem cd2(l:List V)(sep:List UInt8)(hT:∀x∈l,Ev E 161 [enc x] (.d (.str (bs (txt x)))))(hlen:(Lib.join (l.map txt) sep).length≤1099511627776)(hsep:sep.length≤2):
  Ev E 235 [.sl (bn1 l),.str (bs sep)] (.d (.str (bs (Lib.join (l.map txt) sep)))):=Ev.fit fun hfit=>by
 obtain⟨hmax,-⟩:=bn8 (hfit (.sl (bn1 l)) Oc);have hle:(bn1 l).length=l.length:=bn6 l;have hml:(l.map txt).length=l.length:=Oc
 refine ye2 func235 ntmps235 fun _ _ _=>?_
 repeat'(refine yz ?_)
 refine ac7 (α:=SJ (l.map txt) sep) (fun p=>⟨[(0,.d (.sl (bn1 l))),(1,.d (.str (bs sep))),(5,.d (.str (bs p.s))),(6,.d (.int p.i))],[]⟩) (fun p=>l.length-p.i) ⟨0,[],by omega,fun _=>rfl,fun h=>absurd rfl h⟩ (zle 0) ?_;rintro⟨i,s,hi,h0,h1⟩;dsimp only;have hss:(bs sep).size≤2:=by rw[cb1];exact hsep
 rcases fp2 i l.length with hlt|hge
 ·have g1:decide ((i:Int)<((bn1 l).length:Int))=true:=by rw[hle];simpa using hlt
  have hx0:=fp1 hlt;generalize l[i]=x at hx0;have hx:(bn1 l)[(i:Int).toNat]? =some (enc x):=bn4 (by rw[fr2];exact hx0);have hm:(l.map txt)[i]? =some (txt x):=by rw[fp9,hx0];rfl
  have ht:=hT x (fp3 hx0)
  by_cases hi0:i=0
  ·subst hi0;have hs0:=h0 rfl;subst hs0;have g2:decide (((0:Nat):Int)>0)=false:=rfl;have hl2:(txt x).length≤1099511627776:=fs8 (cc7 sep _ _ (fp3 hm)) hlen;have z1:(bs (txt x)).size≤1099511627776:=by rw[cb1];exact hl2
   have z2:(bs []).size=0:=rfl
   repeat'(first|refine yz ?_|refine yi (enc x) hx ?_|refine yp bq5 ht ?_)
   refine ac1 ?_;rw[ca9];exact⟨⟨1,[]++txt x,by omega,fun h=>by omega,fun _=>by have:=bu9 hm;rw[fu8]at this;rw[fr8];conv=>rhs;rw[this,Lib.join_cons]⟩,by dsimp only;omega,(zle 0)⟩
  ·have g2:decide ((i:Int)>0)=true:=by simp;omega
   have h1':=h1 hi0;rw[cd0 hm]at h1'
   have hll:s.length+(sep.length+(txt x).length)≤1099511627776:=by
    have:=congrArg List.length h1';simp only[fp4]at this;omega
   have z1:(bs (txt x)).size=(txt x).length:=cb1 _;have z2:(bs s).size=s.length:=cb1 _;have z3:(bs sep).size=sep.length:=cb1 _
   repeat'(first|refine yz ?_|refine yi (enc x) hx ?_|refine yp bq5 ht ?_)
   refine ac1 ?_;rw[ca9,ca9];exact⟨⟨i+1,s++sep++txt x,by omega,fun h=>by omega,fun _=>by rw[←h1'];simp only[fs0]⟩,by dsimp only;omega,(zle 0)⟩
 ·have g1:decide ((i:Int)<((bn1 l).length:Int))=false:=by rw[hle];simp;omega
  have e:Lib.join (l.map txt) sep=s:=by
   by_cases hi0:i=0
   ·have:l=[]:=fx3 Oa;rw[this,h0 hi0];rfl
   ·rw[←h1 hi0,fp8 Oa];simp[Lib.joinTail]
  rw[e]
  exact Ok
theorem cd3(v:V):(txt v).length≤1099511627776→Ev E 161 [enc v] (.d (.str (bs (txt v)))):=by
 refine vind (P:=fun v=>(txt v).length≤1099511627776→Ev E 161 [enc v] (.d (.str (bs (txt v))))) (fun k n d s l ih hlen=>Ev.fit fun hfit=>?_) v;obtain⟨-,hn,hd,-,-,-⟩:=bn7 (hfit (enc (.mk k n d s l)) Oc);have hv:=bw3 (.mk k n d s l)
 cases hok:Val.okV (.mk k n d s l)with
 |false=>
  rw[hok]at hv;have e:txt (.mk k n d s l)=[63]:=by simp only[txt,hok];rfl
  rw[e];show Ev E _ _ (.d (.str ⟨#[63]⟩));refine ye1 func161 ntmps161 fun _ _ _=>?_
  repeat'(first|refine yz ?_|refine yp b99 hv ?_|exact zD)
 |true=>
  rw[hok]at hv;have ln:=cc3 hn;have ld:=cc3 hd;have zn:(bs (Lib.itoa n)).size≤21:=by rw[cb1];exact ln
  have zd:(bs (Lib.itoa d)).size≤21:=by rw[cb1];exact ld
  have o1:(⟨#[47]⟩:ByteArray).size=1:=rfl;have o2:(⟨#[39]⟩:ByteArray).size=1:=rfl;have o3:(⟨#[35]⟩:ByteArray).size=1:=rfl;have o4:(⟨#[64]⟩:ByteArray).size=1:=rfl;have o5:(⟨#[91]⟩:ByteArray).size=1:=rfl;have o6:(⟨#[93]⟩:ByteArray).size=1:=rfl;have o7:(⟨#[60]⟩:ByteArray).size=1:=rfl;have o8:(⟨#[62]⟩:ByteArray).size=1:=rfl;have hk:=cc8 hok;simp only[V.k]at hk;have tn:=cb6 n;have td:=cb6 d;rcases hk with rfl|rfl|rfl|rfl|rfl|rfl|rfl|rfl|rfl
  ·have e:txt (.mk 0 n d s l)=[110,117,108,108]:=by simp only[txt,hok];rfl
   rw[e];show Ev E _ _ (.d (.str ⟨#[110,117,108,108]⟩));refine ye1 func161 ntmps161 fun _ _ _=>?_
   repeat'(first|refine yz ?_|refine yp b99 hv ?_|exact zD)
  ·have e:txt (.mk 1 n d s l)=(bif n==1 then [116,114,117,101]else [102,97,108,115,101]):=by simp only[txt,hok];rfl
   rw[e]
   cases h1:n==1 with
   |true=>
    show Ev E _ _ (.d (.str ⟨#[116,114,117,101]⟩));refine ye1 func161 ntmps161 fun _ _ _=>?_
    repeat'(first|refine yz ?_|refine yp b99 hv ?_|exact zD)
   |false=>
    show Ev E _ _ (.d (.str ⟨#[102,97,108,115,101]⟩));refine ye1 func161 ntmps161 fun _ _ _=>?_
    repeat'(first|refine yz ?_|refine yp b99 hv ?_|exact zD)
  ·have e:txt (.mk 2 n d s l)=Lib.itoa n:=by simp only[txt,hok];rfl
   rw[e];refine ye1 func161 ntmps161 fun _ _ _=>?_
   repeat'(first|refine yz ?_|refine yp b99 hv ?_|refine yp bq4 tn ?_|exact zD)
  ·have e:bs (txt (.mk 3 n d s l))=bs (Lib.itoa n)++⟨#[47]⟩++bs (Lib.itoa d):=by
    show _=bs (Lib.itoa n)++bs [47]++bs (Lib.itoa d);rw[ca9,ca9];simp only[txt,hok];rfl
   rw[e];refine ye1 func161 ntmps161 fun _ _ _=>?_
   repeat'(first|refine yz ?_|refine yp b99 hv ?_|refine qP (d:=22) rfl rfl rfl rfl rfl rfl bq4 (tn) ?_|refine yp bq4 td ?_|exact zD)
  ·have e:bs (txt (.mk 4 n d s l))=⟨#[39]⟩++bs (dbl s.data.toList)++⟨#[39]⟩:=by
    show _=bs [39]++bs (dbl s.data.toList)++bs [39];rw[ca9,ca9];simp only[txt,hok];rfl
   rw[e];have h4:=cc9 hok;have hdb:=cb8 s Oa;have hl2:=cb7 s.data.toList;have hsl:s.data.toList.length=s.size:=Oc
   have zs:(bs (dbl s.data.toList)).size≤200:=by rw[cb1];omega
   refine ye1 func161 ntmps161 fun _ _ _=>?_
   repeat'(first|refine yz ?_|refine yp b99 hv ?_|refine yp b234 hdb ?_|exact zD)
  ·have e:bs (txt (.mk 5 n d s l))=⟨#[35]⟩++bs (Lib.itoa n):=by
    show _=bs [35]++bs (Lib.itoa n);rw[ca9];simp only[txt,hok];rfl
   rw[e];refine ye1 func161 ntmps161 fun _ _ _=>?_
   repeat'(first|refine yz ?_|refine yp b99 hv ?_|refine yp bq4 tn ?_|exact zD)
  ·have e:bs (txt (.mk 6 n d s l))=⟨#[64]⟩++bs (Lib.itoa n):=by
    show _=bs [64]++bs (Lib.itoa n);rw[ca9];simp only[txt,hok];rfl
   rw[e];refine ye1 func161 ntmps161 fun _ _ _=>?_
   repeat'(first|refine yz ?_|refine yp b99 hv ?_|refine yp bq4 tn ?_|exact zD)
  ·have e0:txt (.mk 7 n d s l)=[60]++Lib.join (l.map txt) [32]++ [62]:=by simp only[txt,hok,cc6];rfl
   have e:bs (txt (.mk 7 n d s l))=⟨#[60]⟩++bs (Lib.join (l.map txt) [32])++⟨#[62]⟩:=by
    show _=bs [60]++bs (Lib.join (l.map txt) [32])++bs [62];rw[ca9,ca9,e0]
   rw[e]
   have hjl:(Lib.join (l.map txt) [32]).length≤1099511627776:=by
    rw[e0,fp4,fp4]at hlen;omega
   have hj:=cd2 l [32] (fun x hx=>ih x hx (fs8 (cc7 [32] _ _ (fs7 hx)) hjl)) hjl Oc;have zj:(bs (Lib.join (l.map txt) [32])).size≤1099511627776:=by rw[cb1];exact hjl
   refine ye1 func161 ntmps161 fun _ _ _=>?_
   repeat'(first|refine yz ?_|refine yp b99 hv ?_|refine yp b235 hj ?_|exact zD)
  ·have e0:txt (.mk 8 n d s l)=[91]++Lib.join (l.map txt) [44,32]++ [93]:=by simp only[txt,hok,cc6];rfl
   have e:bs (txt (.mk 8 n d s l))=⟨#[91]⟩++bs (Lib.join (l.map txt) [44,32])++⟨#[93]⟩:=by
    show _=bs [91]++bs (Lib.join (l.map txt) [44,32])++bs [93];rw[ca9,ca9,e0]
   rw[e]
   have hjl:(Lib.join (l.map txt) [44,32]).length≤1099511627776:=by
    rw[e0,fp4,fp4]at hlen;omega
   have hj:=cd2 l [44,32] (fun x hx=>ih x hx (fs8 (cc7 [44,32] _ _ (fs7 hx)) hjl)) hjl Oc;have zj:(bs (Lib.join (l.map txt) [44,32])).size≤1099511627776:=by rw[cb1];exact hjl
   refine ye1 func161 ntmps161 fun _ _ _=>?_
   repeat'(first|refine yz ?_|refine yp b99 hv ?_|refine yp b235 hj ?_|exact zD)
set_option maxRecDepth 4000
def cd4(xs:List (List UInt8)):List D:=xs.map fun t=>.str (bs t)
structure STx(l:List V) where
 i:Nat
 hi:i≤l.length
theorem cd5{l:List V}{i:Nat}{x:V}(h:l[i]? =some x):cd4 ((l.take (i+1)).map txt)=cd4 ((l.take i).map txt)++ [.str (bs (txt x))]:=by
 have hi:=(fp7.1 h).1;rw[fz3 hi];rw[fp1 hi]at h
 cases h
 simp only[cd4,fu3,fs1,fv9]
theorem texts_ev(l:List V)(sep:List UInt8)(hT:∀x∈l,Ev E 152 [enc x] (.d (.str (bs (txt x)))))(hn:l.length≤1000000)(hlen:(Lib.join (l.map txt) sep).length≤1099511627776):
  Ev E 228 [.sl (bn1 l),.str (bs sep)] (.d (.str (bs (Lib.join (l.map txt) sep)))):=by
 have hle:(bn1 l).length=l.length:=bn6 l;have e1:(l.map fun x=>bs (txt x)).map D.str=cd4 (l.map txt):=by simp[cd4]
 have e2:(l.map fun x=>bs (txt x)).map (·.data.toList)=l.map txt:=by simp[cb2]
 have hj:=cd1 (l.map fun x=>bs (txt x)) (bs sep) Og (by rw[e2,cb2];omega);rw[e1,e2,cb2]at hj;refine ye2 func228 ntmps228 fun _ _ _=>?_
 repeat'(refine yz ?_)
 refine ac7 (α:=STx l) (fun p=>⟨[(1,.d (.str (bs sep))),(5,aw6 (cd4 ((l.take p.i).map txt))),(8,.d (.sl (bn1 l))),(9,.d (.int (bn1 l).length)),(10,.d (.int p.i))],aw7 9 1 (cd4 ((l.take p.i).map txt))⟩) (fun p=>l.length-p.i) ⟨0,by omega⟩ (by rw[fu6];exact(zle 0)) ?_;rintro⟨i,hi⟩;dsimp only;rcases fp2 i l.length with hlt|hge
 ·have g1:decide ((i:Int)<((bn1 l).length:Int))=true:=by rw[hle];simpa using hlt
  have hx0:=fp1 hlt;generalize l[i]=x at hx0;have hx:(bn1 l)[(i:Int).toNat]? =some (enc x):=bn4 (by rw[fr2];exact hx0);have ht:=hT x (fp3 hx0);have hta:=cd5 hx0;have hll:(cd4 ((l.take i).map txt)).length≤i:=by simp[cd4];omega
  generalize cd4 ((l.take i).map txt)=out at*
  match out,hll with
  |[],hll=>
   dsimp only[aw6,aw7]
   repeat'(first|refine yz ?_|refine yi (enc x) hx ?_|refine yp b152 ht ?_|(refine qS rfl ⟨by simp,by simp[D.cells];rfl,by(show(0+1)*16≤140737488355328;omega),by(show 0+1≤9223372036854775807;omega)⟩ ?_))
   refine ac1 ?_;refine⟨⟨i+1,by omega⟩,by dsimp only;omega,?_⟩;dsimp only;rw[hta];exact(bh0 [1])
  |a::q,hll=>
   dsimp only[aw6,aw7]
   repeat'(first|refine yz ?_|refine yi (enc x) hx ?_|refine yp b152 ht ?_|(refine qS rfl ⟨by simp,by simp[D.cells];rfl,by(show((a::q).length+1)*16≤140737488355328;omega),by(show(a::q).length+1≤9223372036854775807;omega)⟩ ?_))
   refine ac1 ?_;refine⟨⟨i+1,by omega⟩,by dsimp only;omega,?_⟩;dsimp only;rw[hta];exact(bh0 [2])
 ·have g1:decide ((i:Int)<((bn1 l).length:Int))=false:=by rw[hle];simp;omega
  rw[fq6 hge];generalize cd4 (l.map txt)=out at*
  match out,hj with
  |[],hj=>
   dsimp only[aw6,aw7]
   repeat'(first|refine yz ?_|refine yp b84 hj ?_|exact zD)
  |a::q,hj=>
   dsimp only[aw6,aw7];refine qA ?_;refine au2 0 rfl ?_
   repeat'(first|refine yz ?_|refine yp b84 hj ?_|exact zD)
theorem cd6(v:V):(txt v).length≤1099511627776→Ev E 152 [enc v] (.d (.str (bs (txt v)))):=by
 refine vind (P:=fun v=>(txt v).length≤1099511627776→Ev E 152 [enc v] (.d (.str (bs (txt v))))) (fun k n d s l ih hlen=>Ev.fit fun hfit=>?_) v;obtain⟨-,hn,hd,-,-,-⟩:=bn7 (hfit (enc (.mk k n d s l)) Oc);have hv:=bw2 bx8 (.mk k n d s l)
 cases hok:Val.okV (.mk k n d s l)with
 |false=>
  rw[hok]at hv;have e:txt (.mk k n d s l)=[63]:=by simp only[txt,hok];rfl
  rw[e];show Ev E _ _ (.d (.str ⟨#[63]⟩));refine ye1 func152 ntmps152 fun _ _ _=>?_
  repeat'(first|refine yz ?_|refine yp br5 hv ?_|exact zD)
 |true=>
  rw[hok]at hv;have ln:=cc3 hn;have ld:=cc3 hd;have zn:(bs (Lib.itoa n)).size≤21:=by rw[cb1];exact ln
  have zn':(⟨(Lib.itoa n).toArray⟩:ByteArray).size≤21:=zn;have o2:(⟨#[39]⟩:ByteArray).size=1:=rfl;have o3:(⟨#[35]⟩:ByteArray).size=1:=rfl;have o4:(⟨#[64]⟩:ByteArray).size=1:=rfl;have o5:(⟨#[91]⟩:ByteArray).size=1:=rfl;have o6:(⟨#[93]⟩:ByteArray).size=1:=rfl;have o7:(⟨#[60]⟩:ByteArray).size=1:=rfl;have o8:(⟨#[62]⟩:ByteArray).size=1:=rfl;have hk:=cc8 hok;simp only[V.k]at hk;have tn:=bx0 n;have td:=bx0 d;rcases hk with rfl|rfl|rfl|rfl|rfl|rfl|rfl|rfl|rfl
  ·have e:txt (.mk 0 n d s l)=[110,117,108,108]:=by simp only[txt,hok];rfl
   rw[e];show Ev E _ _ (.d (.str ⟨#[110,117,108,108]⟩));refine ye1 func152 ntmps152 fun _ _ _=>?_
   repeat'(first|refine yz ?_|refine yp br5 hv ?_|exact zD)
  ·have e:bs (txt (.mk 1 n d s l))=⟨(Lib.formatBool (n==1)).toArray⟩:=by
    have:txt (.mk 1 n d s l)=(bif n==1 then [116,114,117,101]else [102,97,108,115,101]):=by simp only[txt,hok];rfl
    rw[this]
    cases n==1<;>decide
   rw[e];have hb:=bx1 (n==1);refine ye1 func152 ntmps152 fun _ _ _=>?_
   repeat'(first|refine yz ?_|refine yp br5 hv ?_|refine yp b225 hb ?_|exact zD)
  ·have e:txt (.mk 2 n d s l)=Lib.itoa n:=by simp only[txt,hok];rfl
   rw[e];refine ye1 func152 ntmps152 fun _ _ _=>?_
   repeat'(first|refine yz ?_|refine yp br5 hv ?_|refine yp bq3 tn ?_|exact zD)
  ·obtain⟨h2,h3⟩:=okV_3 hok
   have e:txt (.mk 3 n d s l)=ftxt n d:=by
    have hd1:(d==1)=false:=Og
    simp only[txt,hok,ftxt,h3,hd1];rfl
   rw[e];have hf:=cc4 n d;refine ye1 func152 ntmps152 fun _ _ _=>?_
   repeat'(first|refine yz ?_|refine yp br5 hv ?_|refine yp b226 hf ?_|exact zD)
  ·have e:bs (txt (.mk 4 n d s l))=⟨#[39]⟩++bs (dbl s.data.toList)++⟨#[39]⟩:=by
    show _=bs [39]++bs (dbl s.data.toList)++bs [39];rw[ca9,ca9];simp only[txt,hok];rfl
   rw[e];have h4:=cc9 hok;have hdb:=cc2 s Oa;have hl2:=cb7 s.data.toList;have hsl:s.data.toList.length=s.size:=Oc
   have zs:(bs (dbl s.data.toList)).size≤200:=by rw[cb1];omega
   refine ye1 func152 ntmps152 fun _ _ _=>?_
   repeat'(first|refine yz ?_|refine yp br5 hv ?_|refine yp b227 hdb ?_|exact zD)
  ·have e:bs (txt (.mk 5 n d s l))=⟨#[35]⟩++⟨(Lib.itoa n).toArray⟩:=by
    show _=bs [35]++bs (Lib.itoa n);rw[ca9];simp only[txt,hok];rfl
   rw[e];refine ye1 func152 ntmps152 fun _ _ _=>?_
   repeat'(first|refine yz ?_|refine yp br5 hv ?_|refine yp bq3 tn ?_|exact zD)
  ·have e:bs (txt (.mk 6 n d s l))=⟨#[64]⟩++⟨(Lib.itoa n).toArray⟩:=by
    show _=bs [64]++bs (Lib.itoa n);rw[ca9];simp only[txt,hok];rfl
   rw[e];refine ye1 func152 ntmps152 fun _ _ _=>?_
   repeat'(first|refine yz ?_|refine yp br5 hv ?_|refine yp bq3 tn ?_|exact zD)
  ·have e0:txt (.mk 7 n d s l)=[60]++Lib.join (l.map txt) [32]++ [62]:=by simp only[txt,hok,cc6];rfl
   have e:bs (txt (.mk 7 n d s l))=⟨#[60]⟩++bs (Lib.join (l.map txt) [32])++⟨#[62]⟩:=by
    show _=bs [60]++bs (Lib.join (l.map txt) [32])++bs [62];rw[ca9,ca9,e0]
   rw[e]
   have hjl:(Lib.join (l.map txt) [32]).length≤1099511627776:=by
    rw[e0,fp4,fp4]at hlen;omega
   have hj:=texts_ev l [32] (fun x hx=>ih x hx (fs8 (cc7 [32] _ _ (fs7 hx)) hjl)) (by have:=okV_7 hok;omega) hjl;have zj:(bs (Lib.join (l.map txt) [32])).size≤1099511627776:=by rw[cb1];exact hjl
   refine ye1 func152 ntmps152 fun _ _ _=>?_
   repeat'(first|refine yz ?_|refine yp br5 hv ?_|refine yp b228 hj ?_|exact zD)
  ·have e0:txt (.mk 8 n d s l)=[91]++Lib.join (l.map txt) [44,32]++ [93]:=by simp only[txt,hok,cc6];rfl
   have e:bs (txt (.mk 8 n d s l))=⟨#[91]⟩++bs (Lib.join (l.map txt) [44,32])++⟨#[93]⟩:=by
    show _=bs [91]++bs (Lib.join (l.map txt) [44,32])++bs [93];rw[ca9,ca9,e0]
   rw[e]
   have hjl:(Lib.join (l.map txt) [44,32]).length≤1099511627776:=by
    rw[e0,fp4,fp4]at hlen;omega
   have hj:=texts_ev l [44,32] (fun x hx=>ih x hx (fs8 (cc7 [44,32] _ _ (fs7 hx)) hjl)) (by have:=okV_8 hok;omega) hjl;have zj:(bs (Lib.join (l.map txt) [44,32])).size≤1099511627776:=by rw[cb1];exact hjl
   refine ye1 func152 ntmps152 fun _ _ _=>?_
   repeat'(first|refine yz ?_|refine yp br5 hv ?_|refine yp b228 hj ?_|exact zD)
end Go.Proofs.YtndgolmgaenlfaaGreatDoor
