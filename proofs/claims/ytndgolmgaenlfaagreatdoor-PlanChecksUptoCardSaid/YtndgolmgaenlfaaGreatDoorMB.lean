/- The specification's wide numbers: their value, and what times, plus, minus, order and sum come to; The specification's product of wide numbers; The sp. Conditions: each part's own, as it says. -/
import Derived.Test.YtndgolmgaenlfaaGreatDoorGC
import Derived.Test.YtndgolmgaenlfaaGreatDoorMA
import Derived.Test.YtndgolmgaenlfaaGreatDoorGA
import Derived.Test.YtndgolmgaenlfaaGreatDoorGB
import Derived.Shelf.Spec.BitsCarry
import Derived.Lib.ReplaceLaws
import Derived.Lib.Join
set_option linter.unusedVariables false
set_option linter.unusedSimpArgs false
namespace Go.Proofs.YtndgolmgaenlfaaGreatDoor
set_option maxRecDepth 4000
open Go Go.Abs Go.Val Go.Proofs.Tryz
attribute [local irreducible] go SGo an1 Ev
attribute [local irreducible] au8
def sv(neg:Bool)(m:Nat):Int:=bif neg then-(m:Int)else m
end Go.Proofs.YtndgolmgaenlfaaGreatDoor
namespace Go.Proofs.YtndgolmgaenlfaaGreatDoor
set_option maxRecDepth 4000
open Go Go.Abs Go.Val Go.RowKit Go.Proofs.Tryz
def bs(l:List UInt8):ByteArray:=⟨l.toArray⟩
theorem ca4(a b:List UInt8):bs a++bs b=bs (a++b):=by
 apply ByteArray.ext;simp[bs,ByteArray.data_append]
theorem ca5(s:ByteArray):bs s.data.toList=s:=by
 cases s
 simp[bs]
theorem ca6(l:List UInt8):(bs l).size=l.length:=by simp[bs,ByteArray.size]
theorem ca7(l:List UInt8):(bs l).data.toList=l:=by simp[bs]
def dd(u:Nat):List UInt8:=if u=0 then []else Lib.decDigits u
end Go.Proofs.YtndgolmgaenlfaaGreatDoor
namespace Go.Proofs.YtndgolmgaenlfaaGreatDoor
open Go Go.Abs Go.Val Go.RowKit Go.Proofs.Tryz
attribute [local irreducible] go SGo an1 Ev au8
def dbl(l:List UInt8):List UInt8:=l.flatMap fun b=>bif b==39 then [39,39]else [b]
theorem ca8:∀l:List UInt8,(dbl l).length≤2*l.length
 |[]=>by simp[dbl]
 |b::r=>by
  have:=ca8 r;have e:dbl (b::r)=(bif b==39 then [39,39]else [b])++dbl r:=rfl;rw[e,fk1,fk0]
  cases b==39<;>simp<;>omega
theorem ca9:∀l:List UInt8,Lib.replaceK [39] [39,39] (Lib.count l [39]) l=dbl l
 |[]=>rfl
 |b::l=>by
  have ih:=ca9 l
  by_cases hb:b=39
  ·subst hb;have hidx:Lib.index (39::l) [39]=((0:Nat):Int):=rfl;rw[Lib.count_cons_eq,Nat.add_comm,Lib.replaceK_hit _ _ _ _ _ hidx];show []++ [39,39]++Lib.replaceK [39] [39,39] (Lib.count l [39]) l=_;rw[ih];rfl
  ·have e:dbl (b::l)=b::dbl l:=by
    show(bif b==39 then [39,39]else [b])++dbl l=_;rw[beq_eq_false_iff_ne.2 hb];rfl
   rw[Lib.count_cons_ne b 39 l hb,e]
   cases hc:Lib.count l [39]with
   |zero=>
    rw[hc]at ih;have:l=dbl l:=ih;show b::l=b::dbl l;rw[←this]
   |succ k=>
    obtain⟨i,hi⟩:=Lib.index_of_count (s:=l) (old:=[39]) Oa
    have hidx:Lib.index (b::l) [39]=((i+1:Nat):Int):=by
     have hp:([39]:List UInt8).isPrefixOf (b::l)=false:=by
      simp[List.isPrefixOf];exact fun h=>hb h.symm
     rw[Lib.index,hp,hi];have:((i:Int)== -1)=false:=Oc
     rw[this];rfl
    rw[hc,Lib.replaceK_hit _ _ _ _ _ hi]at ih;rw[Lib.replaceK_hit _ _ _ _ _ hidx,←ih];simp only[List.take_succ_cons,fk0,fk4,fn1];rw[show i+1+(0+1)=(i+(0+1))+1 by omega,List.drop_succ_cons]
theorem cb0(l:List UInt8):Lib.replaceAll l [39] [39,39]=dbl l:=by
 rw[Lib.replaceAll,Lib.replace,if_neg Od,Lib.replaceNum,if_pos (.inl Oa)];exact ca9 l
theorem cb1{f:FuncId}{a b c r:Value}(hok:Go.Abs.okV r=true)(h:∀(w:World) (F:Nat→Prop),E.GI w F→Go.Abs.okV a=true→Go.Abs.okV b=true→Go.Abs.okV c=true→Calls E.P f #[a,b,c] w fun e w'=>e=.returned r∧Below w.heap.size w w'):Ev E f [.imm a,.imm b,.imm c] (.d (.imm r)):=by
 refine bw2 hok fun w F vs hG hl hr=>?_
 match vs,hl with
 |[v,u,t],_=>
  obtain⟨rfl,hk⟩:=Rd.imm_inv (hr 0 _ v rfl rfl);obtain⟨rfl,hk'⟩:=Rd.imm_inv (hr 1 _ u rfl rfl);obtain⟨rfl,hk''⟩:=Rd.imm_inv (hr 2 _ t rfl rfl);exact h w F hG hk hk' hk''
theorem cb2(s:ByteArray)(hs:s.size≤1000000000):Ev E 227 [.str s,.str ⟨#[39]⟩,.str ⟨#[39,39]⟩] (.d (.str (bs (dbl s.data.toList)))):=by
 have hl:s.data.toList.length=s.size:=Oc
 have hd2:=ca8 s.data.toList;refine cb1 ?_ fun w F hG _ _ _=>?_
 ·simp only[Go.Abs.okV,decide_eq_true_eq,ca6,maxLen];omega
 ·obtain⟨-,-,m,hm⟩:=hG.2;have hcnt:=Lib.countB_mul_le ⟨#[39]⟩ Od s.size s (fl2 _);have h1:(⟨#[39]⟩:ByteArray).size=1:=rfl;have h2:(⟨#[39,39]⟩:ByteArray).size=2:=rfl;rw[h1,Nat.mul_one]at hcnt;refine(Tryz.strings_ReplaceAll s ⟨#[39]⟩ ⟨#[39,39]⟩ m w Oa hm Od (by rw[h2];omega)).mono ?_;rintro e w' ⟨rfl,hb⟩;refine⟨?_,hb⟩;show Ending.returned (.string (bs (Lib.replaceAll s.data.toList [39] [39,39])))=_;rw[cb0]
def ftxt(n d:Int):List UInt8:=bif bo2 n d then(bif d==1 then Lib.itoa n else Lib.itoa n++ [47]++Lib.itoa d)else []
theorem cb3{n:Int}(h:inR .i64 n):(Lib.itoa n).length≤21:=Lib.itoa_length_le n h.1 h.2
theorem cb4(n d:Int):Ev E 226 [.agg [.int n,.int d]] (.d (.str (bs (ftxt n d)))):=Ev.fit fun hfit=>by
 have hn:=cb3 ((hfit _ (ft8)).aggs (.int n) Oc).int;have hd:=cb3 ((hfit _ (ft8)).aggs (.int d) Oc).int;have hv:=bt1 n d;unfold ftxt
 cases hf:bo2 n d with
 |false=>
  rw[hf]at hv;show Ev E _ _ (.d (.str ⟨#[]⟩));refine ye1 func226 ntmps226 fun _ _ _=>?_
  repeat'(first|refine yz ?_|refine yp b284 hv ?_|exact zD)
 |true=>
  rw[hf]at hv
  cases h1:d==1 with
  |true=>
   refine ye1 func226 ntmps226 fun _ _ _=>?_
   repeat'(first|refine yz ?_|refine yp b284 hv ?_|refine yp bq3 (bw5 n) ?_|exact zD)
  |false=>
   have e:bs (Lib.itoa n++ [47]++Lib.itoa d)=⟨(Lib.itoa n).toArray⟩++⟨#[47]⟩++⟨(Lib.itoa d).toArray⟩:=by
    rw[←ca4,←ca4];rfl
   simp only[cond_true,cond_false];rw[e];have z1:(⟨(Lib.itoa n).toArray⟩:ByteArray).size≤21:=by show(bs (Lib.itoa n)).size≤21;rw[ca6];exact hn
   have z2:(⟨(Lib.itoa d).toArray⟩:ByteArray).size≤21:=by show(bs (Lib.itoa d)).size≤21;rw[ca6];exact hd
   have z3:(⟨#[47]⟩:ByteArray).size=1:=rfl;refine ye1 func226 ntmps226 fun _ _ _=>?_
   repeat'(first|refine yz ?_|refine yp b284 hv ?_|refine qP (d:=16) rfl rfl rfl rfl rfl rfl bq3 (bw5 n) ?_|refine yp bq3 (bw5 d) ?_|exact zD)
end Go.Proofs.YtndgolmgaenlfaaGreatDoor
namespace Go.Proofs.YtndgolmgaenlfaaGreatDoor
set_option maxRecDepth 4000
open Go Go.Abs Go.Val Go.RowKit Go.Proofs.Tryz
mutual
def txt:V→List UInt8
 |.mk k n d s l=>
  bif !(Val.okV (.mk k n d s l))then [63]else
  bif k==1 then(bif n==1 then [116,114,117,101]else [102,97,108,115,101])else
  bif k==2 then Lib.itoa n else
  bif k==3 then Lib.itoa n++ [47]++Lib.itoa d else
  bif k==4 then [39]++dbl s.data.toList++ [39]else
  bif k==5 then [35]++Lib.itoa n else
  bif k==6 then [64]++Lib.itoa n else
  bif k==8 then [91]++Lib.join (cb5 l) [44,32]++ [93]else
  bif k==7 then [60]++Lib.join (cb5 l) [32]++ [62]else [110,117,108,108]
def cb5:List V→List (List UInt8)
 |[]=>[]
 |v::r=>txt v::cb5 r
end
theorem cb6(l:List V):cb5 l=l.map txt:=by
 induction l with
 |nil=>simp[cb5]
 |cons v r ih=>simp[cb5,ih]
theorem cb7(sep:List UInt8):∀(xs:List (List UInt8)) (x:List UInt8),x∈xs→x.length≤(Lib.join xs sep).length
 |[],x,h=>by simp at h
 |a::r,x,h=>by
  rw[Lib.join_cons,fk1];rcases fk7.1 h with e|e
  ·rw[e];omega
  ·have:x.length≤(Lib.joinTail sep r).length:=by
    clear h
    induction r with
    |nil=>simp at e
    |cons b q ih=>
     have hc:Lib.joinTail sep (b::q)=(sep++b)++Lib.joinTail sep q:=rfl;rw[hc,fk1,fk1];rcases fk7.1 e with e'|e'
     ·rw[e'];omega
     ·have:=ih e';omega
   omega
theorem cb8{v:V}(h:Val.okV v=true):v.k=0∨v.k=1∨v.k=2∨v.k=3∨v.k=4∨v.k=5∨v.k=6∨v.k=7∨v.k=8:=by
 unfold Val.okV at h;simp only[okN,bo5,fn3,fl5,beq_iff_eq]at h;omega
theorem okV_3{n d:Int}{s:ByteArray}{l:List V}(h:Val.okV (.mk 3 n d s l)=true):d≥2∧bo2 n d=true:=by
 unfold Val.okV at h;rw[bu9 8 3 n d s l Oa Oa]at h;simp[bo5,V.k,V.n,V.d,V.s,V.l]at h;exact⟨h.2.1,h.2.2⟩
theorem cb9{n d:Int}{s:ByteArray}{l:List V}(h:Val.okV (.mk 4 n d s l)=true):s.size≤100:=by
 unfold Val.okV at h;rw[bu9 8 4 n d s l Oa Oa]at h;simp[bo5,V.k,V.n,V.d,V.s,V.l,bo4]at h;exact of_decide_eq_true h.2.2.2
theorem okV_7{n d:Int}{s:ByteArray}{l:List V}(h:Val.okV (.mk 7 n d s l)=true):l.length≤25:=by
 unfold Val.okV at h;rw[bv0]at h;simp only[bo8,fl5,decide_eq_true_eq]at h;omega
theorem okV_8{n d:Int}{s:ByteArray}{l:List V}(h:Val.okV (.mk 8 n d s l)=true):l.length≤64:=by
 unfold Val.okV at h;rw[bv2 7]at h;simp only[fl5,decide_eq_true_eq]at h;omega
theorem cc0(xs:List ByteArray)(sep:ByteArray)(hN:xs.length≤140737488355328)(hlen:(Lib.join (xs.map (·.data.toList)) sep.data.toList).length≤140737488355328):Ev E 84 [.sl (xs.map .str),.str sep] (.d (.str (bs (Lib.join (xs.map (·.data.toList)) sep.data.toList)))):=by
 intro w F vs hF hG hl hr
 match vs,hl with
 |[v,u],_=>
  have h0:=hr 0 _ v rfl rfl;obtain⟨rfl,-⟩:=Rd.imm_inv (hr 1 _ u rfl rfl)
  have hok:Go.Abs.okV (.string (bs (Lib.join (xs.map (·.data.toList)) sep.data.toList)))=true:=by
   simp only[Go.Abs.okV,decide_eq_true_eq,ca6,maxLen];omega
  have hnone:∀(a:Option Addr) (c:Nat),v=.slice a 0 c→xs=[]→Calls E.P 84 #[v,.string sep] w fun e w'=>∃v F',e=.returned v∧Ext w F w' F'∧RdX w' F' [] (.d (.str (bs (Lib.join (xs.map (·.data.toList)) sep.data.toList)))) v:=by
   rintro a c rfl rfl;refine(Tryz.strings_Join_none a c sep w).mono ?_;rintro e w' ⟨rfl,rfl⟩;exact⟨_,F,rfl,Ext.refl hF,Rd.imm _ hok⟩
  rcases Rd.sl_inv h0 with⟨hx,rfl⟩|⟨size,ad,cap,rfl,h1,h2,h3,h4,h5,h6⟩
  ·exact hnone none 0 rfl (by simpa using hx)
  ·by_cases hx:xs=[]
   ·exact hnone _ _ (by rw[hx];rfl) hx
   ·have hlen':(xs.map D.str).length=xs.length:=by simp
    have hcell:∀(j:Nat) x,xs[j]? =some x→w.cell? (ad.add j)=some (.string x):=by
     intro j x hj;have hj':(xs.map D.str)[j]? =some (.str x):=by rw[fk6,hj];rfl
     have hs1:size=1:=(h4 _ (fj9 hj')).symm;obtain⟨q,e1,e2⟩:=h6 j _ 0 _ hj' rfl;obtain⟨rfl,-⟩:=Rd.imm_inv e2;rw[hs1,Nat.mul_one,fo1]at e1;exact e1
    obtain⟨bk,o,sp⟩:=ad
    have hsp:sp=none:=by
     obtain⟨x0,hx0⟩:∃x,xs[0]? =some x:=⟨xs[0]'(ft2.2 hx),fj7 _⟩;have:=hcell 0 x0 hx0
     cases sp with
     |none=>rfl
     |some q=>
      have e:(⟨bk,o,some q⟩:Addr).add 0=⟨bk,o,some q⟩:=by simp[Addr.add]
      rw[e]at this;unfold World.cell? at this;simp only[Option.isSome_some,if_true]at this;split at this<;>cases this
    subst hsp;rw[hlen']at h1 ⊢;have hbk:bk<w.heap.size:=hF _ (h3 (by simpa using hx));refine(Tryz.strings_Join bk o cap xs sep w (fun j x hj=>by rw[←aa2];exact hcell j x hj) hbk hN h1 hlen).mono ?_;rintro e w' ⟨rfl,hb⟩;exact⟨_,F,rfl,Ext.of_below hb hF,Rd.imm _ hok⟩
end Go.Proofs.YtndgolmgaenlfaaGreatDoor
namespace Go.Proofs.YtndgolmgaenlfaaGreatDoor
open Go Go.Abs Go.Val Go.RowKit Go.Proofs.Tryz
attribute [local irreducible] go SGo an1 Ev au8
set_option maxRecDepth 4000
def cc1(xs:List (List UInt8)):List D:=xs.map fun t=>.str (bs t)
structure STx(l:List V) where
 i:Nat
 hi:i≤l.length
theorem cc2{l:List V}{i:Nat}{x:V}(h:l[i]? =some x):cc1 ((l.take (i+1)).map txt)=cc1 ((l.take i).map txt)++ [.str (bs (txt x))]:=by
 have hi:=(fk2.1 h).1;rw[ft6 hi];rw[fj7 hi]at h
 cases h
 simp only[cc1,fo8,fm5,fr0]
theorem cc3(l:List V)(sep:List UInt8)(hT:∀x∈l,Ev E 152 [enc x] (.d (.str (bs (txt x)))))(hn:l.length≤1000000)(hlen:(Lib.join (l.map txt) sep).length≤1099511627776):
  Ev E 228 [.sl (bn2 l),.str (bs sep)] (.d (.str (bs (Lib.join (l.map txt) sep)))):=by
 have hle:(bn2 l).length=l.length:=bn7 l;have e1:(l.map fun x=>bs (txt x)).map D.str=cc1 (l.map txt):=by simp[cc1]
 have e2:(l.map fun x=>bs (txt x)).map (·.data.toList)=l.map txt:=by simp[ca7]
 have hj:=cc0 (l.map fun x=>bs (txt x)) (bs sep) Og (by rw[e2,ca7];omega);rw[e1,e2,ca7]at hj;refine ye2 func228 ntmps228 fun _ _ _=>?_
 repeat'(refine yz ?_)
 refine ac7 (α:=STx l) (fun p=>⟨[(1,.d (.str (bs sep))),(5,aw6 (cc1 ((l.take p.i).map txt))),(8,.d (.sl (bn2 l))),(9,.d (.int (bn2 l).length)),(10,.d (.int p.i))],aw7 9 1 (cc1 ((l.take p.i).map txt))⟩) (fun p=>l.length-p.i) ⟨0,by omega⟩ (by rw[fp2];exact(zle 0)) ?_;rintro⟨i,hi⟩;dsimp only;rcases fj8 i l.length with hlt|hge
 ·have g1:decide ((i:Int)<((bn2 l).length:Int))=true:=by rw[hle];simpa using hlt
  have hx0:=fj7 hlt;generalize l[i]=x at hx0;have hx:(bn2 l)[(i:Int).toNat]? =some (enc x):=bn5 (by rw[fm2];exact hx0);have ht:=hT x (fj9 hx0);have hta:=cc2 hx0;have hll:(cc1 ((l.take i).map txt)).length≤i:=by simp[cc1];omega
  generalize cc1 ((l.take i).map txt)=out at*
  match out,hll with
  |[],hll=>
   dsimp only[aw6,aw7]
   repeat'(first|refine yz ?_|refine yi (enc x) hx ?_|refine yp b152 ht ?_|(refine qS rfl ⟨by simp,by simp[D.cells];rfl,by(show(0+1)*16≤140737488355328;omega),by(show 0+1≤9223372036854775807;omega)⟩ ?_))
   refine ac1 ?_;refine⟨⟨i+1,by omega⟩,by dsimp only;omega,?_⟩;dsimp only;rw[hta];exact(bh0 [1])
  |a::q,hll=>
   dsimp only[aw6,aw7]
   repeat'(first|refine yz ?_|refine yi (enc x) hx ?_|refine yp b152 ht ?_|(refine qS rfl ⟨by simp,by simp[D.cells];rfl,by(show((a::q).length+1)*16≤140737488355328;omega),by(show(a::q).length+1≤9223372036854775807;omega)⟩ ?_))
   refine ac1 ?_;refine⟨⟨i+1,by omega⟩,by dsimp only;omega,?_⟩;dsimp only;rw[hta];exact(bh0 [2])
 ·have g1:decide ((i:Int)<((bn2 l).length:Int))=false:=by rw[hle];simp;omega
  rw[fl4 hge];generalize cc1 (l.map txt)=out at*
  match out,hj with
  |[],hj=>
   dsimp only[aw6,aw7]
   repeat'(first|refine yz ?_|refine yp b84 hj ?_|exact zD)
  |a::q,hj=>
   dsimp only[aw6,aw7];refine qA ?_;refine au2 0 rfl ?_
   repeat'(first|refine yz ?_|refine yp b84 hj ?_|exact zD)
theorem cc4(v:V):(txt v).length≤1099511627776→Ev E 152 [enc v] (.d (.str (bs (txt v)))):=by
 refine vind (P:=fun v=>(txt v).length≤1099511627776→Ev E 152 [enc v] (.d (.str (bs (txt v))))) (fun k n d s l ih hlen=>Ev.fit fun hfit=>?_) v;obtain⟨-,hn,hd,-,-,-⟩:=bn8 (hfit (enc (.mk k n d s l)) Oc);have hv:=bv7 bx3 (.mk k n d s l)
 cases hok:Val.okV (.mk k n d s l)with
 |false=>
  rw[hok]at hv;have e:txt (.mk k n d s l)=[63]:=by simp only[txt,hok];rfl
  rw[e];show Ev E _ _ (.d (.str ⟨#[63]⟩));refine ye1 func152 ntmps152 fun _ _ _=>?_
  repeat'(first|refine yz ?_|refine yp br3 hv ?_|exact zD)
 |true=>
  rw[hok]at hv;have ln:=cb3 hn;have ld:=cb3 hd;have zn:(bs (Lib.itoa n)).size≤21:=by rw[ca6];exact ln
  have zn':(⟨(Lib.itoa n).toArray⟩:ByteArray).size≤21:=zn;have o2:(⟨#[39]⟩:ByteArray).size=1:=rfl;have o3:(⟨#[35]⟩:ByteArray).size=1:=rfl;have o4:(⟨#[64]⟩:ByteArray).size=1:=rfl;have o5:(⟨#[91]⟩:ByteArray).size=1:=rfl;have o6:(⟨#[93]⟩:ByteArray).size=1:=rfl;have o7:(⟨#[60]⟩:ByteArray).size=1:=rfl;have o8:(⟨#[62]⟩:ByteArray).size=1:=rfl;have hk:=cb8 hok;simp only[V.k]at hk;have tn:=bw5 n;have td:=bw5 d;rcases hk with rfl|rfl|rfl|rfl|rfl|rfl|rfl|rfl|rfl
  ·have e:txt (.mk 0 n d s l)=[110,117,108,108]:=by simp only[txt,hok];rfl
   rw[e];show Ev E _ _ (.d (.str ⟨#[110,117,108,108]⟩));refine ye1 func152 ntmps152 fun _ _ _=>?_
   repeat'(first|refine yz ?_|refine yp br3 hv ?_|exact zD)
  ·have e:bs (txt (.mk 1 n d s l))=⟨(Lib.formatBool (n==1)).toArray⟩:=by
    have:txt (.mk 1 n d s l)=(bif n==1 then [116,114,117,101]else [102,97,108,115,101]):=by simp only[txt,hok];rfl
    rw[this]
    cases n==1<;>decide
   rw[e];have hb:=bw6 (n==1);refine ye1 func152 ntmps152 fun _ _ _=>?_
   repeat'(first|refine yz ?_|refine yp br3 hv ?_|refine yp b225 hb ?_|exact zD)
  ·have e:txt (.mk 2 n d s l)=Lib.itoa n:=by simp only[txt,hok];rfl
   rw[e];refine ye1 func152 ntmps152 fun _ _ _=>?_
   repeat'(first|refine yz ?_|refine yp br3 hv ?_|refine yp bq3 tn ?_|exact zD)
  ·obtain⟨h2,h3⟩:=okV_3 hok
   have e:txt (.mk 3 n d s l)=ftxt n d:=by
    have hd1:(d==1)=false:=Og
    simp only[txt,hok,ftxt,h3,hd1];rfl
   rw[e];have hf:=cb4 n d;refine ye1 func152 ntmps152 fun _ _ _=>?_
   repeat'(first|refine yz ?_|refine yp br3 hv ?_|refine yp b226 hf ?_|exact zD)
  ·have e:bs (txt (.mk 4 n d s l))=⟨#[39]⟩++bs (dbl s.data.toList)++⟨#[39]⟩:=by
    show _=bs [39]++bs (dbl s.data.toList)++bs [39];rw[ca4,ca4];simp only[txt,hok];rfl
   rw[e];have h4:=cb9 hok;have hdb:=cb2 s Oa;have hl2:=ca8 s.data.toList;have hsl:s.data.toList.length=s.size:=Oc
   have zs:(bs (dbl s.data.toList)).size≤200:=by rw[ca6];omega
   refine ye1 func152 ntmps152 fun _ _ _=>?_
   repeat'(first|refine yz ?_|refine yp br3 hv ?_|refine yp b227 hdb ?_|exact zD)
  ·have e:bs (txt (.mk 5 n d s l))=⟨#[35]⟩++⟨(Lib.itoa n).toArray⟩:=by
    show _=bs [35]++bs (Lib.itoa n);rw[ca4];simp only[txt,hok];rfl
   rw[e];refine ye1 func152 ntmps152 fun _ _ _=>?_
   repeat'(first|refine yz ?_|refine yp br3 hv ?_|refine yp bq3 tn ?_|exact zD)
  ·have e:bs (txt (.mk 6 n d s l))=⟨#[64]⟩++⟨(Lib.itoa n).toArray⟩:=by
    show _=bs [64]++bs (Lib.itoa n);rw[ca4];simp only[txt,hok];rfl
   rw[e];refine ye1 func152 ntmps152 fun _ _ _=>?_
   repeat'(first|refine yz ?_|refine yp br3 hv ?_|refine yp bq3 tn ?_|exact zD)
  ·have e0:txt (.mk 7 n d s l)=[60]++Lib.join (l.map txt) [32]++ [62]:=by simp only[txt,hok,cb6];rfl
   have e:bs (txt (.mk 7 n d s l))=⟨#[60]⟩++bs (Lib.join (l.map txt) [32])++⟨#[62]⟩:=by
    show _=bs [60]++bs (Lib.join (l.map txt) [32])++bs [62];rw[ca4,ca4,e0]
   rw[e]
   have hjl:(Lib.join (l.map txt) [32]).length≤1099511627776:=by
    rw[e0,fk1,fk1]at hlen;omega
   have hj:=cc3 l [32] (fun x hx=>ih x hx (fo2 (cb7 [32] _ _ (fn4 hx)) hjl)) (by have:=okV_7 hok;omega) hjl;have zj:(bs (Lib.join (l.map txt) [32])).size≤1099511627776:=by rw[ca6];exact hjl
   refine ye1 func152 ntmps152 fun _ _ _=>?_
   repeat'(first|refine yz ?_|refine yp br3 hv ?_|refine yp b228 hj ?_|exact zD)
  ·have e0:txt (.mk 8 n d s l)=[91]++Lib.join (l.map txt) [44,32]++ [93]:=by simp only[txt,hok,cb6];rfl
   have e:bs (txt (.mk 8 n d s l))=⟨#[91]⟩++bs (Lib.join (l.map txt) [44,32])++⟨#[93]⟩:=by
    show _=bs [91]++bs (Lib.join (l.map txt) [44,32])++bs [93];rw[ca4,ca4,e0]
   rw[e]
   have hjl:(Lib.join (l.map txt) [44,32]).length≤1099511627776:=by
    rw[e0,fk1,fk1]at hlen;omega
   have hj:=cc3 l [44,32] (fun x hx=>ih x hx (fo2 (cb7 [44,32] _ _ (fn4 hx)) hjl)) (by have:=okV_8 hok;omega) hjl;have zj:(bs (Lib.join (l.map txt) [44,32])).size≤1099511627776:=by rw[ca6];exact hjl
   refine ye1 func152 ntmps152 fun _ _ _=>?_
   repeat'(first|refine yz ?_|refine yp br3 hv ?_|refine yp b228 hj ?_|exact zD)
end Go.Proofs.YtndgolmgaenlfaaGreatDoor
