/- As each says. -/
import Derived.Test.YtndgolmgaenlfaaGreatDoorFA
import Derived.Test.YtndgolmgaenlfaaGreatDoorMB
import Derived.Test.YtndgolmgaenlfaaGreatDoorGC
import Derived.Test.YtndgolmgaenlfaaGreatDoorLA
import Derived.Test.YtndgolmgaenlfaaGreatDoorMA
set_option linter.unusedVariables false
set_option linter.unusedSimpArgs false
namespace Go.Proofs.YtndgolmgaenlfaaGreatDoor
set_option maxRecDepth 4000
open Go Go.Abs Go.Val Go.RowKit Go.Proofs.Tryz
attribute [local irreducible] go SGo an1 Ev au8 EvO EvS
def cs3(v:V):List UInt8:=
 bif v.k==1 then(bif v.n==1 then [84,82,85,69]else [70,65,76,83,69])else
 bif v.k==2 then(bif decide (v.n<0)then [40]++Lib.itoa v.n++ [41]else Lib.itoa v.n)else
 bif v.k==4 then txt v else [78,85,76,76]
def sgT(op:Int):List UInt8:=
 bif op==7 then [43]else bif op==8 then [45]else bif op==9 then [42]else bif op==10 then [47]else bif op==11 then [37]else bif op==12 then [61]else
 bif op==13 then [60,62]else bif op==14 then [60]else bif op==15 then [60,61]else bif op==16 then [62]else bif op==17 then [62,61]else
 bif op==18 then [65,78,68]else bif op==19 then [79,82]else [73,78]
def cs4(op:Int):Bool:=decide (op≥5) &&decide (op≤21)
theorem cs5{v:V}(h:cj2 v=true)(h4:v.k=4):(txt v).length≤202:=by
 obtain⟨k,n,d,s,l⟩:=v;simp only[V.k]at h4;subst h4;have hok:Val.okV (.mk 4 n d s l)=true:=by simpa[cj2,ci1,V.k]using h
 have h4:=cc9 hok;have hl2:=cb7 s.data.toList;have hsl:s.data.toList.length=s.size:=Oc
 have:txt (.mk 4 n d s l)=[39]++dbl s.data.toList++ [39]:=by simp only[txt,hok];rfl
 rw[this];simp only[fp4,fp5,fq0];omega
theorem cs6{v:V}(h:cj2 v=true)(hn:inR .i64 v.n):(cs3 v).length≤202:=by
 have h1:=cc3 hn;unfold cs3
 cases h4:v.k==4 with
 |true=>
  have h4':v.k=4:=by simpa using h4
  have:=cs5 h h4';simp only[h4',cond_true];simp;exact this
 |false=>
  cases v.k==1<;>cases v.k==2<;>cases v.n==1<;>cases decide (v.n<0)<;>simp only[cond_true,cond_false,fp4,fp5,fq0]<;>omega
theorem cs7(v:V)(h:cj2 v=true):Ev E 288 [enc v] (.d (.str (bs (cs3 v)))):=Ev.fit fun hfit=>by
 obtain⟨-,hn,-⟩:=bn7 (hfit (enc v) Oc);have h1:=bx0 v.n;have ln:=cc3 hn;have z1:(⟨(Lib.itoa v.n).toArray⟩:ByteArray).size≤21:=ln;have z2:(⟨#[40]⟩:ByteArray).size=1:=rfl;have z3:(⟨#[41]⟩:ByteArray).size=1:=rfl
 cases h4:v.k==4 with
 |true=>
  have h4':v.k=4:=by simpa using h4
  have h2:=cd6 v (by have:=cs5 h h4';omega);have e:cs3 v=txt v:=by simp[cs3,h4']
  have g1:(v.k==1)=false:=by rw[h4'];rfl
  have g2:(v.k==2)=false:=by rw[h4'];rfl
  rw[e];refine ye1 func288 ntmps288 fun _ _ _=>?_
  repeat'(first|refine yz ?_|refine yp b152 h2 ?_|refine yx ?_|(refine yy ?_ ?_<;>intro _)|exact zD|exact zL)
 |false=>
  refine ye1 func288 ntmps288 fun _ _ _=>?_
  repeat'(first|refine yz ?_|refine yp bq3 h1 ?_|refine yx ?_|(refine yy ?_ ?_<;>intro _)|(refine qV rfl ?_ ?_<;>intro _)|exact zD|exact zL)
  all_goals(refine congrArg D.str ?_;simp_all [cs3,fs3];first|rfl|(rw[if_neg Oa];first|done|rfl))
theorem cs8(n:Int)(h:Val.okV (bo2 n)=true):Ev E 335 [.int n] (.d (.str (bs (Lib.itoa n)))):=Ev.fit fun hfit=>by
 have hn:=(hfit (.int n) Oc).int;have ln:=cc3 hn;have h1:=bt8 n;have e:txt (bo2 n)=Lib.itoa n:=by unfold bo2 at h ⊢;simp only[txt,h];rfl
 have h2:=cd3 (bo2 n) (by rw[e];omega);rw[e]at h2;refine ye1 func335 ntmps335 fun _ _ _=>?_
 repeat'(first|refine yz ?_|refine yp b362 h1 ?_|refine yp bq5 h2 ?_|refine yx ?_|(refine yy ?_ ?_<;>intro _)|exact zD|exact zL)
theorem cs9{v:V}(h:cj2 v=true)(hk:v.k=2):Val.okV (bo2 v.n)=true:=by
 obtain⟨k,n,d,s,l⟩:=v;simp only[V.k]at hk;subst hk;have hok:Val.okV (.mk 2 n d s l)=true:=by simpa[cj2,ci1,V.k]using h
 unfold Val.okV at hok ⊢;rw[bv4 8 2 n d s l Oa Oa]at hok;unfold bo2;rw[bv4 8 2 _ _ _ _ Oa Oa];simp only[bo5,V.k,V.n,V.d,V.s,V.l]at hok ⊢;simp_all;exact beq_self_eq_true ByteArray.empty.toList
theorem ct0(v:V)(h:cj2 v=true):Ev E 294 [enc v] (.d (.str (bs (cs3 v)))):=Ev.fit fun hfit=>by
 obtain⟨-,hn,-⟩:=bn7 (hfit (enc v) Oc);have ln:=cc3 hn;have z1:(bs (Lib.itoa v.n)).size≤21:=by rw[cb1];exact ln
 have z2:(⟨#[40]⟩:ByteArray).size=1:=rfl;have z3:(⟨#[41]⟩:ByteArray).size=1:=rfl
 have hk:v.k=0∨v.k=1∨v.k=2∨v.k=4:=by
  have:ci1 v=true∨((v.k=1∨v.k=2∨v.k=4)∧Val.okV v=true):=by simpa[cj2]using h
  rcases this with h|h
  ·unfold ci1 at h;simp at h;omega
  ·omega
 rcases hk with hk|hk|hk|hk
 ·have e:cs3 v=[78,85,76,76]:=by simp[cs3,hk]
  have g:(v.k==0)=true:=by rw[hk];rfl
  rw[e];refine ye1 func294 ntmps294 fun _ _ _=>?_
  exact Ok
 ·have g:(v.k==0)=false:=by rw[hk];rfl
  have g1:(v.k==1)=true:=by rw[hk];rfl
  refine ye1 func294 ntmps294 fun _ _ _=>?_
  repeat'(first|refine yz ?_|refine yx ?_|(refine yy ?_ ?_<;>intro _)|(refine qV rfl ?_ ?_<;>intro _)|exact zD|exact zL)
  all_goals(refine congrArg D.str ?_;simp_all [cs3,fs3];rfl)
 ·have g:(v.k==0)=false:=by rw[hk];rfl
  have g1:(v.k==1)=false:=by rw[hk];rfl
  have g2:(v.k==2)=true:=by rw[hk];rfl
  have h1:=cs8 v.n (cs9 h hk);refine ye1 func294 ntmps294 fun _ _ _=>?_
  repeat'(first|refine yz ?_|refine yp b335 h1 ?_|refine yx ?_|(refine yy ?_ ?_<;>intro _)|(refine qV rfl ?_ ?_<;>intro _)|exact zD|exact zL)
  all_goals(refine congrArg D.str ?_;simp_all [cs3,fs3];first|rfl|(rw[if_neg Oa];first|done|rfl))
 ·have g:(v.k==0)=false:=by rw[hk];rfl
  have g1:(v.k==1)=false:=by rw[hk];rfl
  have g2:(v.k==2)=false:=by rw[hk];rfl
  have h1:=cd3 v (by have:=cs5 h hk;omega);have e:cs3 v=txt v:=by simp[cs3,hk]
  rw[e];refine ye1 func294 ntmps294 fun _ _ _=>?_
  repeat'(first|refine yz ?_|refine yp bq5 h1 ?_|refine yx ?_|(refine yy ?_ ?_<;>intro _)|exact zD|exact zL)
theorem ct1(op:Int):Ev E 291 [.int op] (.d (.str (bs (sgT op)))):=by
 refine ye1 func291 ntmps291 fun _ _ _=>?_
 repeat'(first|refine yz ?_|refine yx ?_|(refine yy ?_ ?_<;>intro _)|(refine qV rfl ?_ ?_<;>intro _)|exact zD|exact zL)
 all_goals(refine congrArg D.str ?_;simp_all [sgT,fs3];rfl)
theorem ct2(op:Int)(h:7≤op∧op≤20):Ev E 297 [.int op] (.d (.str (bs (sgT op)))):=by
 refine ye1 func297 ntmps297 fun _ _ _=>?_
 repeat'(first|refine yz ?_|refine yx ?_|(refine yy ?_ ?_<;>intro _)|(refine qV rfl ?_ ?_<;>intro _)|exact zD|exact zL)
 all_goals(first|(exfalso;simp_all;omega)|(refine congrArg D.str ?_;simp_all [sgT,fs3];rfl))
theorem ct3(op:Int):(sgT op).length≤3:=by
 unfold sgT
 repeat'(rw[fs3];split)
 all_goals simp
theorem ct4(op:Int):Ev E 336 [.int op] (.d (.bool (cs4 op))):=by
 refine ye1 func336 ntmps336 fun _ _ _=>?_
 repeat'(first|refine yz ?_|refine yx ?_|(refine yy ?_ ?_<;>intro _)|(refine qV rfl ?_ ?_<;>intro _)|exact zD|exact zL)
 all_goals(refine congrArg D.bool ?_;simp_all [cs4]<;>first|omega|(rw[fq3];simp;omega))
def txN(op:Int)(v:V)(nm:List UInt8)(ds:Bool)(ts os:List (List UInt8)):List UInt8:=
 bif op==1 then cs3 v else
 bif op==2 then nm else
 bif op==3 then os.getD 0 []++ [46]++nm else
 bif op==4 then os.getD 0 []++ [58]++nm else
 bif op==5 then [78,79,84,32]++os.getD 0 []else
 bif op==6 then [45]++os.getD 0 []else
 bif op==21 then os.getD 0 []++ [32,73,83,32,78,85,76,76]else
 bif op==22 then [91]++Lib.join ts [44,32]++ [93]else
 bif op==23 then nm++ [40]++Lib.join ts [44,32]++ [41]else
 bif op==24 then(bif ts.isEmpty then nm++ [40,42,41]else bif ds then nm++ [40,68,73,83,84,73,78,67,84,32]++ts.getD 0 []++ [41]else nm++ [40]++ts.getD 0 []++ [41])else
 os.getD 0 []++ [32]++sgT op++ [32]++os.getD 1 []
mutual
def txE:Ex→List UInt8
 |.mk op v nm ds ks=>txN op v nm.data.toList ds (txL ks) (opL ks)
def txL:List Ex→List (List UInt8)
 |[]=>[]
 |x::r=>txE x::txL r
def opL:List Ex→List (List UInt8)
 |[]=>[]
 |x::r=>(bif cs4 x.op then [40]++txE x++ [41]else txE x)::opL r
end
def opT(x:Ex):List UInt8:=bif cs4 x.op then [40]++txE x++ [41]else txE x
theorem ct5(l:List Ex):txL l=l.map txE:=by
 induction l with
 |nil=>simp[txL]
 |cons v r ih=>simp[txL,ih]
theorem ct6(l:List Ex):opL l=l.map opT:=by
 induction l with
 |nil=>simp[opL]
 |cons v r ih=>simp[opL,ih,opT]
mutual
def alE(P:Ex→Prop):Ex→Prop
 |.mk op v nm ds ks=>P (.mk op v nm ds ks)∧alL P ks
def alL(P:Ex→Prop):List Ex→Prop
 |[]=>True
 |x::r=>alE P x∧alL P r
end
theorem ct7{P:Ex→Prop}:∀{l:List Ex},alL P l→∀x∈l,alE P x
 |[],_,x,hx=>by simp at hx
 |y::r,h,x,hx=>by
  rcases fq1.1 hx with e|e
  ·rw[e];exact h.1
  ·exact ct7 h.2 x e
theorem ct8{P:Ex→Prop}:∀{l:List Ex},(∀x∈l,alE P x)→alL P l
 |[],_=>trivial
 |y::r,h=>⟨h y Oc,ct8 fun x hx=>h x (by simp[hx])⟩
theorem ct9{P Q:Ex→Prop}(hpq:∀e,P e→Q e):∀e,alE P e→alE Q e:=
 bz5 (P:=fun e=>alE P e→alE Q e) fun op v nm ds ks ih h=>⟨hpq _ h.1,ct8 fun x hx=>ih x hx (ct7 h.2 x hx)⟩
theorem cu0{P Q:Ex→Prop}:∀e,alE P e→alE Q e→alE (fun e=>P e∧Q e) e:=
 bz5 (P:=fun e=>alE P e→alE Q e→alE (fun e=>P e∧Q e) e) fun op v nm ds ks ih h h'=>⟨⟨h.1,h'.1⟩,ct8 fun x hx=>ih x hx (ct7 h.2 x hx) (ct7 h'.2 x hx)⟩
def okN(e:Ex):Prop:=1≤e.op∧e.op≤24∧ci4 e=true∧(e.op=1→cj2 e.v=true)
theorem cu1:∀{l:List Ex} {w:Bool},co1 l w=0→∀x∈l,co0 x w=0
 |[],_,_,x,hx=>by simp at hx
 |y::r,w,h,x,hx=>by
  rw[co1]at h
  cases hz:co0 y w !=0 with
  |true=>
   rw[hz]at h;simp at hz;exact absurd h hz
  |false=>
   rw[hz]at h;rcases fq1.1 hx with e|e
   ·rw[e];simpa using hz
   ·exact cu1 h x e
theorem cu2:∀(e:Ex) (w:Bool),co0 e w=0→alE okN e:=by
 refine bz5 (P:=fun e=>∀(w:Bool),co0 e w=0→alE okN e) fun op v nm ds ks ih w h=>?_
 rw[co0]at h
 cases hs:cn9 (.mk op v nm ds ks) w !=0 with
 |true=>
  rw[hs]at h;simp at hs;exact absurd h hs
 |false=>
  rw[hs]at h;refine⟨?_,ct8 fun x hx=>ih x hx _ (cu1 h x hx)⟩;have hs':cn9 (.mk op v nm ds ks) w=0:=by simpa using hs
  unfold cn9 at hs'
  cases h1:(decide ((Ex.mk op v nm ds ks).op<1)||decide ((Ex.mk op v nm ds ks).op>24))||(!ci4 (.mk op v nm ds ks)|| !cj0 (.mk op v nm ds ks))with
  |true=>rw[h1]at hs';simp at hs'
  |false=>
   rw[h1]at hs';simp only[ft4,decide_eq_false_iff_not,Bool.not_eq_false']at h1;refine⟨by omega,by omega,h1.2.1,fun h2=>?_⟩
   cases h3:cj2 (Ex.mk op v nm ds ks).v with
   |true=>rfl
   |false=>
    have h4:((Ex.mk op v nm ds ks).op==1&& !cj2 (Ex.mk op v nm ds ks).v)=true:=by rw[h2,h3];rfl
    rw[h4]at hs';simp at hs'
def smN(e:Ex):Prop:=okN e∧e.nm.size≤200∧inR .i64 e.v.n
theorem cu3(sep:List UInt8)(hs:sep.length≤2):∀(xs:List (List UInt8)),(Lib.join xs sep).length≤(xs.map fun x=>x.length+2).sum
 |[]=>fq7 _
 |a::r=>by
  rw[Lib.join_cons,fp4]
  have key:∀q:List (List UInt8),(Lib.joinTail sep q).length≤(q.map fun x=>x.length+2).sum:=by
   intro q
   induction q with
   |nil=>exact fq7 _
   |cons b q ih=>
    have hc:Lib.joinTail sep (b::q)=(sep++b)++Lib.joinTail sep q:=rfl;rw[hc,fp4,fp4,fs1,List.sum_cons];omega
  have:=key r;rw[fs1,List.sum_cons];omega
theorem cu4(x:Ex):(opT x).length≤(txE x).length+2:=by
 unfold opT
 cases cs4 x.op<;>simp only[cond_true,cond_false,fp4,fp5,fq0]<;>omega
theorem cu5:∀e:Ex,alE smN e→(txE e).length+4≤1000*nd e:=by
 refine bz5 (P:=fun e=>alE smN e→(txE e).length+4≤1000*nd e) fun op v nm ds ks ih h=>?_
 obtain⟨⟨⟨h1,h2,h3,h4⟩,h5,h6⟩,-⟩:=h.1,h.2;have hk:=ct7 h.2;have hnl:nm.data.toList.length≤200:=by simpa[Ex.nm]using h5
 have hsum:(ks.map fun x=>(txE x).length+4).sum≤1000*ndL ks:=by
  clear h h1 h2 h3 h4 h5 h6
  induction ks with
  |nil=>exact fr4 _
  |cons a r ihr=>
   have:=ih a Oc (hk a Oc);have:=ihr (fun x hx=>ih x (by simp[hx])) (fun x hx=>hk x (by simp[hx]));rw[fs1,List.sum_cons,ndL];omega
 have hj:(Lib.join (txL ks) [44,32]).length≤1000*ndL ks:=by
  refine fs8 (cu3 [44,32] Oc _) (fs8 ?_ hsum);rw[ct5];clear h h1 h2 h3 h4 h5 h6 hsum ih hk
  induction ks with
  |nil=>exact fq7 _
  |cons a r ihr=>simp only[fs1,List.sum_cons];omega
 have hgt:∀j,((txL ks).getD j []).length≤1000*ndL ks:=by
  intro j;rw[ct5,fu1,fp9]
  cases hx:ks[j]? with
  |none=>simp
  |some x=>
   have hm:=fp3 hx;have h1:=ih x hm (hk x hm);have h2:=cj5 hm;simp only[ft1,fv1];omega
 have h01:((opL ks).getD 0 []).length+((opL ks).getD 1 []).length≤1000*ndL ks:=by
  rw[ct6]
  match ks,ih,hk with
  |[],_,_=>simp
  |[a],ih,hk=>
   have:=ih a Oc (hk a Oc);have:=cu4 a;simp[ndL];omega
  |a::b::r,ih,hk=>
   have:=ih a Oc (hk a Oc);have:=ih b Oc (hk b Oc);have:=cu4 a;have:=cu4 b;simp[ndL];omega
 have hcst:op=1→(cs3 v).length≤202:=fun e=>cs6 (h4 e) h6
 have hsg:=ct3 op;have ht0:=hgt 0;rw[nd,txE,txN]
 repeat'(rw[fs3];split)
 all_goals(try simp only[fp4,fp5,fq0])
 all_goals first|omega|(have:=hcst (by simpa using ‹(op==1)=true›);omega)
end Go.Proofs.YtndgolmgaenlfaaGreatDoor
namespace Go.Proofs.YtndgolmgaenlfaaGreatDoor
set_option maxRecDepth 4000
open Go Go.Abs Go.Val Go.RowKit Go.Proofs.Tryz
attribute [local irreducible] go SGo an1 Ev au8 EvO EvS
theorem cu6{l:List Ex}{i:Nat}{x:Ex}(h:l[i]? =some x):cd4 ((l.take (i+1)).map txE)=cd4 ((l.take i).map txE)++ [.str (bs (txE x))]:=by
 have hi:=(fp7.1 h).1;rw[fz3 hi];rw[fp1 hi]at h
 cases h
 simp only[cd4,fu3,fs1,fv9]
structure STe(l:List Ex) where
 i:Nat
 hi:i≤l.length
theorem cu7(l:List Ex)(hT:∀x∈l,Ev E 231 [by6 x] (.d (.str (bs (txE x)))))(hn:l.length≤1000000)(hlen:(Lib.join (l.map txE) [44,32]).length≤1073741824):
  Ev E 290 [.sl (by5 l)] (.d (.str (bs (Lib.join (l.map txE) [44,32])))):=by
 have hle:(by5 l).length=l.length:=bz2 l;have e1:(l.map fun x=>bs (txE x)).map D.str=cd4 (l.map txE):=by simp[cd4]
 have e2:(l.map fun x=>bs (txE x)).map (·.data.toList)=l.map txE:=by simp[cb2]
 have hj:=cd1 (l.map fun x=>bs (txE x)) (bs [44,32]) Og (by rw[e2,cb2];omega);rw[e1,e2,cb2]at hj;refine ye1 func290 ntmps290 fun _ _ _=>?_
 repeat'(first|refine yz ?_|refine yx ?_|(refine yy ?_ ?_<;>intro _)|exact zD|exact zL)
 refine ac7 (α:=STe l) (fun p=>⟨[(3,aw6 (cd4 ((l.take p.i).map txE))),(6,.d (.sl (by5 l))),(7,.d (.int (by5 l).length)),(8,.d (.int p.i))],aw7 9 1 (cd4 ((l.take p.i).map txE))⟩) (fun p=>l.length-p.i) ⟨0,by omega⟩ (by rw[fu6];exact(zle 0)) ?_;rintro⟨i,hi⟩;dsimp only;rcases fp2 i l.length with hlt|hge
 ·have g1:decide ((i:Int)<((by5 l).length:Int))=true:=by rw[hle];simpa using hlt
  have hx0:=fp1 hlt;generalize l[i]=x at hx0;have hx:(by5 l)[(i:Int).toNat]? =some (by6 x):=bz0 (by rw[fr2];exact hx0);have ht:=hT x (fp3 hx0);have hta:=cu6 hx0;have hll:(cd4 ((l.take i).map txE)).length≤i:=by simp[cd4];omega
  generalize cd4 ((l.take i).map txE)=out at*
  match out,hll with
  |[],hll=>
   dsimp only[aw6,aw7]
   repeat'(first|refine yz ?_|refine yi (by6 x) hx ?_|refine yp br6 ht ?_|(refine qS rfl ⟨by simp,by simp[D.cells];rfl,by(show(0+1)*16≤140737488355328;omega),by(show 0+1≤9223372036854775807;omega)⟩ ?_)|refine yx ?_|(refine yy ?_ ?_<;>intro _)|exact zD|exact zL)
   refine ac1 ?_;refine⟨⟨i+1,by omega⟩,by dsimp only;omega,?_⟩;dsimp only;rw[hta];exact(bh0 [1])
  |a::q,hll=>
   dsimp only[aw6,aw7]
   repeat'(first|refine yz ?_|refine yi (by6 x) hx ?_|refine yp br6 ht ?_|(refine qS rfl ⟨by simp,by simp[D.cells];rfl,by(show((a::q).length+1)*16≤140737488355328;omega),by(show(a::q).length+1≤9223372036854775807;omega)⟩ ?_)|refine yx ?_|(refine yy ?_ ?_<;>intro _)|exact zD|exact zL)
   refine ac1 ?_;refine⟨⟨i+1,by omega⟩,by dsimp only;omega,?_⟩;dsimp only;rw[hta];exact(bh0 [2])
 ·have g1:decide ((i:Int)<((by5 l).length:Int))=false:=by rw[hle];simp;omega
  rw[fq6 hge];generalize cd4 (l.map txE)=out at*
  match out,hj with
  |[],hj=>
   dsimp only[aw6,aw7]
   repeat'(first|refine yz ?_|refine yp b84 hj ?_|refine yx ?_|(refine yy ?_ ?_<;>intro _)|exact zD|exact zL)
  |a::q,hj=>
   dsimp only[aw6,aw7];refine qA ?_;refine au2 0 rfl ?_
   repeat'(first|refine yz ?_|refine yp b84 hj ?_|refine yx ?_|(refine yy ?_ ?_<;>intro _)|exact zD|exact zL)
theorem list_ev'(l:List Ex)(hT:∀x∈l,Ev E 238 [by6 x] (.d (.str (bs (txE x)))))(hlen:(Lib.join (l.map txE) [44,32]).length≤1073741824):
  Ev E 296 [.sl (by5 l)] (.d (.str (bs (Lib.join (l.map txE) [44,32])))):=Ev.fit fun hfit=>by
 obtain⟨hmax,-⟩:=bz4 (hfit (.sl (by5 l)) Oc);have hle:(by5 l).length=l.length:=bz2 l;have hml:(l.map txE).length=l.length:=Oc
 have hsep:(⟨#[44,32]⟩:ByteArray).size=2:=rfl;refine ye1 func296 ntmps296 fun _ _ _=>?_
 repeat'(first|refine yz ?_|refine yx ?_|(refine yy ?_ ?_<;>intro _)|exact zD|exact zL)
 refine ac7 (α:=SJ (l.map txE) [44,32]) (fun p=>⟨[(0,.d (.sl (by5 l))),(3,.d (.str (bs p.s))),(4,.d (.int p.i))],[]⟩) (fun p=>l.length-p.i) ⟨0,[],by omega,fun _=>rfl,fun h=>absurd rfl h⟩ (zle 0) ?_;rintro⟨i,s,hi,h0,h1⟩;dsimp only;rcases fp2 i l.length with hlt|hge
 ·have g1:decide ((i:Int)<((by5 l).length:Int))=true:=by rw[hle];simpa using hlt
  have hx0:=fp1 hlt;generalize l[i]=x at hx0;have hx:(by5 l)[(i:Int).toNat]? =some (by6 x):=bz0 (by rw[fr2];exact hx0);have hm:(l.map txE)[i]? =some (txE x):=by rw[fp9,hx0];rfl
  have ht:=hT x (fp3 hx0)
  by_cases hi0:i=0
  ·subst hi0;have hs0:=h0 rfl;subst hs0;have g2:decide (((0:Nat):Int)>0)=false:=rfl;have hl2:(txE x).length≤1073741824:=fs8 (cc7 [44,32] _ _ (fp3 hm)) hlen;have z1:(bs (txE x)).size≤1073741824:=by rw[cb1];exact hl2
   have z2:(bs []).size=0:=rfl
   repeat'(first|refine yz ?_|refine yi (by6 x) hx ?_|refine yp br7 ht ?_|refine yx ?_|(refine yy ?_ ?_<;>intro _)|exact zD|exact zL)
   refine ac1 ?_;rw[ca9];exact⟨⟨1,[]++txE x,by omega,fun h=>by omega,fun _=>by have:=bu9 hm;rw[fu8]at this;rw[fr8];conv=>rhs;rw[this,Lib.join_cons]⟩,by dsimp only;omega,(zle 0)⟩
  ·have g2:decide ((i:Int)>0)=true:=by simp;omega
   have h1':=h1 hi0;rw[cd0 hm]at h1'
   have hll:s.length+(2+(txE x).length)≤1073741824:=by
    have:=congrArg List.length h1';simp only[fp4,fp5,fq0]at this;omega
   have z1:(bs (txE x)).size=(txE x).length:=cb1 _;have z2:(bs s).size=s.length:=cb1 _;have z3:(bs [44,32]).size=2:=rfl
   repeat'(first|refine yz ?_|refine yi (by6 x) hx ?_|refine yp br7 ht ?_|refine yx ?_|(refine yy ?_ ?_<;>intro _)|exact zD|exact zL)
   refine ac1 ?_;rw[show(⟨#[44,32]⟩:ByteArray)=bs [44,32]from rfl,ca9,ca9];exact⟨⟨i+1,s++ [44,32]++txE x,by omega,fun h=>by omega,fun _=>by rw[←h1'];simp only[fs0]⟩,by dsimp only;omega,(zle 0)⟩
 ·have g1:decide ((i:Int)<((by5 l).length:Int))=false:=by rw[hle];simp;omega
  have e:Lib.join (l.map txE) [44,32]=s:=by
   by_cases hi0:i=0
   ·have:l=[]:=fx3 Oa;rw[this,h0 hi0];rfl
   ·rw[←h1 hi0,fp8 Oa];simp[Lib.joinTail]
  rw[e]
  exact Ok
theorem cu8(x:Ex)(hl:(txE x).length≤1073741824)(h1:Ev E 231 [by6 x] (.d (.str (bs (txE x))))):Ev E 289 [by6 x] (.d (.str (bs (opT x)))):=by
 have z1:(bs (txE x)).size=(txE x).length:=cb1 _;have z2:(⟨#[40]⟩:ByteArray).size=1:=rfl;have z3:(⟨#[41]⟩:ByteArray).size=1:=rfl;refine ye1 func289 ntmps289 fun _ _ _=>?_
 repeat'(first|refine yz ?_|refine yp br6 h1 ?_|refine yx ?_|(refine yy ?_ ?_<;>intro _)|(refine qV rfl ?_ ?_<;>intro _)|exact zD|exact zL)
 all_goals(refine congrArg D.str ?_;simp_all [opT,cs4,fs3];first|done|rfl|(rw[if_neg Oa];first|done|rfl))
theorem cu9(x:Ex)(hl:(txE x).length≤1073741824)(h1:Ev E 238 [by6 x] (.d (.str (bs (txE x))))):Ev E 295 [by6 x] (.d (.str (bs (opT x)))):=by
 have z1:(bs (txE x)).size=(txE x).length:=cb1 _;have z2:(⟨#[40]⟩:ByteArray).size=1:=rfl;have z3:(⟨#[41]⟩:ByteArray).size=1:=rfl;have h2:=ct4 x.op;refine ye1 func295 ntmps295 fun _ _ _=>?_
 repeat'(first|refine yz ?_|refine yp br7 h1 ?_|refine yp b336 h2 ?_|refine yx ?_|(refine yy ?_ ?_<;>intro _)|(refine qV rfl ?_ ?_<;>intro _)|exact zD|exact zL)
 all_goals(refine congrArg D.str ?_;simp_all [opT,fs3];first|done|rfl|(rw[if_neg Oa];first|done|rfl))
set_option maxHeartbeats 4000000 in
theorem cv0:∀e:Ex,alE smN e→nd e≤1000→Ev E 231 [by6 e] (.d (.str (bs (txE e)))):=by
 refine bz5 (P:=fun e=>alE smN e→nd e≤1000→Ev E 231 [by6 e] (.d (.str (bs (txE e))))) fun op v nm ds ks ih h hn=>?_
 obtain⟨⟨⟨h1,h2,h3,h4⟩,h5,h6⟩,-⟩:=h.1,h.2;have hk:=ct7 h.2;rw[nd]at hn;have hT:∀x∈ks,Ev E 231 [by6 x] (.d (.str (bs (txE x)))):=fun x hx=>ih x hx (hk x hx) (by have:=cj5 hx;omega)
 have hZ:∀x∈ks,(txE x).length≤1000000:=fun x hx=>by
  have:=cu5 x (hk x hx);have:=cj5 hx;omega
 have hO:∀x∈ks,Ev E 289 [by6 x] (.d (.str (bs (opT x)))):=fun x hx=>cu8 x (by have:=hZ x hx;omega) (hT x hx)
 have hOz:∀x∈ks,(bs (opT x)).size≤1000002:=fun x hx=>by
  rw[cb1];have:=cu4 x;have:=hZ x hx;omega
 simp only[Ex.op]at h1 h2;have h5':=h5;replace h5:nm.size≤200:=h5;have hnm:bs nm.data.toList=nm:=cb0 nm;have hkl:kn0 (.mk op v nm ds ks)=(ks.length:Int):=by unfold kn0;rw[bz1];rfl
 have hle:=bz1 (.mk op v nm ds ks);have hks:(Ex.mk op v nm ds ks).ks=ks:=rfl;unfold ci4 at h3;rw[hkl]at h3;simp only[Ex.op,Ex.nm,Ex.ds]at h3;clear h hk ih hkl
 have hnn:ks.length≤ndL ks:=by
  have key:∀l:List Ex,l.length≤ndL l:=by
   intro l
   induction l with
   |nil=>exact fr4 _
   |cons a r ihr=>rw[ndL,fp5,cj4];omega
  exact key ks
 have hJ:(Lib.join (ks.map txE) [44,32]).length≤1073741824:=by
  refine fs8 (cu3 [44,32] Oc _) ?_
  have key:∀l:List Ex,(∀x∈l,(txE x).length≤1000000)→((l.map txE).map fun x=>x.length+2).sum≤1000002*l.length:=by
   intro l
   induction l with
   |nil=>intro _;exact fr4 _
   |cons a r ihr=>
    intro hl;have:=hl a Oc;have:=ihr fun x hx=>hl x (by simp[hx])
    simp only[fs1,List.sum_cons,fp5];omega
  have:=key ks hZ;omega
 have q1:(⟨#[46]⟩:ByteArray).size=1:=rfl;have q2:(⟨#[58]⟩:ByteArray).size=1:=rfl;have q3:(⟨#[78,79,84,32]⟩:ByteArray).size=4:=rfl;have q4:(⟨#[45]⟩:ByteArray).size=1:=rfl;have q5:(⟨#[32,73,83,32,78,85,76,76]⟩:ByteArray).size=8:=rfl;have q6:(⟨#[91]⟩:ByteArray).size=1:=rfl;have q7:(⟨#[93]⟩:ByteArray).size=1:=rfl;have q8:(⟨#[40]⟩:ByteArray).size=1:=rfl;have q9:(⟨#[41]⟩:ByteArray).size=1:=rfl;have q10:(⟨#[40,42,41]⟩:ByteArray).size=3:=rfl;have q11:(⟨#[40,68,73,83,84,73,78,67,84,32]⟩:ByteArray).size=10:=rfl;have q12:(⟨#[32]⟩:ByteArray).size=1:=rfl;have hcase:op=1∨op=2∨op=3∨op=4∨op=5∨op=6∨op=21∨op=22∨op=23∨op=24∨(7≤op∧op≤20):=Oa
 rcases hcase with rfl|rfl|rfl|rfl|rfl|rfl|rfl|rfl|rfl|rfl|hop
 ·have hc:=cs7 v (h4 rfl);rw[txE];refine ye1 func231 ntmps231 fun _ _ _=>?_
  repeat'(first|refine yz ?_|refine yp b288 hc ?_|refine yx ?_|(refine yy ?_ ?_<;>intro _)|exact zD|exact zL)
 ·rw[txE,show txN 2 v nm.data.toList ds (txL ks) (opL ks)=nm.data.toList from rfl,hnm];refine ye1 func231 ntmps231 fun _ _ _=>?_
  exact Ok
 ·have hks2:∃x,ks=[x]:=by
   have:ks.length=1:=by
    have:((ks.length:Int)==1)=true:=h3;simp at this;omega
   match ks,this with
   |[x],_=>exact⟨x,rfl⟩
  obtain⟨x,rfl⟩:=hks2;have hx:(by4 (.mk 3 v nm ds [x]))[(0:Int).toNat]? =some (by6 x):=rfl;have hl1:(by4 (.mk 3 v nm ds [x])).length=1:=rfl;have a1:=hO x Oc;have z1:=hOz x Oc;rw[txE,show txN 3 v nm.data.toList ds (txL [x]) (opL [x])=opT x++ [46]++nm.data.toList from rfl,←ca9,←ca9,hnm];refine ye1 func231 ntmps231 fun _ _ _=>?_
  repeat'(first|refine yz ?_|refine yi (by6 x) hx ?_|refine yp bs3 a1 ?_|refine yx ?_|(refine yy ?_ ?_<;>intro _)|exact zD|exact zL)
 ·have hks2:∃x,ks=[x]:=by
   have:ks.length=1:=by
    have:((ks.length:Int)==1)=true:=h3;simp at this;omega
   match ks,this with
   |[x],_=>exact⟨x,rfl⟩
  obtain⟨x,rfl⟩:=hks2;have hx:(by4 (.mk 4 v nm ds [x]))[(0:Int).toNat]? =some (by6 x):=rfl;have hl1:(by4 (.mk 4 v nm ds [x])).length=1:=rfl;have a1:=hO x Oc;have z1:=hOz x Oc;rw[txE,show txN 4 v nm.data.toList ds (txL [x]) (opL [x])=opT x++ [58]++nm.data.toList from rfl,←ca9,←ca9,hnm];refine ye1 func231 ntmps231 fun _ _ _=>?_
  repeat'(first|refine yz ?_|refine yi (by6 x) hx ?_|refine yp bs3 a1 ?_|refine yx ?_|(refine yy ?_ ?_<;>intro _)|exact zD|exact zL)
 ·have hks2:∃x,ks=[x]:=by
   have:ks.length=1:=by
    have:((ks.length:Int)==1)=true:=h3;simp at this;omega
   match ks,this with
   |[x],_=>exact⟨x,rfl⟩
  obtain⟨x,rfl⟩:=hks2;have hx:(by4 (.mk 5 v nm ds [x]))[(0:Int).toNat]? =some (by6 x):=rfl;have hl1:(by4 (.mk 5 v nm ds [x])).length=1:=rfl;have a1:=hO x Oc;have z1:=hOz x Oc;rw[txE,show txN 5 v nm.data.toList ds (txL [x]) (opL [x])=[78,79,84,32]++opT x from rfl,←ca9];refine ye1 func231 ntmps231 fun _ _ _=>?_
  repeat'(first|refine yz ?_|refine yi (by6 x) hx ?_|refine yp bs3 a1 ?_|refine yx ?_|(refine yy ?_ ?_<;>intro _)|exact zD|exact zL)
 ·have hks2:∃x,ks=[x]:=by
   have:ks.length=1:=by
    have:((ks.length:Int)==1)=true:=h3;simp at this;omega
   match ks,this with
   |[x],_=>exact⟨x,rfl⟩
  obtain⟨x,rfl⟩:=hks2;have hx:(by4 (.mk 6 v nm ds [x]))[(0:Int).toNat]? =some (by6 x):=rfl;have hl1:(by4 (.mk 6 v nm ds [x])).length=1:=rfl;have a1:=hO x Oc;have z1:=hOz x Oc;rw[txE,show txN 6 v nm.data.toList ds (txL [x]) (opL [x])=[45]++opT x from rfl,←ca9];refine ye1 func231 ntmps231 fun _ _ _=>?_
  repeat'(first|refine yz ?_|refine yi (by6 x) hx ?_|refine yp bs3 a1 ?_|refine yx ?_|(refine yy ?_ ?_<;>intro _)|exact zD|exact zL)
 ·have hks2:∃x,ks=[x]:=by
   have:ks.length=1:=by
    have:((ks.length:Int)==1)=true:=h3;simp at this;omega
   match ks,this with
   |[x],_=>exact⟨x,rfl⟩
  obtain⟨x,rfl⟩:=hks2;have hx:(by4 (.mk 21 v nm ds [x]))[(0:Int).toNat]? =some (by6 x):=rfl;have hl1:(by4 (.mk 21 v nm ds [x])).length=1:=rfl;have a1:=hO x Oc;have z1:=hOz x Oc;rw[txE,show txN 21 v nm.data.toList ds (txL [x]) (opL [x])=opT x++ [32,73,83,32,78,85,76,76]from rfl,←ca9];refine ye1 func231 ntmps231 fun _ _ _=>?_
  repeat'(first|refine yz ?_|refine yi (by6 x) hx ?_|refine yp bs3 a1 ?_|refine yx ?_|(refine yy ?_ ?_<;>intro _)|exact zD|exact zL)
 ·have hj:Ev E 290 [.sl (by4 (.mk 22 v nm ds ks))] (.d (.str (bs (Lib.join (ks.map txE) [44,32])))):=cu7 ks hT Oa hJ;rw[txE,ct5,show txN 22 v nm.data.toList ds (ks.map txE) (opL ks)=[91]++Lib.join (ks.map txE) [44,32]++ [93]from rfl,←ca9,←ca9];have z1:(bs (Lib.join (ks.map txE) [44,32])).size≤1073741824:=by rw[cb1];exact hJ
  refine ye1 func231 ntmps231 fun _ _ _=>?_
  repeat'(first|refine yz ?_|refine yp b290 hj ?_|refine yx ?_|(refine yy ?_ ?_<;>intro _)|exact zD|exact zL)
 ·have hj:Ev E 290 [.sl (by4 (.mk 23 v nm ds ks))] (.d (.str (bs (Lib.join (ks.map txE) [44,32])))):=cu7 ks hT Oa hJ;rw[txE,ct5,show txN 23 v nm.data.toList ds (ks.map txE) (opL ks)=nm.data.toList++ [40]++Lib.join (ks.map txE) [44,32]++ [41]from rfl,←ca9,←ca9,←ca9,hnm];have z1:(bs (Lib.join (ks.map txE) [44,32])).size≤1073741824:=by rw[cb1];exact hJ
  refine ye1 func231 ntmps231 fun _ _ _=>?_
  repeat'(first|refine yz ?_|refine yp b290 hj ?_|refine yx ?_|(refine yy ?_ ?_<;>intro _)|exact zD|exact zL)
 ·have hks2:ks=[]∨∃x,ks=[x]:=by
   have:ks.length=1∨ks.length=0:=by
    have:((ks.length:Int)==1||((ks.length:Int)==0&&(isS nm ⟨#[99,111,117,110,116]⟩ && !ds)))=true:=h3;simp at this;rcases this with h|h
    ·left;omega
    ·right;exact fz7.2 h.1
   match ks,this with
   |[],_=>exact .inl rfl
   |[x],_=>exact .inr ⟨x,rfl⟩
  rcases hks2 with rfl|⟨x,rfl⟩
  ·rw[txE,show txN 24 v nm.data.toList ds (txL []) (opL [])=nm.data.toList++ [40,42,41]from rfl,←ca9,hnm];refine ye1 func231 ntmps231 fun _ _ _=>?_
   exact Ok
  ·have hx:(by4 (.mk 24 v nm ds [x]))[(0:Int).toNat]? =some (by6 x):=rfl;have ht:=hT x Oc;have z1:(bs (txE x)).size≤1000000:=by rw[cb1];exact hZ x Oc
   skip
   cases ds with
   |true=>
    rw[txE,show txN 24 v nm.data.toList true (txL [x]) (opL [x])=nm.data.toList++ [40,68,73,83,84,73,78,67,84,32]++txE x++ [41] by simp[txN,txL],←ca9,←ca9,←ca9,hnm];refine ye1 func231 ntmps231 fun _ _ _=>?_
    repeat'(first|refine yz ?_|refine yi (by6 x) hx ?_|refine yp br6 ht ?_|refine yx ?_|(refine yy ?_ ?_<;>intro _)|exact zD|exact zL)
   |false=>
    rw[txE,show txN 24 v nm.data.toList false (txL [x]) (opL [x])=nm.data.toList++ [40]++txE x++ [41] by simp[txN,txL],←ca9,←ca9,←ca9,hnm];refine ye1 func231 ntmps231 fun _ _ _=>?_
    repeat'(first|refine yz ?_|refine yi (by6 x) hx ?_|refine yp br6 ht ?_|refine yx ?_|(refine yy ?_ ?_<;>intro _)|exact zD|exact zL)
 ·have n1:(op==1)=false:=by simp;omega
  have n2:(op==2)=false:=Og
  have n3:(op==3)=false:=Og
  have n4:(op==4)=false:=Og
  have n5:(op==5)=false:=Og
  have n6:(op==6)=false:=Og
  have n21:(op==21)=false:=Og
  have n22:(op==22)=false:=Og
  have n23:(op==23)=false:=Og
  have n24:(op==24)=false:=Og
  have hks2:∃x y,ks=[x,y]:=by
   rw[n1,n2,n3,n4,n5,n6,n21,n22,n23,n24]at h3;have:ks.length=2:=by simp at h3;omega
   match ks,this with
   |[x,y],_=>exact⟨x,y,rfl⟩
  obtain⟨x,y,rfl⟩:=hks2;have hx:(by4 (.mk op v nm ds [x,y]))[(0:Int).toNat]? =some (by6 x):=rfl;have hy:(by4 (.mk op v nm ds [x,y]))[(1:Int).toNat]? =some (by6 y):=rfl;have hl2:(by4 (.mk op v nm ds [x,y])).length=2:=rfl;have a1:=hO x Oc;have a2:=hO y Oc;have z1:=hOz x Oc;have z2:=hOz y Oc;have a3:=ct1 op;have z3:(bs (sgT op)).size≤3:=by rw[cb1];exact ct3 op
  rw[txE,show txN op v nm.data.toList ds (txL [x,y]) (opL [x,y])=opT x++ [32]++sgT op++ [32]++opT y by simp[txN,opL,opT,n1,n2,n3,n4,n5,n6,n21,n22,n23,n24],←ca9,←ca9,←ca9,←ca9];refine ye1 func231 ntmps231 fun _ _ _=>?_
  repeat'(first|refine yz ?_|refine yi (by6 x) hx ?_|refine yi (by6 y) hy ?_|refine yp bs3 a1 ?_|refine yp bs3 a2 ?_|refine yp b291 a3 ?_|refine yx ?_|(refine yy ?_ ?_<;>intro _)|exact zD|exact zL)
set_option maxHeartbeats 4000000 in
theorem cv1:∀e:Ex,alE smN e→nd e≤1000→Ev E 238 [by6 e] (.d (.str (bs (txE e)))):=by
 refine bz5 (P:=fun e=>alE smN e→nd e≤1000→Ev E 238 [by6 e] (.d (.str (bs (txE e))))) fun op v nm ds ks ih h hn=>?_
 obtain⟨⟨⟨h1,h2,h3,h4⟩,h5,h6⟩,-⟩:=h.1,h.2;have hk:=ct7 h.2;rw[nd]at hn;have hT:∀x∈ks,Ev E 238 [by6 x] (.d (.str (bs (txE x)))):=fun x hx=>ih x hx (hk x hx) (by have:=cj5 hx;omega)
 have hZ:∀x∈ks,(txE x).length≤1000000:=fun x hx=>by
  have:=cu5 x (hk x hx);have:=cj5 hx;omega
 have hO:∀x∈ks,Ev E 295 [by6 x] (.d (.str (bs (opT x)))):=fun x hx=>cu9 x (by have:=hZ x hx;omega) (hT x hx)
 have hOz:∀x∈ks,(bs (opT x)).size≤1000002:=fun x hx=>by
  rw[cb1];have:=cu4 x;have:=hZ x hx;omega
 simp only[Ex.op]at h1 h2;have h5':=h5;replace h5:nm.size≤200:=h5;have hnm:bs nm.data.toList=nm:=cb0 nm;have hkl:kn0 (.mk op v nm ds ks)=(ks.length:Int):=by unfold kn0;rw[bz1];rfl
 have hle:=bz1 (.mk op v nm ds ks);have hks:(Ex.mk op v nm ds ks).ks=ks:=rfl;unfold ci4 at h3;rw[hkl]at h3;simp only[Ex.op,Ex.nm,Ex.ds]at h3;clear h hk ih hkl
 have hnn:ks.length≤ndL ks:=by
  have key:∀l:List Ex,l.length≤ndL l:=by
   intro l
   induction l with
   |nil=>exact fr4 _
   |cons a r ihr=>rw[ndL,fp5,cj4];omega
  exact key ks
 have hJ:(Lib.join (ks.map txE) [44,32]).length≤1073741824:=by
  refine fs8 (cu3 [44,32] Oc _) ?_
  have key:∀l:List Ex,(∀x∈l,(txE x).length≤1000000)→((l.map txE).map fun x=>x.length+2).sum≤1000002*l.length:=by
   intro l
   induction l with
   |nil=>intro _;exact fr4 _
   |cons a r ihr=>
    intro hl;have:=hl a Oc;have:=ihr fun x hx=>hl x (by simp[hx])
    simp only[fs1,List.sum_cons,fp5];omega
  have:=key ks hZ;omega
 have q1:(⟨#[46]⟩:ByteArray).size=1:=rfl;have q2:(⟨#[58]⟩:ByteArray).size=1:=rfl;have q3:(⟨#[78,79,84,32]⟩:ByteArray).size=4:=rfl;have q4:(⟨#[45]⟩:ByteArray).size=1:=rfl;have q5:(⟨#[32,73,83,32,78,85,76,76]⟩:ByteArray).size=8:=rfl;have q6:(⟨#[91]⟩:ByteArray).size=1:=rfl;have q7:(⟨#[93]⟩:ByteArray).size=1:=rfl;have q8:(⟨#[40]⟩:ByteArray).size=1:=rfl;have q9:(⟨#[41]⟩:ByteArray).size=1:=rfl;have q10:(⟨#[40,42,41]⟩:ByteArray).size=3:=rfl;have q11:(⟨#[40,68,73,83,84,73,78,67,84,32]⟩:ByteArray).size=10:=rfl;have q12:(⟨#[32]⟩:ByteArray).size=1:=rfl;have hcase:op=1∨op=2∨op=3∨op=4∨op=5∨op=6∨op=21∨op=22∨op=23∨op=24∨(7≤op∧op≤20):=Oa
 rcases hcase with rfl|rfl|rfl|rfl|rfl|rfl|rfl|rfl|rfl|rfl|hop
 ·have hc:=ct0 v (h4 rfl);rw[txE];refine ye1 func238 ntmps238 fun _ _ _=>?_
  repeat'(first|refine yz ?_|refine yp b294 hc ?_|refine yx ?_|(refine yy ?_ ?_<;>intro _)|exact zD|exact zL)
 ·rw[txE,show txN 2 v nm.data.toList ds (txL ks) (opL ks)=nm.data.toList from rfl,hnm];refine ye1 func238 ntmps238 fun _ _ _=>?_
  exact Ok
 ·have hks2:∃x,ks=[x]:=by
   have:ks.length=1:=by
    have:((ks.length:Int)==1)=true:=h3;simp at this;omega
   match ks,this with
   |[x],_=>exact⟨x,rfl⟩
  obtain⟨x,rfl⟩:=hks2;have hx:(by4 (.mk 3 v nm ds [x]))[(0:Int).toNat]? =some (by6 x):=rfl;have hl1:(by4 (.mk 3 v nm ds [x])).length=1:=rfl;have a1:=hO x Oc;have z1:=hOz x Oc;rw[txE,show txN 3 v nm.data.toList ds (txL [x]) (opL [x])=opT x++ [46]++nm.data.toList from rfl,←ca9,←ca9,hnm];refine ye1 func238 ntmps238 fun _ _ _=>?_
  repeat'(first|refine yz ?_|refine yi (by6 x) hx ?_|refine yp bs4 a1 ?_|refine yx ?_|(refine yy ?_ ?_<;>intro _)|exact zD|exact zL)
 ·have hks2:∃x,ks=[x]:=by
   have:ks.length=1:=by
    have:((ks.length:Int)==1)=true:=h3;simp at this;omega
   match ks,this with
   |[x],_=>exact⟨x,rfl⟩
  obtain⟨x,rfl⟩:=hks2;have hx:(by4 (.mk 4 v nm ds [x]))[(0:Int).toNat]? =some (by6 x):=rfl;have hl1:(by4 (.mk 4 v nm ds [x])).length=1:=rfl;have a1:=hO x Oc;have z1:=hOz x Oc;rw[txE,show txN 4 v nm.data.toList ds (txL [x]) (opL [x])=opT x++ [58]++nm.data.toList from rfl,←ca9,←ca9,hnm];refine ye1 func238 ntmps238 fun _ _ _=>?_
  repeat'(first|refine yz ?_|refine yi (by6 x) hx ?_|refine yp bs4 a1 ?_|refine yx ?_|(refine yy ?_ ?_<;>intro _)|exact zD|exact zL)
 ·have hks2:∃x,ks=[x]:=by
   have:ks.length=1:=by
    have:((ks.length:Int)==1)=true:=h3;simp at this;omega
   match ks,this with
   |[x],_=>exact⟨x,rfl⟩
  obtain⟨x,rfl⟩:=hks2;have hx:(by4 (.mk 5 v nm ds [x]))[(0:Int).toNat]? =some (by6 x):=rfl;have hl1:(by4 (.mk 5 v nm ds [x])).length=1:=rfl;have a1:=hO x Oc;have z1:=hOz x Oc;rw[txE,show txN 5 v nm.data.toList ds (txL [x]) (opL [x])=[78,79,84,32]++opT x from rfl,←ca9];refine ye1 func238 ntmps238 fun _ _ _=>?_
  repeat'(first|refine yz ?_|refine yi (by6 x) hx ?_|refine yp bs4 a1 ?_|refine yx ?_|(refine yy ?_ ?_<;>intro _)|exact zD|exact zL)
 ·have hks2:∃x,ks=[x]:=by
   have:ks.length=1:=by
    have:((ks.length:Int)==1)=true:=h3;simp at this;omega
   match ks,this with
   |[x],_=>exact⟨x,rfl⟩
  obtain⟨x,rfl⟩:=hks2;have hx:(by4 (.mk 6 v nm ds [x]))[(0:Int).toNat]? =some (by6 x):=rfl;have hl1:(by4 (.mk 6 v nm ds [x])).length=1:=rfl;have a1:=hO x Oc;have z1:=hOz x Oc;rw[txE,show txN 6 v nm.data.toList ds (txL [x]) (opL [x])=[45]++opT x from rfl,←ca9];refine ye1 func238 ntmps238 fun _ _ _=>?_
  repeat'(first|refine yz ?_|refine yi (by6 x) hx ?_|refine yp bs4 a1 ?_|refine yx ?_|(refine yy ?_ ?_<;>intro _)|exact zD|exact zL)
 ·have hks2:∃x,ks=[x]:=by
   have:ks.length=1:=by
    have:((ks.length:Int)==1)=true:=h3;simp at this;omega
   match ks,this with
   |[x],_=>exact⟨x,rfl⟩
  obtain⟨x,rfl⟩:=hks2;have hx:(by4 (.mk 21 v nm ds [x]))[(0:Int).toNat]? =some (by6 x):=rfl;have hl1:(by4 (.mk 21 v nm ds [x])).length=1:=rfl;have a1:=hO x Oc;have z1:=hOz x Oc;rw[txE,show txN 21 v nm.data.toList ds (txL [x]) (opL [x])=opT x++ [32,73,83,32,78,85,76,76]from rfl,←ca9];refine ye1 func238 ntmps238 fun _ _ _=>?_
  repeat'(first|refine yz ?_|refine yi (by6 x) hx ?_|refine yp bs4 a1 ?_|refine yx ?_|(refine yy ?_ ?_<;>intro _)|exact zD|exact zL)
 ·have hj:Ev E 296 [.sl (by4 (.mk 22 v nm ds ks))] (.d (.str (bs (Lib.join (ks.map txE) [44,32])))):=list_ev' ks hT hJ;rw[txE,ct5,show txN 22 v nm.data.toList ds (ks.map txE) (opL ks)=[91]++Lib.join (ks.map txE) [44,32]++ [93]from rfl,←ca9,←ca9];have z1:(bs (Lib.join (ks.map txE) [44,32])).size≤1073741824:=by rw[cb1];exact hJ
  refine ye1 func238 ntmps238 fun _ _ _=>?_
  repeat'(first|refine yz ?_|refine yp b296 hj ?_|refine yx ?_|(refine yy ?_ ?_<;>intro _)|exact zD|exact zL)
 ·have hj:Ev E 296 [.sl (by4 (.mk 23 v nm ds ks))] (.d (.str (bs (Lib.join (ks.map txE) [44,32])))):=list_ev' ks hT hJ;rw[txE,ct5,show txN 23 v nm.data.toList ds (ks.map txE) (opL ks)=nm.data.toList++ [40]++Lib.join (ks.map txE) [44,32]++ [41]from rfl,←ca9,←ca9,←ca9,hnm];have z1:(bs (Lib.join (ks.map txE) [44,32])).size≤1073741824:=by rw[cb1];exact hJ
  refine ye1 func238 ntmps238 fun _ _ _=>?_
  repeat'(first|refine yz ?_|refine yp b296 hj ?_|refine yx ?_|(refine yy ?_ ?_<;>intro _)|exact zD|exact zL)
 ·have hks2:ks=[]∨∃x,ks=[x]:=by
   have:ks.length=1∨ks.length=0:=by
    have:((ks.length:Int)==1||((ks.length:Int)==0&&(isS nm ⟨#[99,111,117,110,116]⟩ && !ds)))=true:=h3;simp at this;rcases this with h|h
    ·left;omega
    ·right;exact fz7.2 h.1
   match ks,this with
   |[],_=>exact .inl rfl
   |[x],_=>exact .inr ⟨x,rfl⟩
  rcases hks2 with rfl|⟨x,rfl⟩
  ·rw[txE,show txN 24 v nm.data.toList ds (txL []) (opL [])=nm.data.toList++ [40,42,41]from rfl,←ca9,hnm];refine ye1 func238 ntmps238 fun _ _ _=>?_
   exact Ok
  ·have hx:(by4 (.mk 24 v nm ds [x]))[(0:Int).toNat]? =some (by6 x):=rfl;have ht:=hT x Oc;have z1:(bs (txE x)).size≤1000000:=by rw[cb1];exact hZ x Oc
   have hl1:Ev E 296 [.sl (by4 (.mk 24 v nm ds [x]))] (.d (.str (bs (txE x)))):=by
    have:=list_ev' [x] (fun y hy=>hT y hy) hJ;rwa[show Lib.join ([x].map txE) [44,32]=txE x by simp[Lib.join,Lib.joinTail]]at this
   cases ds with
   |true=>
    rw[txE,show txN 24 v nm.data.toList true (txL [x]) (opL [x])=nm.data.toList++ [40,68,73,83,84,73,78,67,84,32]++txE x++ [41] by simp[txN,txL],←ca9,←ca9,←ca9,hnm];refine ye1 func238 ntmps238 fun _ _ _=>?_
    repeat'(first|refine yz ?_|refine yi (by6 x) hx ?_|refine yp b296 hl1 ?_|refine yx ?_|(refine yy ?_ ?_<;>intro _)|exact zD|exact zL)
   |false=>
    rw[txE,show txN 24 v nm.data.toList false (txL [x]) (opL [x])=nm.data.toList++ [40]++txE x++ [41] by simp[txN,txL],←ca9,←ca9,←ca9,hnm];refine ye1 func238 ntmps238 fun _ _ _=>?_
    repeat'(first|refine yz ?_|refine yi (by6 x) hx ?_|refine yp b296 hl1 ?_|refine yx ?_|(refine yy ?_ ?_<;>intro _)|exact zD|exact zL)
 ·have n1:(op==1)=false:=by simp;omega
  have n2:(op==2)=false:=Og
  have n3:(op==3)=false:=Og
  have n4:(op==4)=false:=Og
  have n5:(op==5)=false:=Og
  have n6:(op==6)=false:=Og
  have n21:(op==21)=false:=Og
  have n22:(op==22)=false:=Og
  have n23:(op==23)=false:=Og
  have n24:(op==24)=false:=Og
  have hks2:∃x y,ks=[x,y]:=by
   rw[n1,n2,n3,n4,n5,n6,n21,n22,n23,n24]at h3;have:ks.length=2:=by simp at h3;omega
   match ks,this with
   |[x,y],_=>exact⟨x,y,rfl⟩
  obtain⟨x,y,rfl⟩:=hks2;have hx:(by4 (.mk op v nm ds [x,y]))[(0:Int).toNat]? =some (by6 x):=rfl;have hy:(by4 (.mk op v nm ds [x,y]))[(1:Int).toNat]? =some (by6 y):=rfl;have hl2:(by4 (.mk op v nm ds [x,y])).length=2:=rfl;have a1:=hO x Oc;have a2:=hO y Oc;have z1:=hOz x Oc;have z2:=hOz y Oc;have a3:=ct2 op hop;have z3:(bs (sgT op)).size≤3:=by rw[cb1];exact ct3 op
  rw[txE,show txN op v nm.data.toList ds (txL [x,y]) (opL [x,y])=opT x++ [32]++sgT op++ [32]++opT y by simp[txN,opL,opT,n1,n2,n3,n4,n5,n6,n21,n22,n23,n24],←ca9,←ca9,←ca9,←ca9];refine ye1 func238 ntmps238 fun _ _ _=>?_
  repeat'(first|refine yz ?_|refine yi (by6 x) hx ?_|refine yi (by6 y) hy ?_|refine yp bs4 a1 ?_|refine yp bs4 a2 ?_|refine yp b297 a3 ?_|refine yx ?_|(refine yy ?_ ?_<;>intro _)|exact zD|exact zL)
theorem cv2{α:Type}{l:List α}{i:Nat}{x:α}(h:l[i]? =some x):l.drop i=x::l.drop (i+1):=by
 obtain⟨hi,rfl⟩:=fp7.1 h;exact List.drop_eq_getElem_cons hi
theorem cv3{α:Type}{f:α→D}{l:List α}{i:Nat}{x:α}(h:l[i]? =some x):(l.map f)[((i:Nat):Int).toNat]? =some (f x):=by
 rw[show((i:Nat):Int).toNat=i by omega,fp9,h];rfl
theorem cv4{α:Type}{f:α→D}{l:List α}(h:Fit (.sl (l.map f))):l.length≤9223372036854775807∧∀x∈l,Fit (f x):=by
 obtain⟨h1,h2⟩:=h.sls;exact⟨by simpa using h1,fun x hx=>h2 _ (fq8.2 ⟨x,hx,rfl⟩)⟩
def cv5:Option Nat→Int|some i=>(i:Int)|none=> -1
theorem cv6{α:Type}{l:List α}{f:α→Bool}{i:Nat}{x:α}(hx:l[i]? =some x)(hc:f x=true)(h:∀j,j<i→∀y,l[j]? =some y→f y=false):l.findIdx? f=some i:=by
 have hi:=(fp7.1 hx).1;rw[ga1];refine⟨hi,?_,fun j hj=>?_⟩
 ·rw[fp1 hi]at hx
  cases hx
  exact hc
 ·have:=h j hj _ (fp1 Oa);simpa using this
theorem cv7{α:Type}{l:List α}{f:α→Bool}(h:∀j,j<l.length→∀y,l[j]? =some y→f y=false):l.findIdx? f=none:=by
 rw[ga2];intro x hx;obtain⟨j,hj⟩:=fr5 hx;exact h j (fp7.1 hj).1 x hj
theorem cv8{α:Type}{l:List α}{f:α→Bool}:decide (cv5 (l.findIdx? f)≥0)=l.any f:=by
 cases h:l.findIdx? f with
 |none=>
  rw[ga2]at h;have:l.any f=false:=by rw[fv8];intro x hx;simpa using h x hx
  rw[this];rfl
 |some i=>
  obtain⟨hi,h1,-⟩:=ga1.1 h;have:l.any f=true:=fy5.2 ⟨_,fw1 hi,h1⟩;rw[this];simp[cv5]
structure SFc{α:Type}(l:List α)(f:α→Bool) where
 i:Nat
 hi:i≤l.length
 ok:∀j,j<i→∀y,l[j]? =some y→f y=false
theorem SFc.next{α:Type}{l:List α}{f:α→Bool}{i:Nat}{x:α}(hx:l[i]? =some x)(hc:f x=false)(h:∀j,j<i→∀y,l[j]? =some y→f y=false):∀j,j<i+1→∀y,l[j]? =some y→f y=false:=by
 intro j hj y hy;rcases Nat.lt_succ_iff_lt_or_eq.1 hj with h1|rfl
 ·exact h j h1 y hy
 ·rw[hx]at hy;cases hy;exact hc
theorem cv9(fn:FuncId)(hb:an1 E fn)(f:ByteArray→Bool)(l:List (ByteArray))(hf:∀x∈l,Ev E fn [D.str x] (.d (.bool (f x)))):Ev E 187 [.sl (l.map D.str),.imm (.func (.func fn) #[] #[])] (.d (.int (cv5 (l.findIdx? f)))):=Ev.fit fun hfit=>by
 have hmax:=(cv4 (hfit (.sl (l.map D.str)) Oc)).1;have hle:(l.map D.str).length=l.length:=Oc
 refine ye2 func187 ntmps187 fun _ _ _=>?_
 repeat'(refine yz ?_)
 refine ac7 (α:=SFc l f) (fun p=>⟨[(0,.d (.sl (l.map D.str))),(1,.d (.imm (.func (.func fn) #[] #[]))),(7,.d (.int (l.map D.str).length)),(8,.d (.int p.i))],[]⟩) (fun p=>l.length-p.i) ⟨0,by omega,fun j hj=>absurd hj Oa⟩ (zle 0) ?_;rintro⟨i,hi,ok⟩;dsimp only;rcases fp2 i l.length with hlt|hge
 ·have g1:decide ((i:Int)<((l.map D.str).length:Int))=true:=by rw[hle];simpa using hlt
  have hx0:=fp1 hlt;generalize l[i]=y at hx0;have hx:=cv3 (f:=D.str) hx0;have h:=hf y (fp3 hx0)
  cases hc:f y with
  |true=>
   rw[hc]at h;rw[cv6 hx0 hc ok]
   repeat'(first|refine yz ?_|refine yi (D.str y) hx ?_|refine yp hb h ?_|exact zD)
  |false=>
   rw[hc]at h
   repeat'(first|refine yz ?_|refine yi (D.str y) hx ?_|refine yp hb h ?_)
   refine ac1 ?_;exact⟨⟨i+1,by omega,SFc.next hx0 hc ok⟩,by dsimp only;omega,(zle 0)⟩
 ·have g1:decide ((i:Int)<((l.map D.str).length:Int))=false:=by rw[hle];simp;omega
  rw[cv7 fun j hj=>ok j Oa]
  exact Ok
theorem cw0(fn:FuncId)(hb:an1 E fn)(f:ByteArray→Bool)(l:List (ByteArray))(hf:∀x∈l,Ev E fn [D.str x] (.d (.bool (f x)))):Ev E 120 [.sl (l.map D.str),.imm (.func (.func fn) #[] #[])] (.d (.bool (l.any f))):=by
 have h:=cv9 fn hb f l hf;rw[←cv8];refine ye2 func120 ntmps120 fun _ _ _=>?_
 repeat'(first|refine yz ?_|refine yp b187 h ?_|exact zD)
theorem cw1(fn:FuncId)(hb:an1 E fn)(f:Ex→Bool)(l:List (Ex))(hf:∀x∈l,Ev E fn [by6 x] (.d (.bool (f x)))):Ev E 130 [.sl (l.map by6),.imm (.func (.func fn) #[] #[])] (.d (.int (cv5 (l.findIdx? f)))):=Ev.fit fun hfit=>by
 have hmax:=(cv4 (hfit (.sl (l.map by6)) Oc)).1;have hle:(l.map by6).length=l.length:=Oc
 refine ye2 func130 ntmps130 fun _ _ _=>?_
 repeat'(refine yz ?_)
 refine ac7 (α:=SFc l f) (fun p=>⟨[(0,.d (.sl (l.map by6))),(1,.d (.imm (.func (.func fn) #[] #[]))),(7,.d (.int (l.map by6).length)),(8,.d (.int p.i))],[]⟩) (fun p=>l.length-p.i) ⟨0,by omega,fun j hj=>absurd hj Oa⟩ (zle 0) ?_;rintro⟨i,hi,ok⟩;dsimp only;rcases fp2 i l.length with hlt|hge
 ·have g1:decide ((i:Int)<((l.map by6).length:Int))=true:=by rw[hle];simpa using hlt
  have hx0:=fp1 hlt;generalize l[i]=y at hx0;have hx:=cv3 (f:=by6) hx0;have h:=hf y (fp3 hx0)
  cases hc:f y with
  |true=>
   rw[hc]at h;rw[cv6 hx0 hc ok]
   repeat'(first|refine yz ?_|refine yi (by6 y) hx ?_|refine yp hb h ?_|exact zD)
  |false=>
   rw[hc]at h
   repeat'(first|refine yz ?_|refine yi (by6 y) hx ?_|refine yp hb h ?_)
   refine ac1 ?_;exact⟨⟨i+1,by omega,SFc.next hx0 hc ok⟩,by dsimp only;omega,(zle 0)⟩
 ·have g1:decide ((i:Int)<((l.map by6).length:Int))=false:=by rw[hle];simp;omega
  rw[cv7 fun j hj=>ok j Oa]
  exact Ok
theorem cw2(fn:FuncId)(hb:an1 E fn)(f:Ex→Bool)(l:List (Ex))(hf:∀x∈l,Ev E fn [by6 x] (.d (.bool (f x)))):Ev E 67 [.sl (l.map by6),.imm (.func (.func fn) #[] #[])] (.d (.bool (l.any f))):=by
 have h:=cw1 fn hb f l hf;rw[←cv8];refine ye2 func67 ntmps67 fun _ _ _=>?_
 repeat'(first|refine yz ?_|refine yp b130 h ?_|exact zD)
theorem cw3(fn:FuncId)(hb:an1 E fn)(f:EP→Bool)(l:List (EP))(hf:∀x∈l,Ev E fn [cp3 x] (.d (.bool (f x)))):Ev E 266 [.sl (l.map cp3),.imm (.func (.func fn) #[] #[])] (.d (.int (cv5 (l.findIdx? f)))):=Ev.fit fun hfit=>by
 have hmax:=(cv4 (hfit (.sl (l.map cp3)) Oc)).1;have hle:(l.map cp3).length=l.length:=Oc
 refine ye2 func266 ntmps266 fun _ _ _=>?_
 repeat'(refine yz ?_)
 refine ac7 (α:=SFc l f) (fun p=>⟨[(0,.d (.sl (l.map cp3))),(1,.d (.imm (.func (.func fn) #[] #[]))),(7,.d (.int (l.map cp3).length)),(8,.d (.int p.i))],[]⟩) (fun p=>l.length-p.i) ⟨0,by omega,fun j hj=>absurd hj Oa⟩ (zle 0) ?_;rintro⟨i,hi,ok⟩;dsimp only;rcases fp2 i l.length with hlt|hge
 ·have g1:decide ((i:Int)<((l.map cp3).length:Int))=true:=by rw[hle];simpa using hlt
  have hx0:=fp1 hlt;generalize l[i]=y at hx0;have hx:=cv3 (f:=cp3) hx0;have h:=hf y (fp3 hx0)
  cases hc:f y with
  |true=>
   rw[hc]at h;rw[cv6 hx0 hc ok]
   repeat'(first|refine yz ?_|refine yi (cp3 y) hx ?_|refine yp hb h ?_|exact zD)
  |false=>
   rw[hc]at h
   repeat'(first|refine yz ?_|refine yi (cp3 y) hx ?_|refine yp hb h ?_)
   refine ac1 ?_;exact⟨⟨i+1,by omega,SFc.next hx0 hc ok⟩,by dsimp only;omega,(zle 0)⟩
 ·have g1:decide ((i:Int)<((l.map cp3).length:Int))=false:=by rw[hle];simp;omega
  rw[cv7 fun j hj=>ok j Oa]
  exact Ok
theorem cw4(fn:FuncId)(hb:an1 E fn)(f:EP→Bool)(l:List (EP))(hf:∀x∈l,Ev E fn [cp3 x] (.d (.bool (f x)))):Ev E 196 [.sl (l.map cp3),.imm (.func (.func fn) #[] #[])] (.d (.bool (l.any f))):=by
 have h:=cw3 fn hb f l hf;rw[←cv8];refine ye2 func196 ntmps196 fun _ _ _=>?_
 repeat'(first|refine yz ?_|refine yp b266 h ?_|exact zD)
theorem cw5:∀a b:List UInt8,(Op.bytesLess a b=true∧Op.bytesLess b a=false∧a≠b)∨(Op.bytesLess a b=false∧Op.bytesLess b a=true∧a≠b)∨(Op.bytesLess a b=false∧Op.bytesLess b a=false∧a=b)
 |[],[]=>.inr (.inr ⟨rfl,rfl,rfl⟩)
 |[],_::_=>.inl ⟨rfl,rfl,by simp⟩
 |_::_,[]=>.inr (.inl ⟨rfl,rfl,by simp⟩)
 |x::a,y::b=>by
  have ih:=cw5 a b;simp only[Op.bytesLess];rcases Nat.lt_trichotomy x.toNat y.toNat with h|h|h
  ·have h1:x<y:=h;have h2: ¬ y<x:=fun h'=>Nat.lt_asymm h h'
   have h3:x≠y:=fun e=>by subst e;omega
   have h4:(y==x)=false:=by rw[beq_eq_false_iff_ne];exact fun e=>h3 e.symm
   left;refine⟨by simp[h1],by simp[h2,h4],fun e=>h3 (List.cons.inj e).1⟩
  ·have e:x=y:=UInt8.toNat_inj.1 h;subst e;have h2: ¬ x<x:=fun h'=>fx4 _ h'
   simp only[h2,decide_false,beq_self_eq_true,fs6,fs4];rcases ih with⟨i1,i2,i3⟩|⟨i1,i2,i3⟩|⟨i1,i2,i3⟩
   ·exact .inl ⟨i1,i2,fun e=>i3 (List.cons.inj e).2⟩
   ·exact .inr (.inl ⟨i1,i2,fun e=>i3 (List.cons.inj e).2⟩)
   ·exact .inr (.inr ⟨i1,i2,by rw[i3]⟩)
  ·have h1:y<x:=h;have h2: ¬ x<y:=fun h'=>Nat.lt_asymm h h'
   have h3:x≠y:=fun e=>by subst e;omega
   have h4:(x==y)=false:=by rw[beq_eq_false_iff_ne];exact h3
   right;left;refine⟨by simp[h2,h4],by simp[h1],fun e=>h3 (List.cons.inj e).1⟩
theorem cw6(a b:ByteArray):(Op.bytesLess b.toList a.toList||b.toList==a.toList)= !Op.bytesLess a.toList b.toList:=by
 rcases cw5 a.toList b.toList with⟨h1,h2,h3⟩|⟨h1,h2,h3⟩|⟨h1,h2,h3⟩
 ·rw[h1,h2,show(b.toList==a.toList)=false by rw[beq_eq_false_iff_ne];exact fun e=>h3 e.symm];rfl
 ·rw[h1,h2];rfl
 ·rw[h1,h2,h3];simp
structure SRc(l:List ByteArray) where
 i:Nat
 hi:i+1≤l.length
 ok:cq1 l=cq1 (l.drop i)
theorem cw7{l:List ByteArray}{i:Nat}{a b:ByteArray}(ha:l[i]? =some a)(hb:l[i+1]? =some b):cq1 (l.drop i)=(Op.bytesLess a.toList b.toList&&cq1 (l.drop (i+1))):=by
 rw[cv2 ha,cv2 hb];rfl
theorem cw8{l:List ByteArray}{i:Nat}(h:i+1=l.length):cq1 (l.drop i)=true:=by
 obtain⟨a,ha⟩:∃a,l[i]? =some a:=⟨_,fp1 Oa⟩;rw[cv2 ha,fp8 Oa];rfl
theorem cw9(l:List ByteArray):Ev E 203 [.sl (l.map .str)] (.d (.bool (cq1 l))):=Ev.fit fun hfit=>by
 have hmax:=(cv4 (hfit (.sl (l.map .str)) Oc)).1;have hle:(l.map D.str).length=l.length:=Oc
 by_cases h0:l=[]
 ·subst h0;refine ye1 func203 ntmps203 fun _ _ _=>?_
  repeat'(refine yz ?_)
  refine ac7 (α:=Unit) (fun p=>⟨[(0,.d (.sl [])),(3,.d (.int 1))],[]⟩) (fun p=>0) () (zle 0) ?_;rintro-;have g1:decide ((1:Int)<(([]:List D).length:Int))=false:=rfl
  exact Ok
 have hp:=fy9.2 h0;refine ye1 func203 ntmps203 fun _ _ _=>?_
 repeat'(refine yz ?_)
 refine ac7 (α:=SRc l) (fun p=>⟨[(0,.d (.sl (l.map .str))),(3,.d (.int ((p.i+1:Nat):Int)))],[]⟩) (fun p=>l.length-p.i) ⟨0,by omega,rfl⟩ (zle 0) ?_;rintro⟨i,hi,ok⟩;dsimp only;rcases fp2 (i+1) l.length with hlt|hge
 ·have g1:decide (((i+1:Nat):Int)<((l.map D.str).length:Int))=true:=by rw[hle];simp;omega
  have ha0:=fp1 (show i<l.length by omega);have hb0:=fp1 hlt;generalize l[i]=a at ha0;generalize l[i+1]=b at hb0;have hb:=cv3 (f:=D.str) hb0
  have ha:(l.map D.str)[(((i+1:Nat):Int) -1).toNat]? =some (.str a):=by
   rw[show(((i+1:Nat):Int) -1)=(i:Int) by omega];exact cv3 (f:=D.str) ha0
  have g2:=cw6 a b;rw[ok,cw7 ha0 hb0]
  cases hc:Op.bytesLess a.toList b.toList with
  |true=>
   have hcn:(!Op.bytesLess a.toList b.toList)=false:=by rw[hc];rfl
   rw[hc]at g2
   repeat'(first|refine yz ?_|refine yi (.str b) hb ?_|refine yi (.str a) ha ?_)
   refine ac1 ?_;exact⟨⟨i+1,hlt,by rw[ok,cw7 ha0 hb0,hc];rfl⟩,by dsimp only;omega,(zle 0)⟩
  |false=>
   have hcn:(!Op.bytesLess a.toList b.toList)=true:=by rw[hc];rfl
   rw[hc]at g2
   repeat'(first|refine yz ?_|refine yi (.str b) hb ?_|refine yi (.str a) ha ?_|exact zD)
 ·have g1:decide (((i+1:Nat):Int)<((l.map D.str).length:Int))=false:=by rw[hle];simp;omega
  rw[ok,cw8 Oa]
  exact Ok
theorem cx0(s:ByteArray):Ev E 268 [.str s] (.d (.bool (!cn4 s))):=by
 have h:=cn6 s;refine ye1 func268 ntmps268 fun _ _ _=>?_
 repeat'(first|refine yz ?_|refine yp br2 h ?_|exact zD)
theorem cx1(l:List ByteArray):Ev E 201 [.sl (l.map .str)] (.d (.bool (l.all cn4))):=by
 have h:=cw0 268 b268 (fun s=> !cn4 s) l fun s _=>cx0 s
 have e:(!(l.any fun s=> !cn4 s))=l.all cn4:=by rw[List.not_any_eq_all_not];simp
 rw[←e];refine ye1 func201 ntmps201 fun _ _ _=>?_
 repeat'(first|refine yz ?_|refine yp b120 h ?_|exact zD)
theorem cx2(e:Ex):by4 e=e.ks.map by6:=by
 obtain⟨op,v,nm,ds,ks⟩:=e;show by5 ks=ks.map by6
 induction ks with
 |nil=>rfl
 |cons x r ih=>simp only[by5,fs1,ih];rfl
theorem cx3(op:Int)(v:V)(nm:ByteArray)(ds:Bool)(ks:List Ex):cp9 (.mk op v nm ds ks)=(op==24||ks.any cp9):=by
 have:hagL ks=ks.any cp9:=by
  induction ks with
  |nil=>rfl
  |cons x r ih=>rw[hagL,ih];rfl
 rw[cp9,this]
theorem cx4(e:Ex):Ev E 63 [by6 e] (.d (.bool (cp9 e))):=by
 refine bz5 (P:=fun e=>Ev E 63 [by6 e] (.d (.bool (cp9 e)))) (fun op v nm ds ks ih=>?_) e;have h:=cw2 63 b63 cp9 ks ih;have hk:=cx2 (.mk op v nm ds ks);simp only[Ex.ks]at hk;rw[←hk]at h;rw[cx3]
 cases c1:op==24 with
 |true=>
  refine ye1 func63 ntmps63 fun _ _ _=>?_
  exact Ok
 |false=>
  refine ye1 func63 ntmps63 fun _ _ _=>?_
  repeat'(first|refine yz ?_|refine yp b67 h ?_|refine yx ?_|exact zD)
theorem cx5(e:EP):Ev E 198 [cp3 e] (.d (.bool (cq5 e))):=by
 obtain⟨vr,ty,dir,mode,mn,mx,ps⟩:=e;refine ye1 func198 ntmps198 fun _ _ _=>?_
 repeat'(first|refine yz ?_|(refine yy ?_ ?_<;>intro _)|(refine qV rfl ?_ ?_<;>intro _))
 all_goals(refine congrArg D.bool ?_;simp_all [cq5,fs3])
 all_goals first|omega|(rw[fq3];simp;omega)
theorem cx6(e:EP):Ev E 205 [cp3 e] (.d (.bool (cq6 e))):=by
 obtain⟨vr,ty,dir,mode,mn,mx,ps⟩:=e;have hl:(ty.map D.str).length=ty.length:=Oc
 refine ye1 func205 ntmps205 fun _ _ _=>?_
 repeat'(first|refine yz ?_|(refine yy ?_ ?_<;>intro _))
 all_goals(refine congrArg D.bool ?_;simp_all [cq6])
 all_goals first|omega|(rw[fq3];simp;omega)
theorem cx7(e:EP):Ev E 197 [cp3 e] (.d (.bool (!cq5 e))):=by
 have h:=cx5 e;refine ye1 func197 ntmps197 fun _ _ _=>?_
 repeat'(first|refine yz ?_|refine yp b198 h ?_|exact zD)
theorem cx8(e:EP):Ev E 204 [cp3 e] (.d (.bool (!cq6 e))):=by
 have h:=cx6 e;refine ye1 func204 ntmps204 fun _ _ _=>?_
 repeat'(first|refine yz ?_|refine yp b205 h ?_|exact zD)
structure SKy(l:List PP) where
 i:Nat
 hi:i≤l.length
theorem cx9{l:List PP}{i:Nat}{x:PP}(h:l[i]? =some x):(cq0 (l.take (i+1))).map D.str=(cq0 (l.take i)).map D.str++ [.str x.key]:=by
 rw[fs5,h];simp[cq0]
theorem cy0(l:List PP)(hl:l.length≤1000000):Ev E 202 [.sl (l.map cp1)] (.d (.sl ((cq0 l).map .str))):=by
 have hle:(l.map cp1).length=l.length:=Oc
 refine ye1 func202 ntmps202 fun _ _ _=>?_
 repeat'(refine yz ?_)
 refine ac7 (α:=SKy l) (fun p=>⟨[(3,bf9 0 ((cq0 (l.take p.i)).map .str)),(6,.d (.sl (l.map cp1))),(7,.d (.int (l.map cp1).length)),(8,.d (.int p.i))],aw7 9 1 ((cq0 (l.take p.i)).map .str)⟩) (fun p=>l.length-p.i) ⟨0,by omega⟩ (zle 0) ?_;rintro⟨i,hi⟩;dsimp only;have hol:((cq0 (l.take i)).map D.str).length≤1000000:=by simp[cq0];omega
 rcases fp2 i l.length with hlt|hge
 ·have g1:decide ((i:Int)<((l.map cp1).length:Int))=true:=by rw[hle];simpa using hlt
  have hx0:=fp1 hlt;generalize l[i]=x at hx0;have hx:=cv3 (f:=cp1) hx0;have hnx:=cx9 hx0;generalize(cq0 (l.take i)).map D.str=o at*
  match o,hol with
  |[],hol=>
   dsimp only[bf9,aw7]
   repeat'(first|refine yz ?_|refine yi (cp1 x) hx ?_|(refine qS rfl ⟨by simp,fun d hd=>by(obtain rfl:=fq2.1 hd;rfl),by(show(0+1)*16≤140737488355328;omega),by(show 0+1≤9223372036854775807;omega)⟩ ?_))
   refine ac1 ?_;refine⟨⟨i+1,by omega⟩,by dsimp only;omega,?_⟩;dsimp only;rw[hnx];exact(bh0 [1])
  |a::q,hol=>
   dsimp only[bf9,aw7]
   repeat'(first|refine yz ?_|refine yi (cp1 x) hx ?_|(refine qS rfl ⟨by simp,fun d hd=>by(obtain rfl:=fq2.1 hd;rfl),by(show((a::q).length+1)*16≤140737488355328;omega),by(show(a::q).length+1≤9223372036854775807;omega)⟩ ?_))
   refine ac1 ?_;refine⟨⟨i+1,by omega⟩,by dsimp only;omega,?_⟩;dsimp only;rw[hnx];exact(bh0 [2])
 ·have g1:decide ((i:Int)<((l.map cp1).length:Int))=false:=by rw[hle];simp;omega
  rw[fq6 hge];generalize(cq0 l).map D.str=o at*
  match o with
  |[]=>
   dsimp only[bf9,aw7]
   exact Ok
  |a::q=>
   dsimp only[bf9,aw7];refine qA ?_;refine au2 0 rfl ?_
   exact Ok
structure SLo(l:List EP) where
 i:Nat
 n:Int
 hi:i≤l.length
 h0:0≤n
 h1:n≤13*i
 ok:cq3 l=(l.drop i).foldl (fun n e=>n+cq2 e) n
theorem cy1(e:EP):0≤cq2 e∧cq2 e≤13:=by
 unfold cq2
 cases e.mode==0<;>simp<;>omega
theorem cy2(p:PA):Ev E 195 [cp4 p] (.d (.bool (cq4 p))):=Ev.fit fun hfit=>by
 obtain⟨vr,ns,es⟩:=p;have hft:=hfit (cp4 ⟨vr,ns,es⟩) Oc;have hmn:=(cv4 (hft.aggs (.sl (ns.map cp2)) Oc)).1;have hme:=(cv4 (hft.aggs (.sl (es.map cp3)) Oc)).1;have hln:(ns.map cp2).length=ns.length:=Oc
 have hle:(es.map cp3).length=es.length:=Oc
 unfold cq4;dsimp only
 cases c1:ns.length==0 with
 |true=>
  have g1:(((ns.map cp2).length:Int)==0)=true:=by rw[hln];simp at c1 ⊢;omega
  refine ye1 func195 ntmps195 fun _ _ _=>?_
  exact Ok
 |false=>
  have g1:(((ns.map cp2).length:Int)==0)=false:=by rw[hln];simp at c1 ⊢;omega
  cases c2:decide (es.length>6)with
  |true=>
   have g2:decide (((es.map cp3).length:Int)>6)=true:=by rw[hle];simp at c2 ⊢;omega
   refine ye1 func195 ntmps195 fun _ _ _=>?_
   exact Ok
  |false=>
   have g2:decide (((es.map cp3).length:Int)>6)=false:=by rw[hle];simp at c2 ⊢;omega
   have h6:es.length≤6:=by simp at c2;omega
   rw[fs4,fs4];refine ye1 func195 ntmps195 fun _ _ _=>?_
   repeat'(first|refine yz ?_|refine yx ?_)
   refine ac7 (α:=SLo es) (fun p=>⟨[(3,.d (.int p.n)),(17,.d (.sl (es.map cp3))),(18,.d (.int (es.map cp3).length)),(19,.d (.int p.i))],[]⟩) (fun p=>es.length-p.i) ⟨0,0,by omega,by omega,by omega,rfl⟩ (zle 0) ?_;rintro⟨i,n,hi,h0,h1,ok⟩;dsimp only at ok ⊢;rcases fp2 i es.length with hlt|hge
   ·have g3:decide ((i:Int)<((es.map cp3).length:Int))=true:=by rw[hle];simpa using hlt
    have hx0:=fp1 hlt;generalize es[i]=e at hx0;have hx:=cv3 (f:=cp3) hx0;have hr:=cy1 e;rw[cv2 hx0,ft5]at ok
    cases c3:e.mode==0 with
    |true=>
     have hn:cq2 e=1:=by unfold cq2;rw[c3];rfl
     rw[hn]at ok
     repeat'(first|refine yz ?_|refine yi (cp3 e) hx ?_)
     refine ac1 ?_;exact⟨⟨i+1,n+1,by omega,by omega,by omega,ok⟩,by dsimp only;omega,(zle 0)⟩
    |false=>
     have hn:cq2 e=min (max e.mx 0) 13:=by unfold cq2;rw[c3];rfl
     rw[hn]at ok hr;have hin:inR .i64 (n+min (max e.mx 0) 13):=by simp only[inR];omega
     repeat'(first|refine yz ?_|refine yi (cp3 e) hx ?_)
     refine ac1 ?_;exact⟨⟨i+1,n+min (max e.mx 0) 13,by omega,by omega,by omega,ok⟩,by dsimp only;omega,(zle 0)⟩
   ·have g3:decide ((i:Int)<((es.map cp3).length:Int))=false:=by rw[hle];simp;omega
    have hn:cq3 es=n:=by rw[ok,fp8 hge];rfl
    rw[hn]
    exact Ok
end Go.Proofs.YtndgolmgaenlfaaGreatDoor
namespace Go.Proofs.YtndgolmgaenlfaaGreatDoor
set_option maxRecDepth 4000
open Go Go.Abs Go.Val Go.RowKit Go.Proofs.Tryz
def ltP(a b:ByteArray):Bool:=Op.bytesLess a.toList b.toList
theorem cy3:∀a b c:List UInt8,Op.bytesLess a b=true→Op.bytesLess b c=true→Op.bytesLess a c=true
 |_,[],_,h,_=>by rename_i a _ _;cases a<;>simp[Op.bytesLess]at h
 |_,_::_,[],_,h=>by simp[Op.bytesLess]at h
 |[],_::_,_::_,_,_=>rfl
 |x::a,y::b,z::c,h1,h2=>by
  simp only[Op.bytesLess,ft0,fq9,decide_eq_true_eq,beq_iff_eq]at h1 h2 ⊢;rcases h1 with p|⟨p,p'⟩
  ·have p0:x.toNat<y.toNat:=p;rcases h2 with q|⟨q,-⟩
   ·have q0:y.toNat<z.toNat:=q;exact .inl (show x.toNat<z.toNat by omega)
   ·subst q;exact .inl p
  ·subst p;rcases h2 with q|⟨q,q'⟩
   ·exact .inl q
   ·exact .inr ⟨q,cy3 a b c p' q'⟩
theorem cy4{a b:ByteArray}(h:a.toList=b.toList):a=b:=by
 rw[ByteArray.toList_eq,ByteArray.toList_eq]at h;exact ByteArray.ext (Array.toList_inj.1 h)
theorem cy5(a b:ByteArray):(a.toList==b.toList)=decide (a=b):=by
 rw[fq3,beq_iff_eq,decide_eq_true_eq];exact⟨cy4,fun h=>by rw[h]⟩
theorem cy6{a b c:ByteArray}(h1:ltP a b=true)(h2:ltP b c=true):ltP a c=true:=cy3 _ _ _ h1 h2
theorem cy7(a:ByteArray):ltP a a=false:=by
 unfold ltP;rcases cw5 a.toList a.toList with⟨-,-,h⟩|⟨-,-,h⟩|⟨h,-,-⟩
 ·exact absurd rfl h
 ·exact absurd rfl h
 ·exact h
theorem cy8(a b:ByteArray):ltP a b=true∨a=b∨ltP b a=true:=by
 unfold ltP;rcases cw5 a.toList b.toList with⟨h,-,-⟩|⟨-,h,-⟩|⟨-,-,h⟩
 ·exact .inl h
 ·exact .inr (.inr h)
 ·exact .inr (.inl (cy4 h))
theorem cy9{a b:ByteArray}(h:ltP a b=true):a≠b:=fun e=>by rw[e,cy7]at h;cases h
theorem cz0{a b:ByteArray}(h:ltP a b=true):ltP b a=false:=by
 cases h2:ltP b a with
 |false=>rfl
 |true=>rw[←cy7 a];exact(cy6 h h2).symm
abbrev cz1(l:List ByteArray):Prop:=l.Pairwise fun a b=>ltP a b=true
def cz2(s:ByteArray):List ByteArray→List ByteArray
 |[]=>[s]
 |x::r=>bif ltP x s then x::cz2 s r else bif x.toList==s.toList then x::r else s::x::r
theorem cz3{s y:ByteArray}:∀{l:List ByteArray},y∈cz2 s l↔y=s∨y∈l
 |[]=>by simp[cz2]
 |x::r=>by
  have ih:=cz3 (s:=s) (y:=y) (l:=r);unfold cz2
  cases h1:ltP x s with
  |true=>rw[cond_true,fq1,ih,fq1];exact or_left_comm
  |false=>
   rw[cond_false]
   cases h2:x.toList==s.toList with
   |true=>
    obtain rfl:=cy4 (by simpa using h2:x.toList=s.toList);rw[cond_true,fq1];exact⟨.inr,fun h=>h.elim .inl id⟩
   |false=>rw[cond_false,fq1]
theorem cz4{s:ByteArray}:∀{l:List ByteArray},cz1 l→cz1 (cz2 s l)
 |[],_=>List.pairwise_singleton _ _
 |x::r,h=>by
  rw[cz1,fz0]at h;unfold cz2
  cases h1:ltP x s with
  |true=>
   rw[cond_true,cz1,fz0];refine⟨fun y hy=>?_,cz4 h.2⟩;rcases cz3.1 hy with rfl|hy
   ·exact h1
   ·exact h.1 y hy
  |false=>
   rw[cond_false]
   cases h2:x.toList==s.toList with
   |true=>rw[cond_true];exact fz0.2 h
   |false=>
    have h3:ltP s x=true:=by
     rcases cy8 x s with h|h|h
     ·rw[h]at h1;cases h1
     ·rw[h,beq_self_eq_true]at h2;cases h2
     ·exact h
    rw[cond_false,cz1,fz0];refine⟨fun y hy=>?_,fz0.2 h⟩;rcases fq1.1 hy with rfl|hy
    ·exact h3
    ·exact cy6 h3 (h.1 y hy)
theorem cz5:∀{a b:List ByteArray},cz1 a→cz1 b→(∀x,x∈a↔x∈b)→a=b
 |[],[],_,_,_=>rfl
 |[],y::q,_,_,h=>absurd ((h y).2 Oc) Oc
 |x::r,[],_,_,h=>absurd ((h x).1 Oc) Oc
 |x::r,y::q,ha,hb,h=>by
  rw[cz1,fz0]at ha hb
  have e:x=y:=by
   rcases fq1.1 ((h x).1 Oc)with e|hx
   ·exact e
   ·rcases fq1.1 ((h y).2 Oc)with e|hy
    ·exact e.symm
    ·have h1:=hb.1 x hx;have h2:=ha.1 y hy;rw[cz0 h1]at h2
     cases h2
  subst e;refine congrArg (x:: ·) (cz5 ha.2 hb.2 fun z=>?_);constructor
  ·intro hz;rcases fq1.1 ((h z).1 (by simp[hz]))with e|h'
   ·exact absurd e.symm (cy9 (ha.1 z hz))
   ·exact h'
  ·intro hz;rcases fq1.1 ((h z).2 (by simp[hz]))with e|h'
   ·exact absurd e.symm (cy9 (hb.1 z hz))
   ·exact h'
def cz6(acc l:List ByteArray):List ByteArray:=l.foldl (fun a s=>cz2 s a) acc
theorem cz7{y:ByteArray}:∀{l acc:List ByteArray},y∈cz6 acc l↔y∈acc∨y∈l
 |[],acc=>by simp[cz6]
 |s::r,acc=>by
  have ih:=cz7 (y:=y) (l:=r) (acc:=cz2 s acc);show y∈cz6 (cz2 s acc) r↔_;rw[ih,cz3,fq1];constructor
  ·rintro((h|h)|h)
   ·exact .inr (.inl h)
   ·exact .inl h
   ·exact .inr (.inr h)
  ·rintro(h|h|h)
   ·exact .inl (.inr h)
   ·exact .inl (.inl h)
   ·exact .inr h
theorem cz8:∀{l acc:List ByteArray},cz1 acc→cz1 (cz6 acc l)
 |[],_,h=>h
 |s::r,acc,h=>cz8 (l:=r) (cz4 (s:=s) h)
theorem cz9{acc l:List ByteArray}(h:cz1 acc):cz6 acc (cz6 [] l)=cz6 acc l:=
 cz5 (cz8 h) (cz8 h) fun x=>by rw[cz7,cz7,cz7];simp
theorem da0{acc a b:List ByteArray}:cz6 acc (a++b)=cz6 (cz6 acc a) b:=by unfold cz6;rw[List.foldl_append]
theorem da1(s:ByteArray):∀{l:List ByteArray},cz1 l→cz2 s l=l.takeWhile (fun x=>ltP x s)++s::(l.dropWhile fun x=>ltP x s).filter fun x=> !(x.toList==s.toList)
 |[],_=>rfl
 |x::r,h=>by
  rw[cz1,fz0]at h;unfold cz2
  cases h1:ltP x s with
  |true=>
   rw[cond_true,da1 s h.2,List.takeWhile_cons_of_pos (p:=fun x=>ltP x s) h1,List.dropWhile_cons_of_pos (p:=fun x=>ltP x s) h1];rfl
  |false=>
   rw[cond_false,List.takeWhile_cons_of_neg (p:=fun x=>ltP x s) (by rw[h1];decide),List.dropWhile_cons_of_neg (p:=fun x=>ltP x s) (by rw[h1];decide),fr8]
   cases h2:x.toList==s.toList with
   |true=>
    obtain rfl:=cy4 (by simpa using h2:x.toList=s.toList);rw[cond_true,List.filter_cons_of_neg Oc];refine congrArg (x:: ·) (List.filter_eq_self.2 fun y hy=>?_).symm;rw[cy5];simpa using(cy9 (h.1 y hy)).symm
   |false=>
    have h3:ltP s x=true:=by
     rcases cy8 x s with h|h|h
     ·rw[h]at h1;cases h1
     ·rw[h,beq_self_eq_true]at h2;cases h2
     ·exact h
    rw[cond_false];refine congrArg (s:: ·) (List.filter_eq_self.2 fun y hy=>?_).symm;rw[cy5];rcases fq1.1 hy with rfl|hy
    ·simpa using(cy9 h3).symm
    ·simpa using(cy9 (cy6 h3 (h.1 y hy))).symm
mutual
def usX:Ex→List ByteArray
 |.mk op _ nm _ ks=>(bif op==2 then [nm]else [])++da2 ks
def da2:List Ex→List ByteArray
 |[]=>[]
 |x::r=>usX x++da2 r
end
def da3(e:Ex):List ByteArray:=cz6 [] (usX e)
theorem da4(e:Ex):cz1 (da3 e):=cz8 List.Pairwise.nil
theorem da5{e:Ex}{s:ByteArray}:s∈da3 e↔s∈usX e:=by unfold da3;rw[cz7];simp
theorem da6:∀l:List Ex,da2 l=l.flatMap usX
 |[]=>rfl
 |x::r=>by rw[da2,fs2,da6 r]
theorem da7(e:Ex):(usX e).length≤nd e:=by
 refine bz5 (P:=fun e=>(usX e).length≤nd e) (fun op v nm ds ks ih=>?_) e;rw[usX,cj4];show _≤ndL ks+1
 have key:∀l:List Ex,(∀x∈l,(usX x).length≤nd x)→(da2 l).length≤ndL l:=by
  intro l
  induction l with
  |nil=>intro _;exact fq7 _
  |cons a r ihr=>
   intro h;have h1:=h a Oc;have h2:=ihr fun x hx=>h x (by simp[hx])
   simp only[da2,fp4,ndL];omega
 have hk:=key ks ih;rw[fp4]
 cases op==2 with
 |true=>rw[cond_true];simp;omega
 |false=>rw[cond_false];simp;omega
theorem da8(s:ByteArray):∀l:List ByteArray,(cz2 s l).length≤l.length+1
 |[]=>by simp[cz2]
 |x::r=>by
  have:=da8 s r;unfold cz2
  cases ltP x s with
  |true=>rw[cond_true];simp;omega
  |false=>
   rw[cond_false]
   cases x.toList==s.toList with
   |true=>rw[cond_true];simp
   |false=>rw[cond_false];simp
theorem da9:∀(l acc:List ByteArray),(cz6 acc l).length≤acc.length+l.length
 |[],acc=>by simp[cz6]
 |s::r,acc=>by
  have h1:=da9 r (cz2 s acc);have h2:=da8 s acc;show(cz6 (cz2 s acc) r).length≤_;simp only[fp5];omega
theorem db0(e:Ex):(da3 e).length≤nd e:=by
 have h1:=da9 (usX e) [];have h2:=da7 e;unfold da3;simp only[fq0]at h1;omega
def db1(ks:List ByteArray)(s:ByteArray):List ByteArray:=bif ks.any (fun x=>x.toList==s.toList)then ks else ks++ [s]
theorem db2{ks:List ByteArray}{s:ByteArray}:(ks.any fun x=>x.toList==s.toList)=true↔s∈ks:=by
 rw[fy5];constructor
 ·rintro⟨x,hx,h⟩;obtain rfl:=cy4 (by simpa using h:x.toList=s.toList);exact hx
 ·intro h;exact⟨s,h,by simp⟩
theorem db3{ks:List ByteArray}{s:ByteArray}:(ks.any fun x=>x.toList==s.toList)=false↔s ∉ ks:=by rw[←fv6,db2]
theorem db4{ks:List ByteArray}{s y:ByteArray}:y∈db1 ks s↔y=s∨y∈ks:=by
 unfold db1
 cases h:ks.any fun x=>x.toList==s.toList with
 |true=>
  have h:=db2.1 h;rw[cond_true];exact⟨.inr,fun h'=>h'.elim (fun e=>e ▸ h) id⟩
 |false=>
  rw[cond_false,fr6,fq2];exact or_comm
theorem db5{ks:List ByteArray}{s:ByteArray}(hn:ks.Nodup):(db1 ks s).Nodup:=by
 unfold db1
 cases h:ks.any fun x=>x.toList==s.toList with
 |true=>rw[cond_true];exact hn
 |false=>
  have h:=db3.1 h;rw[cond_false];refine List.nodup_append.2 ⟨hn,List.nodup_cons.2 ⟨by simp,List.nodup_nil⟩,fun a ha b hb=>?_⟩;rw[fq2]at hb;subst hb;rintro rfl;exact h ha
theorem db6(ks:List ByteArray)(s:ByteArray):(db1 ks s).length≤ks.length+1:=by
 unfold db1
 cases ks.any fun x=>x.toList==s.toList with
 |true=>rw[cond_true];omega
 |false=>rw[cond_false];simp
def db7(ks l:List ByteArray):List ByteArray:=l.foldl db1 ks
theorem db8{y:ByteArray}:∀{l ks:List ByteArray},y∈db7 ks l↔y∈ks∨y∈l
 |[],ks=>by simp[db7]
 |s::r,ks=>by
  show y∈db7 (db1 ks s) r↔_;rw[db8,db4,fq1];constructor
  ·rintro((h|h)|h)
   ·exact .inr (.inl h)
   ·exact .inl h
   ·exact .inr (.inr h)
  ·rintro(h|h|h)
   ·exact .inl (.inr h)
   ·exact .inl (.inl h)
   ·exact .inr h
theorem db9:∀{l ks:List ByteArray},ks.Nodup→(db7 ks l).Nodup
 |[],_,h=>h
 |s::r,ks,h=>db9 (l:=r) (db5 (s:=s) h)
theorem dc0:∀(l ks:List ByteArray),(db7 ks l).length≤ks.length+l.length
 |[],ks=>by simp[db7]
 |s::r,ks=>by
  have h1:=dc0 r (db1 ks s);have h2:=db6 ks s;show(db7 (db1 ks s) r).length≤_;simp only[fp5];omega
theorem dc1{ks a b:List ByteArray}:db7 ks (a++b)=db7 (db7 ks a) b:=by unfold db7;rw[List.foldl_append]
end Go.Proofs.YtndgolmgaenlfaaGreatDoor
namespace Go.Proofs.YtndgolmgaenlfaaGreatDoor
set_option maxRecDepth 4000
open Go Go.Abs Go.Val Go.RowKit Go.Maps Go.Sort Go.Shelf Go.Proofs Go.Proofs.Tryz
theorem dc2(m:Nat):AnyZ.SortsIn Tryz.prog Tryz.sortedU_ren Fence.wide m:=
 ⟨fun blk off cap ss W hH hblk hsz=>callsIn_wide.2 (AnyM.slices_Sort_string Tryz.sortU blk off cap ss W hH hblk hsz),fun p cap W=>callsIn_wide.2 (AnyM.slices_Sort_string_none Tryz.sortU p cap W)⟩
set_option maxHeartbeats 1000000 in
theorem dc3{H:Type}(w:World)(Bm b nn:Nat)(D0:DataW H)(R:Value→Option (DataW H × List MemPlace))(hBm:Bm<w.heap.size)(hm:w.cell? ⟨Bm,0,none⟩=some (.map (some b)))(hown:w.ownsMap Tryz.prog 9 R b nn D0)(hmax:Maps.size D0≤maxLen)(hbytes:Maps.size D0*16≤140737488355328):
  Calls Tryz.prog 109 #[.func (.func 264) #[] #[.pointer (some ⟨Bm,0,none⟩)]] w fun e w'=>∃(v:Value) (ss:List (List UInt8)),e=.returned v∧ss.Perm (strKeys D0)∧
   w'.ownsRow w.heap.size 9 1 v ss.length ((ss.mergeSort (fun x y=>decide (x≤y))).map encStr)∧(v=.slice none 0 0↔ss=[])∧Below w.heap.size w w':=by
 have hseq:SeqGives Fence.wide 2 Tryz.prog 264 #[.pointer (some ⟨Bm,0,none⟩)] encStr (fun ss=>ss.Perm (strKeys D0)) (Maps.size D0) w:=
  AnyZ.keys_gives (ρ:=Tryz.keysU_ren) {Tryz.keysU with} Fence.wide _ trivial rfl Oa Bm b nn D0 _ hBm hm hown
 exact callsIn_wide.1 (AnyZ.sorted_in Tryz.sortedU Fence.wide 5 trivial trivial trivial trivial rfl Oa (dc2 _) (enters_of func177 Ob rfl) 264 _ trivial (enters_of func264 Ob rfl) _ _ hmax hbytes _ hseq)
def mpU(ks:List ByteArray):List (Value × D):=ks.map fun s=>(.string s,.bool true)
theorem dc4(s:ByteArray):∀ks:List ByteArray,bi8 (.string s) (mpU ks)=ks.findIdx? fun x=>x.toList==s.toList
 |[]=>rfl
 |x::r=>by
  have ih:=dc4 s r
  have e:vEq (.string s) (.string x)=(x.toList==s.toList):=by
   show(s==x)=_;rw[cy5,fq3,decide_eq_true_eq];rw[MapKept.bytes_beq];exact⟨fun h=>h.symm,fun h=>h.symm⟩
  show(bif vEq (.string s) (.string x)then some 0 else(bi8 (.string s) (mpU r)).map (· +1))=_;rw[e,ih,List.findIdx?_cons]
  cases x.toList==s.toList<;>rfl
theorem dc5(s:ByteArray)(ks:List ByteArray):bi9 (.string s) (.bool true) (mpU ks)=mpU (db1 ks s):=by
 unfold bi9 db1;rw[dc4]
 cases h:ks.findIdx? fun x=>x.toList==s.toList with
 |none=>
  rw[ga2]at h
  have:(ks.any fun x=>x.toList==s.toList)=false:=by
   rw[←fv6,fy5];rintro⟨x,hx,he⟩;rw[h x hx]at he;cases he
  rw[this,cond_false];simp[mpU]
 |some i=>
  obtain⟨hi,he,-⟩:=ga1.1 h;have:(ks.any fun x=>x.toList==s.toList)=true:=fy5.2 ⟨_,fw1 hi,he⟩;rw[this,cond_true];have hx:ks[i]=s:=cy4 (by simpa using he);show(mpU ks).set i (.string s,.bool true)=mpU ks;apply fx5;intro j;rw[fu9];split
  ·rename_i hj
   subst hj;have hl:i<(mpU ks).length:=by simp[mpU,hi]
   rw[if_pos hl];simp[mpU,fp1 hi,hx]
  ·rfl
theorem le_lt{x y:List UInt8}(h:x≤y)(hn:x≠y):Op.bytesLess x y=true:=by
 rcases cw5 x y with⟨h1,-,-⟩|⟨-,h2,-⟩|⟨-,-,h3⟩
 ·exact h1
 ·rw[bytesLess_eq,decide_eq_true_eq]at h2;exact absurd h2 (List.not_lt.2 h)
 ·exact absurd h3 hn
def toB(l:List (List UInt8)):List ByteArray:=l.map fun b=>⟨b.toArray⟩
theorem dc6{ks:List ByteArray}{ss:List (List UInt8)}(hp:ss.Perm (cf7 ks))(hn:ks.Nodup):toB (ss.mergeSort fun x y=>decide (x≤y))=cz6 [] ks:=by
 have hsl:(ss.mergeSort fun x y=>decide (x≤y)).Pairwise fun x y=>x≤y:=by
  have:=List.pairwise_mergeSort (le:=fun x y:List UInt8=>decide (x≤y)) (fun a b c h1 h2=>by simp only[decide_eq_true_eq]at*;exact List.le_trans h1 h2) (fun a b=>by simp only[ft0,decide_eq_true_eq];exact List.le_total a b) ss;exact this.imp fun h=>by simpa using h
 have hbn:(cf7 ks).Nodup:=by
  unfold cf7;refine List.pairwise_map.2 (hn.imp fun{a b} h e=>h ?_);exact ByteArray.ext (Array.toList_inj.1 e)
 have hpm:(ss.mergeSort fun x y=>decide (x≤y)).Perm (cf7 ks):=(List.mergeSort_perm _ _).trans hp;have hnd:(ss.mergeSort fun x y=>decide (x≤y)).Nodup:=hpm.nodup_iff.2 hbn;generalize(ss.mergeSort fun x y=>decide (x≤y))=T at*;refine cz5 ?_ (cz8 List.Pairwise.nil) fun x=>?_
 ·unfold toB;refine List.pairwise_map.2 ((hsl.and hnd).imp fun{a b} h=>?_);unfold ltP;rw[ByteArray.toList_eq,ByteArray.toList_eq];exact le_lt h.1 h.2
 ·rw[cz7];unfold toB;rw[fq8];constructor
  ·rintro⟨b,hb,rfl⟩;obtain⟨s,hs,rfl⟩:=fq8.1 (hpm.mem_iff.1 hb);exact .inr hs
  ·rintro(h|h)
   ·cases h
   ·exact⟨x.data.toList,hpm.mem_iff.2 (fq8.2 ⟨x,h,rfl⟩),rfl⟩
theorem dc7(mt:TypeId)(ks:List ByteArray)(hs:∀s∈ks,s.size≤maxLen)(hn:ks.Nodup)(hsz:ks.length≤1000000000):
  EvS E 109 [.clo 264 [.ptr 0 0]] [.var mt (.w (.mp 1)),.map .string (mpU ks)] (.d (.sl ((cz6 [] ks).map .str))) [.var mt (.w (.mp 1)),.map .string (mpU ks)]:=by
 intro w F σ vs hi hl hr
 match vs,hl with
 |[v0],_=>
  obtain⟨us,rfl,ul,ur⟩:=hr 0 _ _ rfl rfl
  match us,ul with
  |[u0],_=>
   obtain⟨b,c,n,e1,rfl⟩:=ur 0 _ _ rfl rfl;obtain⟨cs,g1,g2,g3,g4,g5,g6⟩:=hi.obs 0 _ _ rfl e1
   match cs,g2 with
   |[sv],_=>
    obtain⟨b1,c1,n1,f1,rfl⟩:=g4 0 (.mp 1) sv rfl rfl;obtain⟨es,k1,k2,k3,k4,k5,k6⟩:=hi.obs 1 _ _ rfl f1;have hml:(mpU ks).length=ks.length:=by simp[mpU]
    have hus:Tryz.prog.underlying 9=some .string:=Ob
    have hbl:b<w.heap.size:=(fx9.1 g1).1
    have hkey:∀(i:Nat) e,es[i]? =some e→∃s,ks[i]? =some s∧e.key=.string s∧e.born=i:=by
     intro i e he;have hil:i<ks.length:=by have:=(fx9.1 he).1;omega
     obtain⟨⟨q1,q2⟩,-⟩:=k3 i e (.string ks[i],.bool true) he (by simp[mpU,fp1 hil]);exact⟨ks[i],fp1 hil,q1,q2⟩
    let R:Value→Option (DataW Unit × List MemPlace):=fun _=>some (.lit (.bool true),[])
    have hrd:∀(i:Nat) e s,es[i]? =some e→ks[i]? =some s→WideElems.rd Tryz.prog 9 R e=some (.string s.data.toList,.lit (.bool true)):=by
     intro i e s he hk;obtain⟨s',h1,h2,-⟩:=hkey i e he;rw[hk]at h1
     cases h1
     unfold WideElems.rd;rw[h2,WideMaps.keyOf_string_mk hus (hs s (fp3 hk))];rfl
    have hrg:es.toList.map (WideElems.rg Tryz.prog 9 R)=ks.map fun s=>(Lit.string s.data.toList,(DataW.lit (.bool true):DataW Unit)):=by
     apply fx5;intro j;rw[fp9,fp9];rcases fp2 j ks.length with hj|hj
     ·obtain⟨e,he⟩:∃e,es[j]? =some e:=⟨es[j]'Oa,by simp⟩;have hk:=fp1 hj;rw[fy3,he,hk];simp only[ft1];unfold WideElems.rg;rw[hrd j e _ he hk];rfl
     ·rw[ft2 (l:=es.toList) (by rw[fx8];omega),ft2 hj];rfl
    have hfit:WideElems.Fit Tryz.prog 9 R es es.size:=by
     refine⟨by rw[k2,hml];unfold maxLen;omega,⟨?_,?_,?_⟩,?_⟩
     ·intro x hx;obtain⟨i,hi'⟩:=fr5 hx;rw[fy3]at hi';obtain⟨-,-,-,hb⟩:=hkey i x hi';have:=(fx9.1 hi').1;omega
     ·have:es.toList.map (·.born)=List.range es.size:=by
       apply fx5;intro j;rw[fp9,fy3];rcases fp2 j es.size with hj|hj
       ·obtain⟨e,he⟩:∃e,es[j]? =some e:=⟨es[j]'hj,by simp⟩;obtain⟨-,-,-,hb⟩:=hkey j e he;rw[he,fw5 hj,←hb];rfl
       ·rw[fy0 hj,ft2 (by simpa using hj)];rfl
      rw[this];exact List.nodup_range
     ·have:es.toList.map (·.key)=ks.map Value.string:=by
       apply fx5;intro j;rw[fp9,fy3,fp9];rcases fp2 j es.size with hj|hj
       ·obtain⟨e,he⟩:∃e,es[j]? =some e:=⟨es[j]'hj,by simp⟩;obtain⟨s,h1,h2,-⟩:=hkey j e he;rw[he,h1];exact congrArg some h2
       ·rw[fy0 hj,ft2 Oa];rfl
      rw[this];exact List.pairwise_map.2 (hn.imp fun{a b} h e=>h (by cases e;rfl))
     ·intro x hx;obtain⟨i,hi'⟩:=fr5 hx;rw[fy3]at hi';obtain⟨s,h1,-,-⟩:=hkey i x hi';exact⟨_,hrd i x s hi' h1⟩
    obtain⟨D0,hD0⟩:∃D0:DataW Unit,D0=.map ((es.toList.map (WideElems.rg Tryz.prog 9 R)).foldr DataW.insert []):=⟨_,rfl⟩;have hperm:=WideShapes.sorted_perm (es.toList.map (WideElems.rg Tryz.prog 9 R))
    have hDs:Maps.size D0=ks.length:=by
     rw[hD0];show(List.foldr DataW.insert [] _).length=_;rw[hperm.length_eq,hrg,fp6]
    have hDk:(strKeys D0).Perm (cf7 ks):=by
     rw[hD0];refine(hperm.map _).trans ?_;rw[hrg,List.map_map];exact List.Perm.refl _
    have hown:w.ownsMap Tryz.prog 9 R b1 es.size D0:=⟨es,es.size,k1,hfit,fq7 _,hD0⟩;have hmx:maxLen=9223372036854775807:=rfl;refine(dc3 w b b1 es.size D0 R hbl ?_ hown (by rw[hDs];omega) (by rw[hDs];omega)).mono ?_
    ·simp only[World.cell?,g1];simp
    ·rintro e w' ⟨v,ss,rfl,hp,hrow,hnil,hb⟩;have hsi:=dc6 (hp.trans hDk) hn;have hsl:ss.length=ks.length:=by rw[(hp.trans hDk).length_eq];simp[cf7]
     have hin:∀z∈ss.mergeSort (fun x y=>decide (x≤y)),z.length≤maxLen:=by
      intro z hz;have hz':z∈cf7 ks:=(hp.trans hDk).mem_iff.1 ((List.mergeSort_perm _ _).mem_iff.1 hz);obtain⟨s,h1,rfl⟩:=fq8.1 hz';rw[fx8];exact hs s h1
     have hD:(cz6 [] ks).map D.str=cf8 (ss.mergeSort fun x y=>decide (x≤y)):=by
      rw[←hsi];simp[toB,cf8]
     have hml2:(ss.mergeSort fun x y=>decide (x≤y)).length=ss.length:=List.length_mergeSort _;rw[hD];generalize ss.mergeSort (fun x y=>decide (x≤y))=T at*
     by_cases h0:ss=[]
     ·have hT:T=[]:=fx3 (by rw[hml2,h0];rfl);subst hT;obtain rfl:=hnil.2 h0;exact⟨_,F,σ,rfl,aa7.of_below hb fun k hk=>hk.1,fun _ h=>h,fun _ h=>.inl h,fun i p _ hp=>hp,(ab2.lend hi).ext (Ext.of_below hb hi.flt),Rd.slnil⟩
     ·have hv:v≠ .slice none 0 0:=fun h=>h0 (hnil.1 h)
      have hblk:∀k,v.ownBlock=some k→w.heap.size≤k:=fun k hk=>(hrow.lt k hk).1
      obtain⟨zc1,zc2⟩:=cg0 T
      obtain⟨g,cp,rfl,hob⟩:=aq1 (F:=F) (σ:=σ) (B:=fun _=>False) (xs:=cf8 T) (ownsRow_base_a hrow (fr4 _)) (fun k hk hh=>hh) hv (by simp[cf8,hml2]) zc1 zc2 (cg1 hin)
       (fun k hk hf=>by have:=hblk k hk;have:=hi.flt k hf;omega)
      have hge:=hblk g rfl;obtain⟨vs',q1,q2,q3,q4,q5,q6,q7,q8,-,q10⟩:=hob;have hgl:g<w'.heap.size:=(fx9.1 q1).1;have hE:Ext w F w' (fun k=>F k∨k=g):=⟨hb,fun _ h=>.inl h,fun k hk=>by rcases hk with h|rfl;exact .inl h;exact .inr hge,fun k hk=>by rcases hk with h|rfl;exact fy7 (hi.flt k h) hb.size;exact hgl⟩;refine⟨_,fun k=>F k∨k=g,σ,rfl,aa7.of_below hb fun k hk=>hk.1,fun _ h=>.inl h,fun k hk=>?_,fun i p _ hp=>hp,(ab2.lend hi).ext hE,?_⟩
      ·rcases hk with h|rfl
       ·exact .inl h
       ·exact .inr fun hh=>by have:=hh.1;omega
      ·have hex:∀i j,∃u,∀x cd,(cf8 T)[i]? =some x→x.cells[j]? =some cd→vs'[i*1+j]? =some u∧Rd w' F cd u:=by
        intro i j
        cases hx:(cf8 T)[i]? with
        |none=>exact⟨undef,fun x cd h=>by cases h⟩
        |some x=>
         cases hc:x.cells[j]? with
         |none=>exact⟨undef,fun x' cd h h'=>by cases h;rw[hc]at h';cases h'⟩
         |some cd=>
          obtain⟨u,r1,r2⟩:=q8 i x j cd hx hc;exact⟨u,fun x' cd' h h'=>by cases h;rw[hc]at h';cases h';exact⟨r1,r2⟩⟩
       show Rd w' (fun k=>F k∨k=g) (.sl (cf8 T)) (.slice (some ⟨g,0,none⟩) ss.length cp);rw[q3];refine .sl 1 (cf8 T) ⟨g,0,none⟩ cp (fun i j=>Classical.choose (hex i j)) Oa q5 (fun _=>.inr rfl) q6 q7 (fun i x j cd hx hc=>?_) (fun i x j cd hx hc=>?_)
       ·rw[aa2,aj1 q1,fu2];exact(Classical.choose_spec (hex i j) x cd hx hc).1
       ·exact(Classical.choose_spec (hex i j) x cd hx hc).2.mono (fun _ h=>.inl h) fun _ _=>rfl
end Go.Proofs.YtndgolmgaenlfaaGreatDoor
namespace Go.Proofs.YtndgolmgaenlfaaGreatDoor
set_option maxRecDepth 4000
open Go Go.Abs Go.Val Go.RowKit Go.Proofs.Tryz
attribute [local irreducible] go SGo an1 Ev au8 EvO EvS
theorem dc8(v:V):bg5 (enc v)=5+v.s.size+bg6 (kids v):=by
 simp only[enc,bg5,bg6];omega
theorem dc9(e:Ex):bg5 (by6 e)=4+bg5 (enc e.v)+e.nm.size+bg6 (by4 e):=by
 rw[dc8];simp only[by6,bg5,bg6];omega
theorem dd0(e:Ex):9*nd e≤bg5 (by6 e):=by
 refine bz5 (P:=fun e=>9*nd e≤bg5 (by6 e)) (fun op v nm ds ks ih=>?_) e;rw[dc9,dc8,cj4]
 have key:∀l:List Ex,(∀x∈l,9*nd x≤bg5 (by6 x))→9*ndL l≤bg6 (by5 l):=by
  intro l
  induction l with
  |nil=>intro _;simp[ndL]
  |cons a r ihr=>
   intro h;have h1:=h a Oc;have h2:=ihr fun x hx=>h x (by simp[hx])
   simp only[ndL,by5];rw[bg6];have e:bg5 (.agg [.int a.op,.int a.v.k,.int a.v.n,.int a.v.d,.str a.v.s,.sl (kids a.v),.str a.nm,.bool a.ds,.sl (by4 a)])=bg5 (by6 a):=rfl;omega
 have:=key ks ih;show 9*(ndL ks+1)≤4+(5+v.s.size+bg6 (kids v))+nm.size+bg6 (by5 ks);omega
theorem dd1(e:Ex):dp e≤nd e:=by
 refine bz5 (P:=fun e=>dp e≤nd e) (fun op v nm ds ks ih=>?_) e;rw[cj9,cj4];show dpL ks+1≤ndL ks+1
 have key:∀l:List Ex,(∀x∈l,dp x≤nd x)→dpL l≤ndL l:=by
  intro l
  induction l with
  |nil=>intro _;simp[dpL]
  |cons a r ihr=>
   intro h;have h1:=h a Oc;have h2:=ihr fun x hx=>h x (by simp[hx])
   simp only[dpL,ndL];omega
 have:=key ks ih;omega
theorem dd2(e:Ex):1≤nd e:=by rw[cj4];omega
theorem dd3{e:Ex}{w:Bool}(h:co0 e w=0):cn9 e w=0:=by
 cases hc:cn9 e w !=0 with
 |true=>have:=co4 rfl hc;rw[h]at this;rw[this]at hc;cases hc
 |false=>simpa using hc
theorem dd4{e:Ex}(h:co8 e=0):co0 e false=0:=by
 unfold co8 at h
 cases h1:decide (dp e>24)with
 |true=>rw[h1]at h;simp at h
 |false=>
  rw[h1,cond_false]at h
  cases h2:decide (nd e>300)with
  |true=>rw[h2]at h;simp at h
  |false=>rw[h2,cond_false]at h;exact h
theorem dd5{e:Ex}(h:co8 e=0):dp e≤24∧nd e≤300∧co0 e false=0:=by
 have hv:=dd4 h;unfold co8 at h
 cases h1:decide (dp e>24)with
 |true=>rw[h1]at h;simp at h
 |false=>
  rw[h1,cond_false]at h
  cases h2:decide (nd e>300)with
  |true=>rw[h2]at h;simp at h
  |false=>
   have:=of_decide_eq_false h1;have:=of_decide_eq_false h2;exact⟨by omega,by omega,hv⟩
theorem dd6{e:Ex}(h1:dp e≤24)(h2:nd e≤300)(h3:co0 e false=0):co8 e=0:=by
 unfold co8;rw[show decide (dp e>24)=false by simp;omega,show decide (nd e>300)=false by simp;omega,h3];rfl
theorem dd7{op:Int}{v:V}{nm:ByteArray}{ds:Bool}{ks:List Ex}{w:Bool}(h:co0 (.mk op v nm ds ks) w=0):∀x∈ks,co0 x (w||op==24)=0:=by
 have h0:=dd3 h;have h1:=co3 (e:=.mk op v nm ds ks) (w:=w) h0;rw[h]at h1;exact cu1 h1.symm
def cstX(v:V):Ex:=.mk 1 v ⟨#[]⟩ false []
theorem dd8{e:Ex}(h:cn9 e true=0):cn9 e false=0∧e.op≠24:=by
 unfold cn9 at h ⊢
 cases c1:(decide (e.op<1)||decide (e.op>24))||(!ci4 e|| !cj0 e)with
 |true=>rw[c1]at h;simp at h
 |false=>
 cases c2:(e.op==1&& !cj2 e.v)with
 |true=>rw[c1,c2]at h;simp at h
 |false=>
 cases c3:nlF e with
 |true=>rw[c1,c2,c3]at h;simp at h
 |false=>
 cases c4:e.op==24 with
 |true=>rw[c1,c2,c3,c4]at h;simp at h
 |false=>exact⟨rfl,by simpa using c4⟩
theorem dd9{w:Bool}:∀{l:List Ex},(∀x∈l,co0 x w=0)→co1 l w=0
 |[],_=>rfl
 |x::r,h=>by
  rw[co1,h x Oc];exact dd9 fun y hy=>h y (by simp[hy])
theorem de0(e:Ex):co0 e true=0→co0 e false=0:=by
 refine bz5 (P:=fun e=>co0 e true=0→co0 e false=0) (fun op v nm ds ks ih h=>?_) e;obtain⟨h1,h2⟩:=dd8 (dd3 h);have h3:=dd7 h;rw[co3 h1,show(false||(Ex.mk op v nm ds ks).op==24)=false by simpa using h2];exact dd9 fun x hx=>ih x hx (by simpa using h3 x hx)
theorem de1{e:Ex}{w:Bool}(h:co0 e w=0):co0 e false=0:=by
 cases w with
 |true=>exact de0 e h
 |false=>exact h
theorem de2{op:Int}{v:V}{nm:ByteArray}{ds:Bool}{ks:List Ex}(h:co8 (.mk op v nm ds ks)=0):∀x∈ks,co8 x=0:=by
 obtain⟨h1,h2,h3⟩:=dd5 h;intro x hx;have d1:=ck0 hx;have d2:=cj5 hx;rw[cj9]at h1;rw[cj4]at h2;have h1:dpL ks+1≤24:=h1;have h2:ndL ks+1≤300:=h2;exact dd6 Oa Oa (de1 (dd7 h3 x hx))
abbrev oXU(e:D):aa5:=.var 33 (.w (.d e))
theorem de3:∀l:List Ex,l.length≤ndL l
 |[]=>fq7 _
 |a::r=>by
  have h1:=dd2 a;have h2:=de3 r;simp only[fp5,ndL];omega
attribute [local irreducible] RGo
abbrev de4(m:Nat):aa5:=.var 198 (.w (.mp m))
abbrev de5(a b:Nat):aa5:=.var 199 (.w (.clo 188 [.ptr a 0,.ptr b 0]))
abbrev de6(ks:List ByteArray):aa5:=.map .string (mpU ks)
theorem de7(ks:List ByteArray):EvS E 189 [.mp 0] [de6 ks] (.clo 264 [.ptr 1 0]) [de6 ks,de4 0]:=by
 refine yn func189 ntmps189 fun _ _ _ _=>?_
 repeat'(first|refine yz ?_|refine ba6 rfl rfl rfl rfl rfl ?_|refine bb2 [0,1] rfl rfl rfl rfl rfl ?_)
 all_goals rfl
structure SVst(n:Nat) where
 i:Nat
 hi:i≤n
theorem de8{ks:List Ex}{i:Nat}{x:Ex}(h:ks[i]? =some x)(K:List ByteArray):db7 K (da2 (ks.take (i+1)))=db7 (db7 K (da2 (ks.take i))) (usX x):=by
 rw[da6,da6,fs5,h,fw7,dc1];simp
theorem de9{e:Ex}:Fit (by6 e)→∀s∈usX e,s.size≤maxLen:=by
 refine bz5 (P:=fun e=>Fit (by6 e)→∀s∈usX e,s.size≤maxLen) (fun op v nm ds ks ih hf s hs=>?_) e;obtain⟨-,-,h1,-,h2⟩:=bz3 hf;rw[usX,fr6]at hs;rcases hs with hs|hs
 ·cases h:op==2 with
  |true=>
   rw[h,cond_true,fq2]at hs;subst hs;exact h1
  |false=>rw[h]at hs;cases hs
 ·rw[da6,fw3]at hs;obtain⟨x,hx,hs⟩:=hs;exact ih x hx (h2 x hx) s hs
set_option maxHeartbeats 1000000 in
theorem df0(e:Ex):nd e≤1000000→∀K:List ByteArray,EvS E 188 [.d (by6 e),.ptr 0 0,.ptr 1 0] [de4 2,de5 0 1,de6 K] (.tup []) [de4 2,de5 0 1,de6 (db7 K (usX e))]:=by
 refine bz5 (P:=fun e=>nd e≤1000000→∀K:List ByteArray,EvS E 188 [.d (by6 e),.ptr 0 0,.ptr 1 0] [de4 2,de5 0 1,de6 K] (.tup []) [de4 2,de5 0 1,de6 (db7 K (usX e))]) (fun op v nm ds ks ih hn K=>?_) e;rw[cj4]at hn;have hn':ndL ks+1≤1000000:=hn;have hle:(by5 ks).length=ks.length:=bz2 ks;have hkl:=de3 ks;obtain⟨vk,vn,vd,vS,vl⟩:=v;rw[usX,dc1];show EvS E 188 [.d (.agg [.int op,.int vk,.int vn,.int vd,.str vS,.sl (bn1 vl),.str nm,.bool ds,.sl (by5 ks)]),.ptr 0 0,.ptr 1 0] _ _ _;generalize bn1 vl=VL;obtain⟨K1,hK1⟩:∃K1,K1=db7 K (bif op==2 then [nm]else []):=⟨_,rfl⟩;rw[←hK1]
 cases c1:op==2 with
 |true=>
  rw[c1,cond_true]at hK1;have hK1:K1=db1 K nm:=hK1;have hput:bi9 (.string nm) (.bool true) (mpU K)=mpU K1:=by rw[dc5,hK1]
  refine yn func188 ntmps188 fun _ _ _ _=>?_
  repeat'(first|refine yz ?_|refine bk3 ?_)
  rw[hput];refine ac7 (α:=SVst ks.length) (fun p=>⟨[(1,.ptr 0 0),(2,.ptr 1 0),(3,.ptr 3 0),(13,.d (.sl (by5 ks))),(14,.d (.int (by5 ks).length)),(15,.d (.int p.i))],[de4 2,de5 0 1,de6 (db7 K1 (da2 (ks.take p.i))),oXU (.agg [.int op,.int vk,.int vn,.int vd,.str vS,.sl VL,.str nm,.bool ds,.sl (by5 ks)])]⟩) (fun p=>ks.length-p.i) ⟨0,by omega⟩ (zle 4) ?_;rintro⟨i,hi⟩;dsimp only;rcases fp2 i ks.length with hlt|hge
  ·have g1:decide ((i:Int)<((by5 ks).length:Int))=true:=by rw[hle];simpa using hlt
   have hx0:=fp1 hlt;generalize ks[i]=x at hx0;have hx:(by5 ks)[(i:Int).toNat]? =some (by6 x):=bz0 (by rw[fr2];exact hx0);have hm:=fp3 hx0;have hcx:=ih x hm (by have:=cj5 hm;omega) (db7 K1 (da2 (ks.take i)));rw[←de8 hx0]at hcx
   repeat'(first|refine yz ?_|refine yi (by6 x) hx ?_|refine ba7 [0,1,2] rfl rfl rfl rfl (FnX.clo _ _) b188 (hcx) rfl rfl rfl rfl rfl ?_)
   refine ac1 ?_;exact⟨⟨i+1,by omega⟩,by dsimp only;omega,(zle 4)⟩
  ·have g1:decide ((i:Int)<((by5 ks).length:Int))=false:=by rw[hle];simp;omega
   rw[fq6 hge]
   repeat'(first|refine yz ?_|refine yo [0,1,2])
 |false=>
  rw[c1,cond_false]at hK1;have hK1:K1=K:=hK1;subst hK1;refine yn func188 ntmps188 fun _ _ _ _=>?_
  repeat'(refine yz ?_)
  refine ac7 (α:=SVst ks.length) (fun p=>⟨[(1,.ptr 0 0),(2,.ptr 1 0),(3,.ptr 3 0),(13,.d (.sl (by5 ks))),(14,.d (.int (by5 ks).length)),(15,.d (.int p.i))],[de4 2,de5 0 1,de6 (db7 K1 (da2 (ks.take p.i))),oXU (.agg [.int op,.int vk,.int vn,.int vd,.str vS,.sl VL,.str nm,.bool ds,.sl (by5 ks)])]⟩) (fun p=>ks.length-p.i) ⟨0,by omega⟩ (zle 4) ?_;rintro⟨i,hi⟩;dsimp only;rcases fp2 i ks.length with hlt|hge
  ·have g1:decide ((i:Int)<((by5 ks).length:Int))=true:=by rw[hle];simpa using hlt
   have hx0:=fp1 hlt;generalize ks[i]=x at hx0;have hx:(by5 ks)[(i:Int).toNat]? =some (by6 x):=bz0 (by rw[fr2];exact hx0);have hm:=fp3 hx0;have hcx:=ih x hm (by have:=cj5 hm;omega) (db7 K1 (da2 (ks.take i)));rw[←de8 hx0]at hcx
   repeat'(first|refine yz ?_|refine yi (by6 x) hx ?_|refine ba7 [0,1,2] rfl rfl rfl rfl (FnX.clo _ _) b188 (hcx) rfl rfl rfl rfl rfl ?_)
   refine ac1 ?_;exact⟨⟨i+1,by omega⟩,by dsimp only;omega,(zle 4)⟩
  ·have g1:decide ((i:Int)<((by5 ks).length:Int))=false:=by rw[hle];simp;omega
   rw[fq6 hge]
   repeat'(first|refine yz ?_|refine yo [0,1,2])
theorem df1(e:Ex)(hn:nd e≤1000000):Ev E 121 [by6 e] (.d (.sl ((da3 e).map .str))):=Ev.fit fun hfit=>by
 have hv:=df0 e hn [];have hl:=da7 e;have hal:=dc0 (usX e) []
 have hsz:∀s∈db7 [] (usX e),s.size≤maxLen:=fun s hs=>by
  rw[db8]at hs;rcases hs with h|h
  ·cases h
  ·exact de9 (hfit (by6 e) Oc) s h
 have hs:=dc7 198 (db7 [] (usX e)) hsz (db9 List.nodup_nil) (by simp only[fq0]at hal;omega)
 have hr:cz6 [] (db7 [] (usX e))=da3 e:=by
  refine cz5 (cz8 List.Pairwise.nil) (da4 e) fun s=>?_
  rw[cz7,da5,db8];simp
 rw[hr]at hs;have hk:=de7 (db7 [] (usX e));refine ye1 func121 ntmps121 fun _ _ _=>?_
 repeat'(first|refine yz ?_|refine bj4 rfl rfl rfl rfl rfl rfl ?_|refine ba6 rfl rfl rfl rfl rfl ?_|refine ba7 [2,3,1] rfl rfl rfl rfl (FnX.clo _ _) b188 (hv) rfl rfl rfl rfl rfl ?_|refine yc [1] b189 (hk) ?_|refine yc [4,1] b109 (hs) ?_|exact zD)
attribute [local irreducible] PGo
def df2(e:Ex)(cols:List ByteArray):Bool:=(da3 e).all fun s=>by1 cols s
def df3(e:Ex)(cols:List ByteArray):Int:=bif co8 e !=0 then co8 e else bif !(df2 e cols)then 6 else bif cp9 e then 9 else 0
theorem df4(cols:List ByteArray)(s:ByteArray):EvS E 122 [.d (.str s),.ptr 0 0] [cf6 cols] (.d (.bool (!by1 cols s))) [cf6 cols]:=by
 have h:=ca8 cols s;refine yn func122 ntmps122 fun _ _ _ _=>?_
 repeat'(first|refine yz ?_|refine yp b60 h ?_|refine bb2 [0] rfl rfl rfl rfl rfl ?_)
 all_goals rfl
theorem df5(cols l:List ByteArray)(hmax:l.length≤9223372036854775807):EvS E 187 [.d (.sl (l.map D.str)),.clo 122 [.ptr 0 0]] [cf6 cols] (.d (.int (cv5 (l.findIdx? fun s=> !by1 cols s)))) [cf6 cols]:=by
 have hle:(l.map D.str).length=l.length:=Oc
 refine yn func187 ntmps187 fun _ _ _ _=>?_
 repeat'(refine yz ?_)
 refine ac7 (α:=SFc l fun s=> !by1 cols s) (fun p=>⟨[(0,.d (.sl (l.map D.str))),(1,.clo 122 [.ptr 0 0]),(7,.d (.int (l.map D.str).length)),(8,.d (.int p.i))],[cf6 cols]⟩) (fun p=>l.length-p.i) ⟨0,by omega,fun j hj=>absurd hj Oa⟩ (zle 1) ?_;rintro⟨i,hi,ok⟩;dsimp only;rcases fp2 i l.length with hlt|hge
 ·have g1:decide ((i:Int)<((l.map D.str).length:Int))=true:=by rw[hle];simpa using hlt
  have hx0:=fp1 hlt;generalize l[i]=y at hx0;have hx:(l.map D.str)[((i:Nat):Int).toNat]? =some (.str y):=cv3 (f:=D.str) hx0;have h1:=df4 cols y
  cases hc:by1 cols y with
  |false=>
   rw[hc]at h1;rw[cv6 hx0 (show(!by1 cols y)=true by rw[hc];rfl) ok]
   repeat'(first|refine yz ?_|refine yi (.str y) hx ?_|refine ba7 [0] rfl rfl rfl rfl (FnX.clo _ _) b122 (h1) rfl rfl rfl rfl rfl ?_|refine bb2 [0] rfl rfl rfl rfl rfl ?_)
   all_goals rfl
  |true=>
   rw[hc]at h1
   repeat'(first|refine yz ?_|refine yi (.str y) hx ?_|refine ba7 [0] rfl rfl rfl rfl (FnX.clo _ _) b122 (h1) rfl rfl rfl rfl rfl ?_)
   refine ac1 ?_;exact⟨⟨i+1,by omega,SFc.next hx0 (show(!by1 cols y)=false by rw[hc];rfl) ok⟩,by dsimp only;omega,(zle 1)⟩
 ·have g1:decide ((i:Int)<((l.map D.str).length:Int))=false:=by rw[hle];simp;omega
  rw[cv7 fun j hj=>ok j Oa]
  repeat'(first|refine yz ?_|refine bb2 [0] rfl rfl rfl rfl rfl ?_)
  all_goals rfl
theorem df6(cols l:List ByteArray)(hmax:l.length≤9223372036854775807):EvS E 120 [.d (.sl (l.map D.str)),.clo 122 [.ptr 0 0]] [cf6 cols] (.d (.bool (l.any fun s=> !by1 cols s))) [cf6 cols]:=by
 have h:=df5 cols l hmax;rw[←cv8];refine yn func120 ntmps120 fun _ _ _ _=>?_
 repeat'(first|refine yz ?_|refine yc [0] b187 (h) ?_|refine bb2 [0] rfl rfl rfl rfl rfl ?_)
 all_goals rfl
theorem df7(cols l:List ByteArray):(!(l.any fun s=> !by1 cols s))=l.all fun s=>by1 cols s:=by
 induction l with
 |nil=>rfl
 |cons x r ih=>rw[ft8,ft3,←ih];cases by1 cols x<;>simp
theorem df8(e:Ex)(cols:List ByteArray)(hn:nd e≤1000000):Ev E 62 [by6 e,.sl (cols.map .str)] (.d (.bool (df2 e cols))):=by
 have hu:=df1 e hn;have hul:=db0 e;have h:=df6 cols (da3 e) Oa;unfold df2;rw[←df7];refine ye2 func62 ntmps62 fun _ _ _=>?_
 repeat'(first|refine yz ?_|refine yp b121 hu ?_|refine ba6 rfl rfl rfl rfl rfl ?_|refine yc [1] b120 (h) ?_|exact zD)
theorem df9(e:Ex)(cols:List ByteArray)(hd:dp e≤1000000)(hn:nd e≤1000000):Ev E 42 [by6 e,.sl (cols.map .str)] (.d (.int (df3 e cols))):=by
 have hk:=co9 e hd hn;have h1:=df8 e cols hn;have h2:=cx4 e;unfold df3;generalize df2 e cols=kn at*;generalize cp9 e=ha at*
 cases hc:co8 e !=0 with
 |true=>
  rw[cond_true];generalize co8 e=z at*;refine ye2 func42 ntmps42 fun _ _ _=>?_
  repeat'(first|refine yz ?_|refine yp b61 hk ?_|exact zD)
 |false=>
  rw[cond_false];have h0:co8 e=0:=by simpa using hc
  rw[h0]at hk
  cases kn with
  |false=>
   refine ye2 func42 ntmps42 fun _ _ _=>?_
   repeat'(first|refine yz ?_|refine yp b61 hk ?_|refine yp b62 h1 ?_|exact zD)
  |true=>
   cases ha with
   |true=>
    refine ye2 func42 ntmps42 fun _ _ _=>?_
    repeat'(first|refine yz ?_|refine yp b61 hk ?_|refine yp b62 h1 ?_|refine yp b63 h2 ?_|exact zD)
   |false=>
    refine ye2 func42 ntmps42 fun _ _ _=>?_
    repeat'(first|refine yz ?_|refine yp b61 hk ?_|refine yp b62 h1 ?_|refine yp b63 h2 ?_|exact zD)
end Go.Proofs.YtndgolmgaenlfaaGreatDoor
namespace Go.Proofs.YtndgolmgaenlfaaGreatDoor
set_option maxRecDepth 4000
open Go Go.Abs Go.Val Go.RowKit Go.Proofs.Tryz
attribute [local irreducible] go SGo an1 Ev au8 EvO
def dg0(a _b:V):Int:=bif !(Val.okV a)then 1 else bif a.k==0 then 0 else 1
theorem dg1{a:V}(h:Val.okV a=true)(hk:a.k=0):a=bo3:=by
 obtain⟨k,n,d,s,l⟩:=a;obtain rfl:k=0:=hk;unfold Val.okV at h;rw[bv4 8 0 n d s l Od Od]at h;simp[bo5,s0,V.k,V.n,V.d,V.s,V.l]at h;obtain⟨⟨⟨h2,h3⟩,h4⟩,h1⟩:=h;subst h1 h2 h4
 have hs:s=⟨#[]⟩:=by
  apply ByteArray.ext;apply Array.toList_inj.1;have:=ByteArray.toList_eq s;rw[h3]at this;exact this.symm
 rw[hs];rfl
theorem dg2(a:ByteArray):Ev E 305 [.str a] (.d (.bool false)):=by
 have h:(!(a.toList==a.toList))=false:=Oc
 rw[←h];refine ye1 func305 ntmps305 fun _ _ _=>?_
 exact Ok
theorem dg3:Ev E 254 [.str ⟨#[]⟩,.str ⟨#[]⟩] (.d (.int 0)):=by
 have h1:Op.bytesLess (⟨#[]⟩:ByteArray).toList (⟨#[]⟩:ByteArray).toList=false:=Ob
 have h2:((⟨#[]⟩:ByteArray).toList==(⟨#[]⟩:ByteArray).toList)=true:=beq_self_eq_true _;have g2:(!(Op.bytesLess (⟨#[]⟩:ByteArray).toList (⟨#[]⟩:ByteArray).toList||(⟨#[]⟩:ByteArray).toList==(⟨#[]⟩:ByteArray).toList))=false:=by rw[h1,h2];rfl
 refine ye2 func254 ntmps254 fun _ _ _=>?_
 repeat'(first|refine yz ?_|refine yp b305 (dg2 _) ?_|refine yx ?_|(refine yy ?_ ?_<;>intro _)|exact zD|exact zL)
structure SN0(n:Nat) where
 i:Nat
 hi:i≤n
theorem dg4:Ev E 252 [.sl [.int 0,.int 0,.int 0]] (.d (.int 0)):=by
 refine ye1 func252 ntmps252 fun _ _ _=>?_
 repeat'(first|refine yz ?_|refine yx ?_|(refine yy ?_ ?_<;>intro _)|exact zD|exact zL)
 refine ac7 (α:=SN0 3) (fun p=>⟨[(3,.d (.int 0)),(6,.d (.sl [.int 0,.int 0,.int 0])),(7,.d (.int (([.int 0,.int 0,.int 0]:List D).length:Int))),(8,.d (.int p.i))],[]⟩) (fun p=>3-p.i) ⟨0,by omega⟩ (zle 0) ?_;rintro⟨i,hi⟩;dsimp only;rcases fp2 i 3 with hlt|hge
 ·have g1:=yT ((i:Int)<(([.int 0,.int 0,.int 0]:List D).length:Int)) (show(i:Int)<3 by omega)
  have hx:([.int 0,.int 0,.int 0]:List D)[(i:Int).toNat]? =some (.int 0):=by
   rw[fr2]
   match i,hlt with
   |0,_=>rfl
   |1,_=>rfl
   |2,_=>rfl
  have g2:((0:Int) !=0)=false:=rfl
  repeat'(first|refine yz ?_|refine yi (.int 0) hx ?_|refine yx ?_|(refine yy ?_ ?_<;>intro _)|exact zD|exact zL)
  refine ac1 ?_;exact⟨⟨i+1,by omega⟩,by dsimp only;omega,(zle 0)⟩
 ·have g1:=yF ((i:Int)<(([.int 0,.int 0,.int 0]:List D).length:Int)) (show ¬ (i:Int)<3 by omega)
  exact Ok
theorem dg5:Ev E 255 [.sl [],.sl [],.imm (.func (.func 251) #[] #[])] (.d (.int 0)):=by
 have g1:decide (((0:Nat):Int)<(([]:List D).length:Int))=false:=rfl;have g2:decide ((([]:List D).length:Int)<(([]:List D).length:Int))=false:=rfl;refine ye3 func255 ntmps255 fun _ _ _=>?_
 repeat'(first|refine yz ?_|refine yx ?_|(refine yy ?_ ?_<;>intro _)|exact zD|exact zL)
 refine ac7 (α:=Unit) (fun _=>⟨[(0,.d (.sl [])),(1,.d (.sl [])),(2,.d (.imm (.func (.func 251) #[] #[]))),(11,.d (.sl [])),(12,.d (.int (([]:List D).length:Int))),(13,.d (.int ((0:Nat):Int)))],[]⟩) (fun _=>0) () (zle 0) ?_;rintro-
 exact Ok
def dg6(k:Int):Int:=bif k==3 then 2 else bif k==7 then 9 else k
theorem dg7(v:V):Ev E 301 [enc v] (.d (.int (dg6 v.k))):=by
 unfold dg6
 cases h1:v.k==3 with
 |true=>
  refine ye1 func301 ntmps301 fun _ _ _=>?_
  exact Ok
 |false=>
 cases h2:v.k==7 with
 |true=>
  refine ye1 func301 ntmps301 fun _ _ _=>?_
  exact Ok
 |false=>
  refine ye1 func301 ntmps301 fun _ _ _=>?_
  exact Ok
theorem dg8:Ev E 251 [enc bo3,enc bo3] (.d (.int 0)):=by
 have ca:=dg7 bo3;have hcc:=bx2 (dg6 0) (dg6 0);have hcn:=bx2 0 0;have hcs:=dg3;have hcf:=dg5;have hor:=dg4;have h0:Lib.compareInt (dg6 0) (dg6 0)=0:=Od
 have h00:Lib.compareInt 0 0=0:=Od
 rw[h0]at hcc;rw[h00]at hcn;have h1:((0:Int) !=0)=false:=rfl;have h2:(dg6 0==2)=false:=Od
 have ca:Ev E 301 [enc bo3] (.d (.int (dg6 0))):=ca;refine ye2 func251 ntmps251 fun _ _ _=>?_
 repeat'(first|refine yz ?_|refine qP (d:=11) rfl rfl rfl rfl rfl rfl bs5 (ca) ?_|refine qP (d:=19) rfl rfl rfl rfl rfl rfl bs5 (ca) ?_|refine yp bs5 ca ?_|refine qP (d:=14) rfl rfl rfl rfl rfl rfl b253 (hcc) ?_|refine yp b253 hcn ?_|refine yp b254 hcs ?_|refine yp b255 hcf ?_|refine yp b252 hor ?_|refine yx ?_|(refine yy ?_ ?_<;>intro _)|exact zD|exact zL)
theorem dg9(a:V)(h:Val.okV a=true)(hk:(a.k==0)=false):Ev E 251 [enc a,enc bo3] (.d (.int 1)):=by
 have ca:=dg7 a;have cb:Ev E 301 [enc bo3] (.d (.int (dg6 0))):=dg7 bo3;have hcc:=bx2 (dg6 a.k) (dg6 0)
 have h0:Lib.compareInt (dg6 a.k) (dg6 0)=1:=by
  have hk':a.k≠0:=by simpa using hk
  rcases cc8 h with e|e|e|e|e|e|e|e|e
  ·exact absurd e hk'
  all_goals(rw[e];decide)
 rw[h0]at hcc;have h1:((1:Int) !=0)=true:=rfl;refine ye2 func251 ntmps251 fun _ _ _=>?_
 repeat'(first|refine yz ?_|refine qP (d:=11) rfl rfl rfl rfl rfl rfl bs5 (ca) ?_|refine yp bs5 cb ?_|refine yp b253 hcc ?_|refine yx ?_|(refine yy ?_ ?_<;>intro _)|exact zD|exact zL)
theorem dh0(a b:V)(hb:b=bo3:=by rfl):Ev E 175 [enc a,enc b] (.d (.int (dg0 a b))):=by
 subst hb;have va:=bw2 bx8 a;have vb:=bw2 bx8 bo3;rw[show Val.okV bo3=true by decide+kernel]at vb;unfold dg0
 cases h1:Val.okV a with
 |true=>
  rw[h1]at va
  cases h2:a.k==0 with
  |true=>
   obtain rfl:=dg1 h1 (by simpa using h2);have ho:=dg8;refine ye2 func175 ntmps175 fun _ _ _=>?_
   repeat'(first|refine yz ?_|refine yp br5 vb ?_|refine yp b251 ho ?_|refine yx ?_|(refine yy ?_ ?_<;>intro _)|exact zD|exact zL)
  |false=>
   have ho:=dg9 a h1 h2;refine ye2 func175 ntmps175 fun _ _ _=>?_
   repeat'(first|refine yz ?_|refine qP (d:=8) rfl rfl rfl rfl rfl rfl br5 (va) ?_|refine yp br5 vb ?_|refine yp b251 ho ?_|refine yx ?_|(refine yy ?_ ?_<;>intro _)|exact zD|exact zL)
 |false=>
  rw[h1]at va;refine ye2 func175 ntmps175 fun _ _ _=>?_
  repeat'(first|refine yz ?_|refine qP (d:=8) rfl rfl rfl rfl rfl rfl br5 (va) ?_|refine yp br5 vb ?_|refine yx ?_|(refine yy ?_ ?_<;>intro _)|exact zD|exact zL)
theorem dh1(x:Int):Ev E 102 [.int x,.int x] (.d (.int 0)):=by
 have g1:decide (x<x)=false:=Oc
 have g2:decide (x>x)=false:=Oc
 refine ye2 func102 ntmps102 fun _ _ _=>?_
 exact Ok
theorem dh2{x:Int}(h:x>0):Ev E 102 [.int x,.int 0] (.d (.int 1)):=by
 have g1:decide (x<0)=false:=Og
 have g2:decide (x>0)=true:=by simpa using h
 refine ye2 func102 ntmps102 fun _ _ _=>?_
 exact Ok
theorem dh3:Ev E 165 [.str ⟨#[]⟩,.str ⟨#[]⟩] (.d (.int 0)):=by
 have h1:Op.bytesLess (⟨#[]⟩:ByteArray).toList (⟨#[]⟩:ByteArray).toList=false:=Ob
 have h2:((⟨#[]⟩:ByteArray).toList==(⟨#[]⟩:ByteArray).toList)=true:=beq_self_eq_true _;have g2:(!(Op.bytesLess (⟨#[]⟩:ByteArray).toList (⟨#[]⟩:ByteArray).toList||(⟨#[]⟩:ByteArray).toList==(⟨#[]⟩:ByteArray).toList))=false:=by rw[h1,h2];rfl
 refine ye2 func165 ntmps165 fun _ _ _=>?_
 exact Ok
theorem dh4:Ev E 166 [.sl [],.sl []] (.d (.int 0)):=by
 have hi:Ev E 102 [.int (([]:List D).length:Int),.int (([]:List D).length:Int)] (.d (.int 0)):=dh1 _;have g1:decide (((0:Nat):Int)<(([]:List D).length:Int))=false:=rfl;refine ye2 func166 ntmps166 fun _ _ _=>?_
 repeat'(first|refine yz ?_|refine yx ?_|(refine yy ?_ ?_<;>intro _)|exact zD|exact zL)
 refine ac7 (α:=Unit) (fun _=>⟨[(0,.d (.sl [])),(1,.d (.sl [])),(5,.d (.int ((0:Nat):Int)))],[]⟩) (fun _=>0) () (zle 0) ?_;rintro-
 repeat'(first|refine yz ?_|refine yp b102 hi ?_|refine yx ?_|(refine yy ?_ ?_<;>intro _)|exact zD|exact zL)
theorem dh5:Ev E 101 [enc bo3,enc bo3] (.d (.int 0)):=by
 have h0:=dh1 0;have hs:=dh3;have hl:=dh4;have g:((0:Int) !=0)=false:=rfl;refine ye2 func101 ntmps101 fun _ _ _=>?_
 repeat'(first|refine yz ?_|refine yp b102 h0 ?_|refine yp b165 hs ?_|refine yp b166 hl ?_|refine yx ?_|(refine yy ?_ ?_<;>intro _)|exact zD|exact zL)
def rcls(k:Int):Int:=bif k==0 then 0 else bif k==1 then 1 else bif k==2||k==3 then 2 else bif k==4 then 3 else bif k==5 then 4 else bif k==6 then 5 else bif k==8 then 6 else 7
theorem dh6(k:Int):Ev E 103 [.int k] (.d (.int (rcls k))):=by
 unfold rcls
 cases h0:k==0 with
 |true=>
  refine ye1 func103 ntmps103 fun _ _ _=>?_
  exact Ok
 |false=>
 cases h1:k==1 with
 |true=>
  refine ye1 func103 ntmps103 fun _ _ _=>?_
  exact Ok
 |false=>
 cases h2:k==2 with
 |true=>
  refine ye1 func103 ntmps103 fun _ _ _=>?_
  exact Ok
 |false=>
 cases h3:k==3 with
 |true=>
  refine ye1 func103 ntmps103 fun _ _ _=>?_
  exact Ok
 |false=>
 cases h4:k==4 with
 |true=>
  refine ye1 func103 ntmps103 fun _ _ _=>?_
  exact Ok
 |false=>
 cases h5:k==5 with
 |true=>
  refine ye1 func103 ntmps103 fun _ _ _=>?_
  exact Ok
 |false=>
 cases h6:k==6 with
 |true=>
  refine ye1 func103 ntmps103 fun _ _ _=>?_
  exact Ok
 |false=>
 cases h8:k==8 with
 |true=>
  refine ye1 func103 ntmps103 fun _ _ _=>?_
  exact Ok
 |false=>
  refine ye1 func103 ntmps103 fun _ _ _=>?_
  exact Ok
theorem dh7(a b:V)(hb:b=bo3:=by rfl):Ev E 52 [enc a,enc b] (.d (.int (dg0 a b))):=by
 subst hb;have va:=bw3 a;have vb:=bw3 bo3;rw[show Val.okV bo3=true by decide+kernel]at vb;have rb:Ev E 103 [.int 0] (.d (.int 0)):=dh6 0;unfold dg0
 cases h1:Val.okV a with
 |false=>
  have hy:=bt9 false;rw[show tt false=0 from rfl]at hy;rw[h1]at va;refine ye2 func52 ntmps52 fun _ _ _=>?_
  repeat'(first|refine yz ?_|refine qP (d:=13) rfl rfl rfl rfl rfl rfl b99 (va) ?_|refine yp b99 vb ?_|refine yp b100 hy ?_|refine yx ?_|(refine yy ?_ ?_<;>intro _)|exact zD|exact zL)
 |true=>
  rw[h1]at va
  cases h2:a.k==0 with
  |true=>
   obtain rfl:=dg1 h1 (by simpa using h2);have hn:=bw6 bo3;rw[show bp0 bo3=false by decide+kernel]at hn;have hi:=dh1 0;have hf:=dh5;have g:((0:Int) !=0)=false:=rfl;refine ye2 func52 ntmps52 fun _ _ _=>?_
   repeat'(first|refine yz ?_|refine yp b99 vb ?_|refine yp b103 rb ?_|refine yp b102 hi ?_|refine yp b104 hn ?_|refine yp b101 hf ?_|refine yx ?_|(refine yy ?_ ?_<;>intro _)|exact zD|exact zL)
  |false=>
   have hp:rcls a.k>0:=by
    have hk':a.k≠0:=by simpa using h2
    rcases cc8 h1 with e|e|e|e|e|e|e|e|e
    ·exact absurd e hk'
    all_goals(rw[e];decide)
   have hi:=dh2 hp;have ra:=dh6 a.k;have g:((1:Int) !=0)=true:=rfl;refine ye2 func52 ntmps52 fun _ _ _=>?_
   repeat'(first|refine yz ?_|refine qP (d:=13) rfl rfl rfl rfl rfl rfl b99 (va) ?_|refine yp b99 vb ?_|refine qP (d:=29) rfl rfl rfl rfl rfl rfl b103 (ra) ?_|refine yp b103 rb ?_|refine yp b102 hi ?_|refine yx ?_|(refine yy ?_ ?_<;>intro _)|exact zD|exact zL)
end Go.Proofs.YtndgolmgaenlfaaGreatDoor
namespace Go.Proofs.YtndgolmgaenlfaaGreatDoor
set_option maxRecDepth 4000
open Go Go.Abs Go.Val Go.Proofs.Tryz
attribute [local irreducible] go SGo an1 Ev au8 EvO EvS PGo RGo dg0
theorem dh8(l:List ByteArray):EvS E 110 [.d (.sl (l.map .str))] [] (.clo 178 [.ptr 0 0]) [cf6 l]:=by
 refine yn func110 ntmps110 fun _ _ _ _=>?_
 repeat'(first|refine yz ?_|refine ba6 rfl rfl rfl rfl rfl ?_|refine bb2 [0] rfl rfl rfl rfl rfl ?_)
 rfl
def dh9(k:Int):Nat:=bif k==1 then 1 else bif k==2 then 1 else bif k==4 then 1 else bif k==3 then 3 else 0
theorem di0(k:Int):Ev E 172 [.int k] (.d (.int (dh9 k))):=by
 unfold dh9;rcases cf5 k with rfl|rfl|rfl|rfl|⟨h1,h2,h3,h4⟩
 ·refine ye1 func172 ntmps172 fun _ _ _=>?_
  exact Ok
 ·refine ye1 func172 ntmps172 fun _ _ _=>?_
  exact Ok
 ·refine ye1 func172 ntmps172 fun _ _ _=>?_
  exact Ok
 ·refine ye1 func172 ntmps172 fun _ _ _=>?_
  exact Ok
 ·rw[h1,h2,h3,h4];refine ye1 func172 ntmps172 fun _ _ _=>?_
  exact Ok
def cntN(k:Int):Int:=bif dh9 k==0 then-1 else(dh9 k:Int)
theorem di1(k:Int):Ev E 269 [.int k] (.d (.int (cntN k))):=by
 unfold cntN dh9;rcases cf5 k with rfl|rfl|rfl|rfl|⟨h1,h2,h3,h4⟩
 ·refine ye1 func269 ntmps269 fun _ _ _=>?_
  exact Ok
 ·refine ye1 func269 ntmps269 fun _ _ _=>?_
  exact Ok
 ·refine ye1 func269 ntmps269 fun _ _ _=>?_
  exact Ok
 ·refine ye1 func269 ntmps269 fun _ _ _=>?_
  exact Ok
 ·rw[h1,h2,h3,h4];refine ye1 func269 ntmps269 fun _ _ _=>?_
  exact Ok
structure SMm(f:Int→Int→Int)(x:Int)(r:List Int) where
 i:Nat
 m:Int
 hi:i≤r.length
 hm:inR .i64 m
 ok:r.foldl f x=(r.drop i).foldl f m
theorem di2(x:Int)(r:List Int):Ev E 173 [.sl (iL (x::r))] (.d (.int (r.foldl min x))):=Ev.fit fun hfit=>by
 obtain⟨hmax,hel⟩:=by0 (hfit (.sl (iL (x::r))) Oc);have hxr:=(hel x Oc).int;have hle:=cf3 (x::r);simp only[fp5]at hmax hle;have g0:decide (((iL (x::r)).length:Int)<1)=false:=by rw[hle];simp;omega
 have h0:(iL (x::r))[(0:Int).toNat]? =some (.int x):=rfl;refine ye1 func173 ntmps173 fun _ _ _=>?_
 repeat'(first|refine yz ?_|refine yi (.int x) h0 ?_)
 refine ac7 (α:=SMm min x r) (fun p=>⟨[(0,.d (.sl (iL (x::r)))),(3,.d (.int p.m)),(4,.d (.int ((p.i+1:Nat):Int)))],[]⟩) (fun p=>r.length-p.i) ⟨0,x,by omega,hxr,rfl⟩ (zle 0) ?_;rintro⟨i,m,hi,hm,ok⟩;dsimp only;rcases fp2 i r.length with hlt|hge
 ·have g1:decide (((i+1:Nat):Int)<((iL (x::r)).length:Int))=true:=by rw[hle];simp;omega
  have hx0:=fp1 hlt;generalize r[i]=y at hx0;have hx:(iL (x::r))[((i+1:Nat):Int).toNat]? =some (.int y):=cf4 (by simpa using hx0);have hyr:=(hel y (by simp[fp3 hx0])).int
  repeat'(first|refine yz ?_|refine yi (.int y) hx ?_)
  refine ac1 ?_;refine⟨⟨i+1,min m y,hlt,?_,by rw[ok,bu9 hx0,ft5]⟩,by dsimp only;omega,(zle 0)⟩;simp only[inR,Int.min_def]at hm hyr ⊢;split<;>assumption
 ·have g1:decide (((i+1:Nat):Int)<((iL (x::r)).length:Int))=false:=by rw[hle];simp;omega
  rw[ok,fp8 hge]
  exact Ok
theorem di3(x:Int)(r:List Int):Ev E 108 [.sl (iL (x::r))] (.d (.int (r.foldl max x))):=Ev.fit fun hfit=>by
 obtain⟨hmax,hel⟩:=by0 (hfit (.sl (iL (x::r))) Oc);have hxr:=(hel x Oc).int;have hle:=cf3 (x::r);simp only[fp5]at hmax hle;have g0:decide (((iL (x::r)).length:Int)<1)=false:=by rw[hle];simp;omega
 have h0:(iL (x::r))[(0:Int).toNat]? =some (.int x):=rfl;refine ye1 func108 ntmps108 fun _ _ _=>?_
 repeat'(first|refine yz ?_|refine yi (.int x) h0 ?_)
 refine ac7 (α:=SMm max x r) (fun p=>⟨[(0,.d (.sl (iL (x::r)))),(3,.d (.int p.m)),(4,.d (.int ((p.i+1:Nat):Int)))],[]⟩) (fun p=>r.length-p.i) ⟨0,x,by omega,hxr,rfl⟩ (zle 0) ?_;rintro⟨i,m,hi,hm,ok⟩;dsimp only;rcases fp2 i r.length with hlt|hge
 ·have g1:decide (((i+1:Nat):Int)<((iL (x::r)).length:Int))=true:=by rw[hle];simp;omega
  have hx0:=fp1 hlt;generalize r[i]=y at hx0;have hx:(iL (x::r))[((i+1:Nat):Int).toNat]? =some (.int y):=cf4 (by simpa using hx0);have hyr:=(hel y (by simp[fp3 hx0])).int
  repeat'(first|refine yz ?_|refine yi (.int y) hx ?_)
  refine ac1 ?_;refine⟨⟨i+1,max m y,hlt,?_,by rw[ok,bu9 hx0,ft5]⟩,by dsimp only;omega,(zle 0)⟩;simp only[inR,Int.max_def]at hm hyr ⊢;split<;>assumption
 ·have g1:decide (((i+1:Nat):Int)<((iL (x::r)).length:Int))=false:=by rw[hle];simp;omega
  rw[ok,fp8 hge]
  exact Ok
theorem di4:∀(r:List Int) (x:Int),decide (r.foldl min x<0)=(x::r).any fun v=>decide (v<0)
 |[],x=>by simp only[fw0,ft8,fv4,fw6];(try rfl)
 |y::r,x=>by
  rw[ft5,di4 r (min x y),ft8,ft8,ft8,←Bool.or_assoc];congr 1;rw[fq3];simp only[decide_eq_true_eq,ft0];omega
theorem di5(n:Int):∀(r:List Int) (x:Int),decide (r.foldl max x≥n)=(x::r).any fun v=>decide (v≥n)
 |[],x=>by simp only[fw0,ft8,fv4,fw6];(try rfl)
 |y::r,x=>by
  rw[ft5,di5 n r (max x y),ft8,ft8,ft8,←Bool.or_assoc];congr 1;rw[fq3];simp only[decide_eq_true_eq,ft0];omega
def di6:List ByteArray→Bool
 |[]=>true
 |[_]=>true
 |a::b::r=>Op.bytesLess a.toList b.toList&&di6 (b::r)
theorem di7:∀a b:List UInt8,(Op.bytesLess a b=true∧Op.bytesLess b a=false∧a≠b)∨(Op.bytesLess a b=false∧Op.bytesLess b a=true∧a≠b)∨(Op.bytesLess a b=false∧Op.bytesLess b a=false∧a=b)
 |[],[]=>.inr (.inr ⟨rfl,rfl,rfl⟩)
 |[],_::_=>.inl ⟨rfl,rfl,by simp⟩
 |_::_,[]=>.inr (.inl ⟨rfl,rfl,by simp⟩)
 |x::a,y::b=>by
  have ih:=di7 a b;simp only[Op.bytesLess];rcases Nat.lt_trichotomy x.toNat y.toNat with h|h|h
  ·have h1:x<y:=h;have h2: ¬ y<x:=fun h'=>Nat.lt_asymm h h'
   have h3:x≠y:=fun e=>by subst e;omega
   have h4:(y==x)=false:=by rw[beq_eq_false_iff_ne];exact fun e=>h3 e.symm
   left;refine⟨by simp[h1],by simp[h2,h4],fun e=>h3 (List.cons.inj e).1⟩
  ·have e:x=y:=UInt8.toNat_inj.1 h;subst e;have h2: ¬ x<x:=fun h'=>fx4 _ h'
   simp only[h2,decide_false,beq_self_eq_true,fs6,fs4];rcases ih with⟨i1,i2,i3⟩|⟨i1,i2,i3⟩|⟨i1,i2,i3⟩
   ·exact .inl ⟨i1,i2,fun e=>i3 (List.cons.inj e).2⟩
   ·exact .inr (.inl ⟨i1,i2,fun e=>i3 (List.cons.inj e).2⟩)
   ·exact .inr (.inr ⟨i1,i2,by rw[i3]⟩)
  ·have h1:y<x:=h;have h2: ¬ x<y:=fun h'=>Nat.lt_asymm h h'
   have h3:x≠y:=fun e=>by subst e;omega
   have h4:(x==y)=false:=by rw[beq_eq_false_iff_ne];exact h3
   right;left;refine⟨by simp[h2,h4],by simp[h1],fun e=>h3 (List.cons.inj e).1⟩
theorem di8(a b:ByteArray):(Op.bytesLess b.toList a.toList||b.toList==a.toList)= !Op.bytesLess a.toList b.toList:=by
 rcases di7 a.toList b.toList with⟨h1,h2,h3⟩|⟨h1,h2,h3⟩|⟨h1,h2,h3⟩
 ·rw[h1,h2,show(b.toList==a.toList)=false by rw[beq_eq_false_iff_ne];exact fun e=>h3 e.symm];rfl
 ·rw[h1,h2];rfl
 ·rw[h1,h2,h3];simp
structure SRs(l:List ByteArray) where
 i:Nat
 hi:i+1≤l.length
 ok:di6 l=di6 (l.drop i)
theorem di9{l:List ByteArray}{i:Nat}{a b:ByteArray}(ha:l[i]? =some a)(hb:l[i+1]? =some b):di6 (l.drop i)=(Op.bytesLess a.toList b.toList&&di6 (l.drop (i+1))):=by
 rw[bu9 ha,bu9 hb];rfl
theorem dj0{l:List ByteArray}{i:Nat}(h:i+1=l.length):di6 (l.drop i)=true:=by
 obtain⟨a,ha⟩:∃a,l[i]? =some a:=⟨_,fp1 Oa⟩;rw[bu9 ha,fp8 Oa];rfl
theorem dj1(l:List ByteArray):Ev E 270 [.sl (l.map .str)] (.d (.bool (di6 l))):=Ev.fit fun hfit=>by
 have hmax:=(by0 (hfit (.sl (l.map .str)) Oc)).1;have hle:(l.map D.str).length=l.length:=Oc
 by_cases h0:l=[]
 ·subst h0;refine ye1 func270 ntmps270 fun _ _ _=>?_
  repeat'(refine yz ?_)
  refine ac7 (α:=Unit) (fun p=>⟨[(0,.d (.sl [])),(3,.d (.int 1))],[]⟩) (fun p=>0) () (zle 0) ?_;rintro-;have g1:decide ((1:Int)<(([]:List D).length:Int))=false:=rfl
  exact Ok
 have hp:=fy9.2 h0;refine ye1 func270 ntmps270 fun _ _ _=>?_
 repeat'(refine yz ?_)
 refine ac7 (α:=SRs l) (fun p=>⟨[(0,.d (.sl (l.map .str))),(3,.d (.int ((p.i+1:Nat):Int)))],[]⟩) (fun p=>l.length-p.i) ⟨0,by omega,rfl⟩ (zle 0) ?_;rintro⟨i,hi,ok⟩;dsimp only;rcases fp2 (i+1) l.length with hlt|hge
 ·have g1:decide (((i+1:Nat):Int)<((l.map D.str).length:Int))=true:=by rw[hle];simp;omega
  have ha0:=fp1 (show i<l.length by omega);have hb0:=fp1 hlt;generalize l[i]=a at ha0;generalize l[i+1]=b at hb0;have hb:=bx9 (f:=D.str) hb0
  have ha:(l.map D.str)[(((i+1:Nat):Int) -1).toNat]? =some (.str a):=by
   rw[show(((i+1:Nat):Int) -1)=(i:Int) by omega];exact bx9 (f:=D.str) ha0
  have g2:=di8 a b;rw[ok,di9 ha0 hb0]
  cases hc:Op.bytesLess a.toList b.toList with
  |true=>
   rw[hc]at g2
   repeat'(first|refine yz ?_|refine yi (.str b) hb ?_|refine yi (.str a) ha ?_)
   refine ac1 ?_;exact⟨⟨i+1,hlt,by rw[ok,di9 ha0 hb0,hc];rfl⟩,by dsimp only;omega,(zle 0)⟩
  |false=>
   rw[hc]at g2
   repeat'(first|refine yz ?_|refine yi (.str b) hb ?_|refine yi (.str a) ha ?_|exact zD)
 ·have g1:decide (((i+1:Nat):Int)<((l.map D.str).length:Int))=false:=by rw[hle];simp;omega
  rw[ok,dj0 Oa]
  exact Ok
def nmE(s:ByteArray):Bool:=s.toList==(⟨#[]⟩:ByteArray).toList
def dj2(a:AT):Bool:=
 bif dh9 a.k==0||a.vs.length !=dh9 a.k then false else
 bif a.vs.any fun v=>decide (v<0)then false else
 bif (a.k !=3&&decide (a.ty.length>0))||((a.k !=1&&a.k !=2) && !nmE a.nm)then false else
 bif a.k==2 then bo9 a.v else di6 a.ty&&dg0 a.v bo3==0
abbrev oAT(a:AT):aa5:=.var 60 (.w (.d (cd8 a)))
structure SRt(l:List ByteArray) where
 i:Nat
 hi:i+1≤l.length∨l=[]
 ok:di6 l=di6 (l.drop i)
theorem dj3(a:AT):Ev E 107 [cd8 a] (.d (.bool (dj2 a))):=Ev.fit fun hfit=>by
 obtain⟨k,vs,nm,ty,v⟩:=a;have hft:=hfit (cd8 ⟨k,vs,nm,ty,v⟩) Oc;have hmax:=(by0 (hft.aggs (.sl (ty.map .str)) Oc)).1;have hle:=cf3 vs;have hlt:(ty.map D.str).length=ty.length:=Oc
 have hpl:=bw4 bx8 v;have hor:=dh0 v bo3;have hna:=di0 k;rcases cf5 k with rfl|rfl|rfl|rfl|hk
 ·cases hl:vs.length==3 with
  |false=>
   have g1:(((iL vs).length:Int) !=3)=true:=by rw[hle];simp at hl ⊢;omega
   have ea:dj2 ⟨3,vs,nm,ty,v⟩=false:=by unfold dj2;simp[dh9,bne,hl]
   rw[ea];refine ye1 func107 ntmps107 fun _ _ _=>?_
   repeat'(first|refine yz ?_|refine yp bq7 hna ?_|refine yx ?_|exact zD)
  |true=>
   have hl':vs.length=3:=by simpa using hl
   obtain⟨x,r,rfl⟩:=fz6 (fun h:vs=[]=>by rw[h]at hl';simp at hl');have g1:(((iL (x::r)).length:Int) !=3)=false:=by rw[hle,hl'];rfl
   have hmin:=di2 x r;have hmn:=di4 r x
   cases hm:decide (r.foldl min x<0)with
   |true=>
    have ea:dj2 ⟨3,x::r,nm,ty,v⟩=false:=by unfold dj2;rw[hm]at hmn;dsimp only;rw[←hmn,hl'];rfl
    rw[ea];refine ye1 func107 ntmps107 fun _ _ _=>?_
    repeat'(first|refine yz ?_|refine yp bq7 hna ?_|refine yp bq8 hmin ?_|refine yx ?_|exact zD)
   |false=>
    rw[hm]at hmn
    cases hn:nmE nm with
    |false=>
     have g3:(nm.toList==(⟨#[]⟩:ByteArray).toList)=false:=hn;have g3n:(!(nm.toList==(⟨#[]⟩:ByteArray).toList))=true:=by rw[g3];rfl
     have ea:dj2 ⟨3,x::r,nm,ty,v⟩=false:=by unfold dj2;dsimp only;rw[←hmn,hl',hn];rfl
     rw[ea];refine ye1 func107 ntmps107 fun _ _ _=>?_
     repeat'(first|refine yz ?_|refine yp bq7 hna ?_|refine yp bq8 hmin ?_|refine yx ?_|exact zD)
    |true=>
     have g3:(nm.toList==(⟨#[]⟩:ByteArray).toList)=true:=hn;have g3n:(!(nm.toList==(⟨#[]⟩:ByteArray).toList))=false:=by rw[g3];rfl
     have ea:dj2 ⟨3,x::r,nm,ty,v⟩=(di6 ty&&dg0 v bo3==0):=by unfold dj2;dsimp only;rw[←hmn,hl',hn];rfl
     rw[ea];refine ye1 func107 ntmps107 fun _ _ _=>?_
     repeat'(first|refine yz ?_|refine yp bq7 hna ?_|refine yp bq8 hmin ?_|refine yx ?_)
     refine ac7 (α:=SRt ty) (fun p=>⟨[(1,.ptr 0 0),(4,.d (.int ((p.i+1:Nat):Int)))],[oAT ⟨3,x::r,nm,ty,v⟩]⟩) (fun p=>ty.length-p.i) ⟨0,(by cases ty with|nil=>exact .inr rfl|cons _ _=>left;simp),rfl⟩ (zle 1) ?_;rintro⟨i,hi,ok⟩;dsimp only;rcases fp2 (i+1) ty.length with hlt2|hge
     ·have g4:decide (((i+1:Nat):Int)<((ty.map D.str).length:Int))=true:=by rw[hlt];simp;omega
      have ha0:=fp1 (show i<ty.length by omega);have hb0:=fp1 hlt2;generalize ty[i]=a at ha0;generalize ty[i+1]=b at hb0;have hb:=bx9 (f:=D.str) hb0
      have ha:(ty.map D.str)[(((i+1:Nat):Int) -1).toNat]? =some (.str a):=by
       rw[show(((i+1:Nat):Int) -1)=(i:Int) by omega];exact bx9 (f:=D.str) ha0
      have hnx:=di9 ha0 hb0
      cases hc:Op.bytesLess a.toList b.toList with
      |true=>
       have hcn:(!Op.bytesLess a.toList b.toList)=false:=by rw[hc];rfl
       rw[hc,fs6]at hnx
       repeat'(first|refine yz ?_|refine yi (.str b) hb ?_|refine yi (.str a) ha ?_)
       refine ac1 ?_;exact⟨⟨i+1,.inl Oa,ok.trans hnx⟩,by dsimp only;omega,(zle 1)⟩
      |false=>
       have hcn:(!Op.bytesLess a.toList b.toList)=true:=by rw[hc];rfl
       rw[hc,fu5]at hnx;rw[ok,hnx]
       repeat'(first|refine yz ?_|refine yi (.str b) hb ?_|refine yi (.str a) ha ?_|exact zD)
     ·have g4:decide (((i+1:Nat):Int)<((ty.map D.str).length:Int))=false:=by rw[hlt];simp;omega
      have he:di6 (ty.drop i)=true:=by
       rcases hi with hi|hi
       ·exact dj0 Oa
       ·rw[hi];simp[di6]
      rw[ok,he,fs6]
      repeat'(first|refine yz ?_|refine yp b175 hor ?_|exact zD)
 ·cases hl:vs.length==1 with
  |false=>
   have g1:(((iL vs).length:Int) !=1)=true:=by rw[hle];simp at hl ⊢;omega
   have ea:dj2 ⟨1,vs,nm,ty,v⟩=false:=by unfold dj2;simp[dh9,bne,hl]
   rw[ea];refine ye1 func107 ntmps107 fun _ _ _=>?_
   repeat'(first|refine yz ?_|refine yp bq7 hna ?_|refine yx ?_|exact zD)
  |true=>
   have hl':vs.length=1:=by simpa using hl
   obtain⟨x,r,rfl⟩:=fz6 (fun h:vs=[]=>by rw[h]at hl';simp at hl');have g1:(((iL (x::r)).length:Int) !=1)=false:=by rw[hle,hl'];rfl
   have hmin:=di2 x r;have hmn:=di4 r x
   cases hm:decide (r.foldl min x<0)with
   |true=>
    have ea:dj2 ⟨1,x::r,nm,ty,v⟩=false:=by unfold dj2;rw[hm]at hmn;dsimp only;rw[←hmn,hl'];rfl
    rw[ea];refine ye1 func107 ntmps107 fun _ _ _=>?_
    repeat'(first|refine yz ?_|refine yp bq7 hna ?_|refine yp bq8 hmin ?_|refine yx ?_|exact zD)
   |false=>
    rw[hm]at hmn
    cases hty:decide (ty.length>0)with
    |true=>
     have g2:decide (((ty.map D.str).length:Int)>0)=true:=by rw[hlt];simpa using hty
     have ea:dj2 ⟨1,x::r,nm,ty,v⟩=false:=by unfold dj2;dsimp only;rw[←hmn,hl',hty];rfl
     rw[ea];refine ye1 func107 ntmps107 fun _ _ _=>?_
     repeat'(first|refine yz ?_|refine yp bq7 hna ?_|refine yp bq8 hmin ?_|refine yx ?_|exact zD)
    |false=>
     have g2:decide (((ty.map D.str).length:Int)>0)=false:=by rw[hlt];simpa using hty
     have hty0:ty=[]:=by simpa using hty
     subst hty0;have ea:dj2 ⟨1,x::r,nm,[],v⟩=(di6 [] &&dg0 v bo3==0):=by unfold dj2;dsimp only;rw[←hmn,hl'];rfl
     rw[ea];refine ye1 func107 ntmps107 fun _ _ _=>?_
     repeat'(first|refine yz ?_|refine yp bq7 hna ?_|refine yp bq8 hmin ?_|refine yx ?_)
     refine ac7 (α:=Unit) (fun p=>⟨[(1,.ptr 0 0),(4,.d (.int 1))],[oAT ⟨1,x::r,nm,[],v⟩]⟩) (fun p=>0) () (zle 1) ?_;rintro-;have g4:decide ((1:Int)<(([]:List D).length:Int))=false:=rfl
     repeat'(first|refine yz ?_|refine yp b175 hor ?_|exact zD)
 ·cases hl:vs.length==1 with
  |false=>
   have g1:(((iL vs).length:Int) !=1)=true:=by rw[hle];simp at hl ⊢;omega
   have ea:dj2 ⟨2,vs,nm,ty,v⟩=false:=by unfold dj2;simp[dh9,bne,hl]
   rw[ea];refine ye1 func107 ntmps107 fun _ _ _=>?_
   repeat'(first|refine yz ?_|refine yp bq7 hna ?_|refine yx ?_|exact zD)
  |true=>
   have hl':vs.length=1:=by simpa using hl
   obtain⟨x,r,rfl⟩:=fz6 (fun h:vs=[]=>by rw[h]at hl';simp at hl');have g1:(((iL (x::r)).length:Int) !=1)=false:=by rw[hle,hl'];rfl
   have hmin:=di2 x r;have hmn:=di4 r x
   cases hm:decide (r.foldl min x<0)with
   |true=>
    have ea:dj2 ⟨2,x::r,nm,ty,v⟩=false:=by unfold dj2;rw[hm]at hmn;dsimp only;rw[←hmn,hl'];rfl
    rw[ea];refine ye1 func107 ntmps107 fun _ _ _=>?_
    repeat'(first|refine yz ?_|refine yp bq7 hna ?_|refine yp bq8 hmin ?_|refine yx ?_|exact zD)
   |false=>
    rw[hm]at hmn
    cases hty:decide (ty.length>0)with
    |true=>
     have g2:decide (((ty.map D.str).length:Int)>0)=true:=by rw[hlt];simpa using hty
     have ea:dj2 ⟨2,x::r,nm,ty,v⟩=false:=by unfold dj2;dsimp only;rw[←hmn,hl',hty];rfl
     rw[ea];refine ye1 func107 ntmps107 fun _ _ _=>?_
     repeat'(first|refine yz ?_|refine yp bq7 hna ?_|refine yp bq8 hmin ?_|refine yx ?_|exact zD)
    |false=>
     have g2:decide (((ty.map D.str).length:Int)>0)=false:=by rw[hlt];simpa using hty
     have hty0:ty=[]:=by simpa using hty
     subst hty0;have ea:dj2 ⟨2,x::r,nm,[],v⟩=bo9 v:=by unfold dj2;dsimp only;rw[←hmn,hl'];rfl
     rw[ea];refine ye1 func107 ntmps107 fun _ _ _=>?_
     repeat'(first|refine yz ?_|refine yp bq7 hna ?_|refine yp bq8 hmin ?_|refine yp b174 hpl ?_|refine yx ?_|exact zD)
 ·cases hl:vs.length==1 with
  |false=>
   have g1:(((iL vs).length:Int) !=1)=true:=by rw[hle];simp at hl ⊢;omega
   have ea:dj2 ⟨4,vs,nm,ty,v⟩=false:=by unfold dj2;simp[dh9,bne,hl]
   rw[ea];refine ye1 func107 ntmps107 fun _ _ _=>?_
   repeat'(first|refine yz ?_|refine yp bq7 hna ?_|refine yx ?_|exact zD)
  |true=>
   have hl':vs.length=1:=by simpa using hl
   obtain⟨x,r,rfl⟩:=fz6 (fun h:vs=[]=>by rw[h]at hl';simp at hl');have g1:(((iL (x::r)).length:Int) !=1)=false:=by rw[hle,hl'];rfl
   have hmin:=di2 x r;have hmn:=di4 r x
   cases hm:decide (r.foldl min x<0)with
   |true=>
    have ea:dj2 ⟨4,x::r,nm,ty,v⟩=false:=by unfold dj2;rw[hm]at hmn;dsimp only;rw[←hmn,hl'];rfl
    rw[ea];refine ye1 func107 ntmps107 fun _ _ _=>?_
    repeat'(first|refine yz ?_|refine yp bq7 hna ?_|refine yp bq8 hmin ?_|refine yx ?_|exact zD)
   |false=>
    rw[hm]at hmn
    cases hty:decide (ty.length>0)with
    |true=>
     have g2:decide (((ty.map D.str).length:Int)>0)=true:=by rw[hlt];simpa using hty
     have ea:dj2 ⟨4,x::r,nm,ty,v⟩=false:=by unfold dj2;dsimp only;rw[←hmn,hl',hty];rfl
     rw[ea];refine ye1 func107 ntmps107 fun _ _ _=>?_
     repeat'(first|refine yz ?_|refine yp bq7 hna ?_|refine yp bq8 hmin ?_|refine yx ?_|exact zD)
    |false=>
     have g2:decide (((ty.map D.str).length:Int)>0)=false:=by rw[hlt];simpa using hty
     have hty0:ty=[]:=by simpa using hty
     subst hty0
     cases hn:nmE nm with
     |false=>
      have g3:(nm.toList==(⟨#[]⟩:ByteArray).toList)=false:=hn;have g3n:(!(nm.toList==(⟨#[]⟩:ByteArray).toList))=true:=by rw[g3];rfl
      have ea:dj2 ⟨4,x::r,nm,[],v⟩=false:=by unfold dj2;dsimp only;rw[←hmn,hl',hn];rfl
      rw[ea];refine ye1 func107 ntmps107 fun _ _ _=>?_
      repeat'(first|refine yz ?_|refine yp bq7 hna ?_|refine yp bq8 hmin ?_|refine yx ?_|exact zD)
     |true=>
      have g3:(nm.toList==(⟨#[]⟩:ByteArray).toList)=true:=hn;have g3n:(!(nm.toList==(⟨#[]⟩:ByteArray).toList))=false:=by rw[g3];rfl
      have ea:dj2 ⟨4,x::r,nm,[],v⟩=(di6 [] &&dg0 v bo3==0):=by unfold dj2;dsimp only;rw[←hmn,hl',hn];rfl
      rw[ea];refine ye1 func107 ntmps107 fun _ _ _=>?_
      repeat'(first|refine yz ?_|refine yp bq7 hna ?_|refine yp bq8 hmin ?_|refine yx ?_)
      refine ac7 (α:=Unit) (fun p=>⟨[(1,.ptr 0 0),(4,.d (.int 1))],[oAT ⟨4,x::r,nm,[],v⟩]⟩) (fun p=>0) () (zle 1) ?_;rintro-;have g4:decide ((1:Int)<(([]:List D).length:Int))=false:=rfl
      repeat'(first|refine yz ?_|refine yp b175 hor ?_|exact zD)
 ·obtain⟨h3,h1,h2,h4⟩:=hk;have e0:dh9 k=0:=by unfold dh9;rw[h1,h2,h4,h3];rfl
  have ea:dj2 ⟨k,vs,nm,ty,v⟩=false:=by unfold dj2;dsimp only;rw[e0];rfl
  rw[e0]at hna;rw[ea];refine ye1 func107 ntmps107 fun _ _ _=>?_
  repeat'(first|refine yz ?_|refine yp bq7 hna ?_|exact zD)
def dj4(a:AT):Bool:=
 bif cntN a.k !=(a.vs.length:Int)|| !di6 a.ty then false else
 bif (a.k !=3&&decide (a.ty.length>0))||((a.k !=1&&a.k !=2) && !nmE a.nm)then false else
 bif a.k==2 then bo9 a.v else dg0 a.v bo3==0
theorem dj5(a:AT):Ev E 207 [cd8 a] (.d (.bool (dj4 a))):=by
 obtain⟨k,vs,nm,ty,v⟩:=a;have hle:=cf3 vs;have hlt:(ty.map D.str).length=ty.length:=Oc
 have h1:=di1 k;have h2:=dj1 ty;have h3:=dh7 v bo3;have h4:=bw5 v;refine ye1 func207 ntmps207 fun _ _ _=>?_
 repeat'(first|refine yz ?_|refine yp b269 h1 ?_|refine yp b270 h2 ?_|refine yp b271 bt7 ?_|refine yp b52 h3 ?_|refine yp b272 h4 ?_|(refine yy ?_ ?_<;>intro _)|(refine qV rfl ?_ ?_<;>intro _))
 all_goals(refine congrArg D.bool ?_;clear h1 h2 h3 h4;simp_all [dj4,nmE,fs3])
def dj6(vs:List Int)(n:Int):Bool:=vs.all fun v=> !(decide (v<0)||decide (v≥n))
structure SAf{α:Type}(l:List α)(f:α→Bool) where
 i:Nat
 hi:i≤l.length
 ok:l.all f=(l.drop i).all f
theorem dj7{α:Type}{l:List α}{f:α→Bool}{i:Nat}{x:α}(h:l[i]? =some x):(l.drop i).all f=(f x&&(l.drop (i+1)).all f):=by rw[bu9 h,ft3]
theorem dj8(a:AT)(n:Int):Ev E 208 [cd8 a,.int n] (.d (.bool (dj6 a.vs n))):=Ev.fit fun hfit=>by
 obtain⟨k,vs,nm,ty,v⟩:=a;have hmax:=(by0 ((hfit (cd8 ⟨k,vs,nm,ty,v⟩) Oc).aggs (cd7 vs) Oc)).1;have hle:=cf3 vs;unfold dj6;refine ye2 func208 ntmps208 fun _ _ _=>?_
 repeat'(refine yz ?_)
 refine ac7 (α:=SAf vs fun v=> !(decide (v<0)||decide (v≥n))) (fun p=>⟨[(1,.d (.int n)),(2,.ptr 0 0),(5,.d (.int p.i))],[oAT ⟨k,vs,nm,ty,v⟩]⟩) (fun p=>vs.length-p.i) ⟨0,by omega,rfl⟩ (zle 1) ?_;rintro⟨i,hi,ok⟩;dsimp only at ok ⊢;rcases fp2 i vs.length with hlt|hge
 ·have g1:decide ((i:Int)<((iL vs).length:Int))=true:=by rw[hle];simpa using hlt
  have hx0:=fp1 hlt;generalize vs[i]=y at hx0;have hx:=cf4 hx0;rw[dj7 hx0]at ok;rw[ok]
  cases c1:decide (y<0)with
  |true=>
   repeat'(first|refine yz ?_|refine yi (.int y) hx ?_|refine yx ?_|exact zD)
  |false=>
   cases c2:decide (y≥n)with
   |true=>
    repeat'(first|refine yz ?_|refine yi (.int y) hx ?_|refine yx ?_|exact zD)
   |false=>
    repeat'(first|refine yz ?_|refine yi (.int y) hx ?_|refine yx ?_)
    refine ac1 ?_;exact⟨⟨i+1,by omega,by rw[ok,c1,c2];rfl⟩,by dsimp only;omega,(zle 1)⟩
 ·have g1:decide ((i:Int)<((iL vs).length:Int))=false:=by rw[hle];simp;omega
  rw[ok,fp8 hge]
  exact Ok
theorem dj9(s:ByteArray):Ev E 180 [.str s] (.d (.bool (!bz7 s))):=by
 have h:=ca2 s;refine ye1 func180 ntmps180 fun _ _ _=>?_
 repeat'(first|refine yz ?_|refine yp b179 h ?_|exact zD)
theorem dk0{α:Type}{l:List α}{f:α→Bool}{i:Nat}{x:α}(hx:l[i]? =some x)(hc:f x=true)(h:∀j,j<i→∀y,l[j]? =some y→f y=false):l.findIdx? f=some i:=by
 have hi:=(fp7.1 hx).1;rw[ga1];refine⟨hi,?_,fun j hj=>?_⟩
 ·rw[fp1 hi]at hx
  cases hx
  exact hc
 ·have:=h j hj _ (fp1 Oa);simpa using this
theorem dk1{α:Type}{l:List α}{f:α→Bool}(h:∀j,j<l.length→∀y,l[j]? =some y→f y=false):l.findIdx? f=none:=by
 rw[ga2];intro x hx;obtain⟨j,hj⟩:=fr5 hx;exact h j (fp7.1 hj).1 x hj
theorem dk2{α:Type}{l:List α}{f:α→Bool}:decide (optI (l.findIdx? f)≥0)=l.any f:=by
 cases h:l.findIdx? f with
 |none=>
  rw[ga2]at h;have:l.any f=false:=by rw[fv8];intro x hx;simpa using h x hx
  rw[this];rfl
 |some i=>
  obtain⟨hi,h1,-⟩:=ga1.1 h;have:l.any f=true:=fy5.2 ⟨_,fw1 hi,h1⟩;rw[this];simp[optI]
structure SFi{α:Type}(l:List α)(f:α→Bool) where
 i:Nat
 hi:i≤l.length
 ok:∀j,j<i→∀y,l[j]? =some y→f y=false
theorem SFi.next{α:Type}{l:List α}{f:α→Bool}{i:Nat}{x:α}(hx:l[i]? =some x)(hc:f x=false)(h:∀j,j<i→∀y,l[j]? =some y→f y=false):∀j,j<i+1→∀y,l[j]? =some y→f y=false:=by
 intro j hj y hy;rcases Nat.lt_succ_iff_lt_or_eq.1 hj with h1|rfl
 ·exact h j h1 y hy
 ·rw[hx]at hy;cases hy;exact hc
theorem dk3(fn:FuncId)(hb:an1 E fn)(f:ByteArray→Bool)(l:List ByteArray)(hf:∀x∈l,Ev E fn [.str x] (.d (.bool (f x)))):Ev E 187 [.sl (l.map .str),.imm (.func (.func fn) #[] #[])] (.d (.int (optI (l.findIdx? f)))):=Ev.fit fun hfit=>by
 have hmax:=(by0 (hfit (.sl (l.map .str)) Oc)).1;have hle:(l.map D.str).length=l.length:=Oc
 refine ye2 func187 ntmps187 fun _ _ _=>?_
 repeat'(refine yz ?_)
 refine ac7 (α:=SFi l f) (fun p=>⟨[(0,.d (.sl (l.map .str))),(1,.d (.imm (.func (.func fn) #[] #[]))),(7,.d (.int (l.map D.str).length)),(8,.d (.int p.i))],[]⟩) (fun p=>l.length-p.i) ⟨0,by omega,fun j hj=>absurd hj Oa⟩ (zle 0) ?_;rintro⟨i,hi,ok⟩;dsimp only;rcases fp2 i l.length with hlt|hge
 ·have g1:decide ((i:Int)<((l.map D.str).length:Int))=true:=by rw[hle];simpa using hlt
  have hx0:=fp1 hlt;generalize l[i]=y at hx0;have hx:=bx9 (f:=D.str) hx0;have h:=hf y (fp3 hx0)
  cases hc:f y with
  |true=>
   rw[hc]at h;rw[dk0 hx0 hc ok]
   repeat'(first|refine yz ?_|refine yi (.str y) hx ?_|refine yp hb h ?_|exact zD)
  |false=>
   rw[hc]at h
   repeat'(first|refine yz ?_|refine yi (.str y) hx ?_|refine yp hb h ?_)
   refine ac1 ?_;exact⟨⟨i+1,by omega,SFi.next hx0 hc ok⟩,by dsimp only;omega,(zle 0)⟩
 ·have g1:decide ((i:Int)<((l.map D.str).length:Int))=false:=by rw[hle];simp;omega
  rw[dk1 fun j hj=>ok j Oa]
  exact Ok
theorem dk4(fn:FuncId)(hb:an1 E fn)(f:ByteArray→Bool)(l:List ByteArray)(hf:∀x∈l,Ev E fn [.str x] (.d (.bool (f x)))):Ev E 120 [.sl (l.map .str),.imm (.func (.func fn) #[] #[])] (.d (.bool (l.any f))):=by
 have h:=dk3 fn hb f l hf;rw[←dk2];refine ye2 func120 ntmps120 fun _ _ _=>?_
 repeat'(first|refine yz ?_|refine yp b187 h ?_|exact zD)
def dk5(a:AT):Bool:= !((a.k==1||a.k==2) && !bz7 a.nm) && !(a.ty.any fun t=> !bz7 t)
theorem dk6(a:AT):Ev E 112 [cd8 a] (.d (.bool (dk5 a))):=by
 obtain⟨k,vs,nm,ty,v⟩:=a;have h1:=ca2 nm;have h2:=dk4 180 b180 (fun t=> !bz7 t) ty fun x _=>dj9 x
 refine ye1 func112 ntmps112 fun _ _ _=>?_
 repeat'(first|refine yz ?_|refine yp b179 h1 ?_|refine yp b120 h2 ?_|(refine yy ?_ ?_<;>intro _)|(refine qV rfl ?_ ?_<;>intro _))
 all_goals(refine congrArg D.bool ?_;clear h1 h2;simp_all [dk5])
theorem dk7(a:AT):Ev E 210 [cd8 a] (.d (.bool (dk5 a))):=Ev.fit fun hfit=>by
 obtain⟨k,vs,nm,ty,v⟩:=a;have hmax:=(by0 ((hfit (cd8 ⟨k,vs,nm,ty,v⟩) Oc).aggs (.sl (ty.map .str)) Oc)).1;have hlt:(ty.map D.str).length=ty.length:=Oc
 have h1:=ca3 nm;have hna:(!(ty.any fun t=> !bz7 t))=ty.all bz7:=by rw[List.not_any_eq_all_not];simp
 unfold dk5;dsimp only;rw[hna];refine ye1 func210 ntmps210 fun _ _ _=>?_
 repeat'(refine yz ?_)
 refine ac7 (α:=SAf ty bz7) (fun p=>⟨[(1,.ptr 0 0),(3,.d (.int p.i))],[oAT ⟨k,vs,nm,ty,v⟩]⟩) (fun p=>ty.length-p.i) ⟨0,by omega,rfl⟩ (zle 1) ?_;rintro⟨i,hi,ok⟩;dsimp only at ok ⊢;rcases fp2 i ty.length with hlt2|hge
 ·have g1:decide ((i:Int)<((ty.map D.str).length:Int))=true:=by rw[hlt];simpa using hlt2
  have hx0:=fp1 hlt2;generalize ty[i]=y at hx0;have hx:=bx9 (f:=D.str) hx0;have h:=ca3 y;rw[dj7 hx0]at ok
  cases hc:bz7 y with
  |true=>
   rw[hc]at h
   repeat'(first|refine yz ?_|refine yi (.str y) hx ?_|refine yp bq1 h ?_)
   refine ac1 ?_;exact⟨⟨i+1,by omega,by rw[ok,hc];rfl⟩,by dsimp only;omega,(zle 1)⟩
  |false=>
   rw[hc]at h;rw[ok,hc,fu5,Bool.and_false]
   repeat'(first|refine yz ?_|refine yi (.str y) hx ?_|refine yp bq1 h ?_|exact zD)
 ·have g1:decide ((i:Int)<((ty.map D.str).length:Int))=false:=by rw[hlt];simp;omega
  rw[ok,fp8 hge,List.all_nil,Bool.and_true]
  repeat'(first|refine yz ?_|refine yp bq1 h1 ?_|(refine yy ?_ ?_<;>intro _))
  all_goals(refine congrArg D.bool ?_;clear h1;simp_all)
def twF(l:List ByteArray):Bool:=(List.range l.length).any fun i=>(List.range i).any fun k=>match l[i]?,l[k]? with|some a,some b=>a.toList==b.toList|_,_=>false
structure SRg(f:Nat→Bool)(n:Nat) where
 i:Nat
 hi:i≤n
 ok:(List.range i).any f=false
theorem dk8{f:Nat→Bool}{i:Nat}(h:(List.range i).any f=false)(hc:f i=false):(List.range (i+1)).any f=false:=by
 rw[List.range_succ,List.any_append,h,ft8,hc];rfl
theorem dk9{f:Nat→Bool}{i n:Nat}(hi:i<n)(hc:f i=true):(List.range n).any f=true:=fy5.2 ⟨i,fu0.2 hi,hc⟩
theorem dl0(l:List ByteArray):Ev E 209 [.sl (l.map .str)] (.d (.bool (twF l))):=Ev.fit fun hfit=>by
 have hmax:=(by0 (hfit (.sl (l.map .str)) Oc)).1;have hle:(l.map D.str).length=l.length:=Oc
 obtain⟨f,hf⟩:∃f:Nat→Nat→Bool,f=fun i k=>match l[i]?,l[k]? with|some a,some b=>a.toList==b.toList|_,_=>false:=⟨_,rfl⟩
 have he:∀i k a b,l[i]? =some a→l[k]? =some b→f i k=(a.toList==b.toList):=fun i k a b ha hb=>by rw[hf];simp only[ha,hb]
 have et:twF l=(List.range l.length).any fun i=>(List.range i).any (f i):=by rw[hf];rfl
 rw[et];clear hf et;refine ye1 func209 ntmps209 fun _ _ _=>?_
 repeat'(refine yz ?_)
 refine ac7 (α:=SRg (fun i=>(List.range i).any (f i)) l.length) (fun p=>⟨[(0,.d (.sl (l.map .str))),(3,.d (.int p.i))],[]⟩) (fun p=>l.length-p.i) ⟨0,by omega,rfl⟩ (zle 0) ?_;rintro⟨i,hi,ok⟩;dsimp only at ok ⊢;rcases fp2 i l.length with hlt|hge
 ·have g1:decide ((i:Int)<((l.map D.str).length:Int))=true:=by rw[hle];simpa using hlt
  have hx0:=fp1 hlt;generalize l[i]=a at hx0;have hx:=bx9 (f:=D.str) hx0
  repeat'(refine yz ?_)
  refine ac7 (α:=SRg (f i) i) (fun p=>⟨[(0,.d (.sl (l.map .str))),(3,.d (.int i)),(4,.d (.int p.i))],[]⟩) (fun p=>i-p.i) ⟨0,by omega,rfl⟩ (zle 0) ?_;rintro⟨k,hk,ok2⟩;dsimp only at ok2 ⊢;rcases fp2 k i with hlt2|hge2
  ·have g2:decide ((k:Int)<(i:Int))=true:=by simpa using hlt2
   have hy0:=fp1 (show k<l.length by omega);generalize l[k]=b at hy0;have hy:=bx9 (f:=D.str) hy0
   cases hc:a.toList==b.toList with
   |true=>
    have h1:=he i k a b hx0 hy0;rw[hc]at h1;rw[dk9 hlt (dk9 hlt2 h1)]
    repeat'(first|refine yz ?_|refine yi (.str a) hx ?_|refine yi (.str b) hy ?_|exact zD)
   |false=>
    have h1:=he i k a b hx0 hy0;rw[hc]at h1
    repeat'(first|refine yz ?_|refine yi (.str a) hx ?_|refine yi (.str b) hy ?_)
    refine ac1 ?_;exact⟨⟨k+1,by omega,dk8 ok2 h1⟩,by dsimp only;omega,(zle 0)⟩
  ·have g2:decide ((k:Int)<(i:Int))=false:=by simp;omega
   obtain rfl:k=i:=Oa
   repeat'(refine yz ?_)
   refine ac1 ?_;exact⟨⟨k+1,by omega,dk8 ok ok2⟩,by dsimp only;omega,(zle 0)⟩
 ·have g1:decide ((i:Int)<((l.map D.str).length:Int))=false:=by rw[hle];simp;omega
  obtain rfl:i=l.length:=Oa
  rw[ok]
  exact Ok
def dl1(l:List AT)(v:Int):Bool:=l.any fun a=>a.vs.any fun y=>y==v
structure SNo{α:Type}(l:List α)(f:α→Bool) where
 i:Nat
 hi:i≤l.length
 ok:l.any f=(l.drop i).any f
theorem dl2{α:Type}{l:List α}{f:α→Bool}{i:Nat}{x:α}(h:l[i]? =some x):(l.drop i).any f=(f x||(l.drop (i+1)).any f):=by rw[bu9 h,ft8]
theorem dl3(l:List AT)(v:Int):Ev E 211 [.sl (l.map cd8),.int v] (.d (.bool (dl1 l v))):=Ev.fit fun hfit=>by
 obtain⟨hmax,hel⟩:=by0 (hfit (.sl (l.map cd8)) Oc);have hle:(l.map cd8).length=l.length:=Oc
 unfold dl1;refine ye2 func211 ntmps211 fun _ _ _=>?_
 repeat'(refine yz ?_)
 refine ac7 (α:=SNo l fun a=>a.vs.any fun y=>y==v) (fun p=>⟨[(0,.d (.sl (l.map cd8))),(1,.d (.int v)),(5,.d (.int p.i))],[]⟩) (fun p=>l.length-p.i) ⟨0,by omega,rfl⟩ (zle 0) ?_;rintro⟨i,hi,ok⟩;dsimp only at ok ⊢;rcases fp2 i l.length with hlt|hge
 ·have g1:decide ((i:Int)<((l.map cd8).length:Int))=true:=by rw[hle];simpa using hlt
  have hx0:=fp1 hlt;generalize l[i]=a at hx0;have hx:=bx9 (f:=cd8) hx0;have hmx:=(by0 ((hel a (fp3 hx0)).aggs (cd7 a.vs) Oc)).1;have hlv:=cf3 a.vs;rw[dl2 hx0]at ok
  repeat'(refine yz ?_)
  refine ac7 (α:=SNo a.vs fun y=>y==v) (fun p=>⟨[(0,.d (.sl (l.map cd8))),(1,.d (.int v)),(5,.d (.int i)),(6,.d (.int p.i))],[]⟩) (fun p=>a.vs.length-p.i) ⟨0,by omega,rfl⟩ (zle 0) ?_;rintro⟨j,hj,ok2⟩;dsimp only at ok2 ⊢;rcases fp2 j a.vs.length with hlt2|hge2
  ·have g2:decide ((j:Int)<((iL a.vs).length:Int))=true:=by rw[hlv];simpa using hlt2
   have hy0:=fp1 hlt2;generalize a.vs[j]=y at hy0;have hy:=cf4 hy0;rw[dl2 hy0]at ok2
   cases hc:y==v with
   |true=>
    rw[ok,ok2,hc,fx6,fx6]
    repeat'(first|refine yz ?_|refine yi (cd8 a) hx ?_|refine yi (.int y) hy ?_|exact zD)
   |false=>
    repeat'(first|refine yz ?_|refine yi (cd8 a) hx ?_|refine yi (.int y) hy ?_)
    refine ac1 ?_;exact⟨⟨j+1,by omega,by rw[ok2,hc,fs4]⟩,by dsimp only;omega,(zle 0)⟩
  ·have g2:decide ((j:Int)<((iL a.vs).length:Int))=false:=by rw[hlv];simp;omega
   rw[fp8 hge2,fv4]at ok2
   repeat'(first|refine yz ?_|refine yi (cd8 a) hx ?_)
   refine ac1 ?_;exact⟨⟨i+1,by omega,by rw[ok,ok2,fs4]⟩,by dsimp only;omega,(zle 0)⟩
 ·have g1:decide ((i:Int)<((l.map cd8).length:Int))=false:=by rw[hle];simp;omega
  rw[ok,fp8 hge]
  exact Ok
def bL(l:List Bool):List D:=l.map D.bool
theorem dl4(l:List Bool)(x:Bool):Ev E 181 [.sl (bL l),.bool x] (.d (.int (optI (l.findIdx? fun y=>x==y)))):=Ev.fit fun hfit=>by
 have hmax:=(by0 (hfit (.sl (bL l)) Oc)).1;have hle:(bL l).length=l.length:=by simp[bL]
 refine ye2 func181 ntmps181 fun _ _ _=>?_
 repeat'(refine yz ?_)
 refine ac7 (α:=SFi l fun y=>x==y) (fun p=>⟨[(0,.d (.sl (bL l))),(1,.d (.bool x)),(7,.d (.int (bL l).length)),(8,.d (.int p.i))],[]⟩) (fun p=>l.length-p.i) ⟨0,by omega,fun j hj=>absurd hj Oa⟩ (zle 0) ?_;rintro⟨i,hi,ok⟩;dsimp only;rcases fp2 i l.length with hlt|hge
 ·have g1:decide ((i:Int)<((bL l).length:Int))=true:=by rw[hle];simpa using hlt
  have hx0:=fp1 hlt;generalize l[i]=y at hx0;have hx:(bL l)[(i:Int).toNat]? =some (.bool y):=bx9 (f:=D.bool) hx0
  cases hc:x==y with
  |true=>
   rw[dk0 hx0 hc ok]
   repeat'(first|refine yz ?_|refine yi (.bool y) hx ?_|exact zD)
  |false=>
   repeat'(first|refine yz ?_|refine yi (.bool y) hx ?_)
   refine ac1 ?_;exact⟨⟨i+1,by omega,SFi.next hx0 hc ok⟩,by dsimp only;omega,(zle 0)⟩
 ·have g1:decide ((i:Int)<((bL l).length:Int))=false:=by rw[hle];simp;omega
  rw[dk1 fun j hj=>ok j Oa]
  exact Ok
theorem dl5(l:List Bool)(x:Bool):Ev E 113 [.sl (bL l),.bool x] (.d (.bool (l.any fun y=>x==y))):=by
 have h:=dl4 l x;rw[←dk2];refine ye2 func113 ntmps113 fun _ _ _=>?_
 repeat'(first|refine yz ?_|refine yp b181 h ?_|exact zD)
end Go.Proofs.YtndgolmgaenlfaaGreatDoor
namespace Go.Proofs.YtndgolmgaenlfaaGreatDoor
set_option maxRecDepth 4000
open Go Go.Abs Go.Val Go.RowKit Go.Sort Go.Proofs Go.Proofs.Tryz
theorem dl6:EvS E 109 [.clo 178 [.ptr 0 0]] [cf6 []] .nilS [cf6 []]:=by
 intro w F σ vs hi hl hr
 match vs,hl with
 |[v0],_=>
  obtain⟨us,rfl,ul,ur⟩:=hr 0 _ _ rfl rfl
  match us,ul with
  |[u0],_=>
   obtain⟨b,c,n,e1,rfl⟩:=ur 0 _ _ rfl rfl;obtain⟨cs,g1,g2,g3,g4,g5,g6⟩:=hi.obs 0 _ _ rfl e1
   match cs,g2 with
   |[sv],_=>
    have hrd:Rd w F (.sl (([]:List ByteArray).map .str)) sv:=g4 0 (.d (.sl (([]:List ByteArray).map .str))) sv rfl rfl;have hbl:b<w.heap.size:=(fx9.1 g1).1
    obtain⟨p,cap,rfl⟩:∃p cap,sv=.slice p 0 cap:=by
     rcases Rd.sl_inv hrd with⟨-,rfl⟩|⟨size,ad,cap,rfl,-⟩
     ·exact⟨_,_,rfl⟩
     ·exact⟨_,_,rfl⟩
    have hG:ce5 2 b [] w:=ce8 (p:=p) (cap:=cap) hbl (by simp only[World.cell?,g1];simp);refine(cf2 b [] Od Od w hG).mono ?_;rintro e w' ⟨v,rfl,hrow,hnil,hb⟩;have hv:v=.slice none 0 0:=hnil.2 rfl;exact⟨_,F,σ,rfl,aa7.of_below hb fun k hk=>hk.1,fun _ h=>h,fun _ h=>.inl h,fun i p hi hp=>hp,(ab2.lend hi).ext (Ext.of_below hb hi.flt),hv⟩
theorem dl7:Ev E 111 [.sl []] (.d (.sl [])):=by
 refine ye1 func111 ntmps111 fun _ _ _=>?_
 exact Ok
theorem dl8{α:Type}{p:α→Bool}:∀{l:List α},(l.filter p).length<l.length↔∃x∈l,p x=false
 |[]=>by simp
 |x::l=>by
  have ih:=dl8 (p:=p) (l:=l);have hle:=fx2 p l
  cases h:p x with
  |true=>
   rw[List.filter_cons_of_pos h,fp5,fp5,Nat.add_lt_add_iff_right,ih];constructor
   ·rintro⟨y,hy,hp⟩;exact⟨y,fy6 _ hy,hp⟩
   ·rintro⟨y,hy,hp⟩;rcases fq1.1 hy with rfl|hy
    ·rw[h]at hp;cases hp
    ·exact⟨y,hy,hp⟩
  |false=>
   rw[List.filter_cons_of_neg (by rw[h];decide),fp5];exact⟨fun _=>⟨x,fz5,h⟩,fun _=>by omega⟩
theorem dl9{zs:List (List UInt8)}(hs:zs.Pairwise fun x y=>x≤y):(∃j,j<zs.length∧Lib.keeps zs.toArray j=false)↔ ¬ zs.Nodup:=by
 have hg:∀j,j<zs.length→zs.toArray[j]! =zs[j]! :=fun j hj=>by simp
 constructor
 ·rintro⟨j,hj,hk⟩ hn;simp only[Lib.keeps,decide_eq_false_iff_not,not_or,Classical.not_not]at hk;obtain⟨h0,h1⟩:=hk;rw[hg j hj,hg (j-1) Oa,getElem!_pos zs j hj,getElem!_pos zs (j-1) Oa]at h1;rw[List.Nodup,List.pairwise_iff_getElem]at hn;exact hn (j-1) j Oa hj Oa h1.symm
 ·intro hn;rw[List.Nodup,List.pairwise_iff_getElem]at hn;simp only[Classical.not_forall]at hn;obtain⟨i,j,hi,hj,hij,he⟩:=hn;have he:zs[i]=zs[j]:=Classical.byContradiction fun h=>he h
  refine⟨i+1,by omega,?_⟩;simp only[Lib.keeps,decide_eq_false_iff_not,not_or];refine⟨by omega,fun h=>h ?_⟩;rw[hg (i+1) Oa,hg (i+1-1) Oa,getElem!_pos zs (i+1) Oa,getElem!_pos zs (i+1-1) Oa];have hp:=List.pairwise_iff_getElem.1 hs;have h1:zs[i+1-1]≤zs[i+1]:=hp _ _ _ _ Oa;refine List.le_antisymm ?_ h1
  have h2:zs[i+1]≤zs[j]:=by
   rcases fp2 (i+1) j with h|h
   ·exact hp _ _ _ _ h
   ·have:i+1=j:=by omega
    subst this;exact List.le_refl _
  show zs[i+1]≤zs[i];rw[he];exact h2
theorem dm0(l:List ByteArray):twF l=true↔ ¬ (cf7 l).Nodup:=by
 rw[List.Nodup,List.pairwise_iff_getElem];unfold twF;simp only[fy5,fu0];constructor
 ·rintro⟨i,hi,k,hk,h⟩ hn;rw[fp1 hi,fp1 (show k<l.length by omega)]at h;have hlen:(cf7 l).length=l.length:=by simp[cf7]
  refine hn k i Oa Oa hk ?_;have h':l[i].toList=l[k].toList:=by simpa using h
  simp only[cf7,List.getElem_map];rw[ByteArray.toList_eq,ByteArray.toList_eq]at h';exact h'.symm
 ·intro hn;simp only[Classical.not_forall]at hn;obtain⟨i,j,hi,hj,hij,he⟩:=hn;have he:(cf7 l)[i]=(cf7 l)[j]:=Classical.byContradiction fun h=>he h
  have hlen:(cf7 l).length=l.length:=by simp[cf7]
  refine⟨j,by omega,i,hij,?_⟩;rw[fp1 (show j<l.length by omega),fp1 (show i<l.length by omega)];simp only[cf7,List.getElem_map]at he;simp only[beq_iff_eq];rw[ByteArray.toList_eq,ByteArray.toList_eq];exact he.symm
theorem dm1(l:List ByteArray):decide (((cf8 (Lib.compact (sortU (cf7 l)))).length:Int)<((l.map D.str).length:Int))=twF l:=by
 have hlen:(sortU (cf7 l)).length=l.length:=by simp[sortU,cf7]
 have hsl:(sortU (cf7 l)).Pairwise fun x y=>x≤y:=by
  have:=List.pairwise_mergeSort (le:=fun x y:List UInt8=>decide (x≤y)) (fun a b c h1 h2=>by simp only[decide_eq_true_eq]at*;exact List.le_trans h1 h2) (fun a b=>by simp only[ft0,decide_eq_true_eq];exact List.le_total a b) (cf7 l);exact this.imp fun h=>by simpa using h
 have hnd:(sortU (cf7 l)).Nodup↔(cf7 l).Nodup:=(List.mergeSort_perm _ _).nodup_iff
 have hc:(Lib.compact (sortU (cf7 l))).length<l.length↔∃j,j<(sortU (cf7 l)).length∧Lib.keeps (sortU (cf7 l)).toArray j=false:=by
  unfold Lib.compact Lib.compactUpTo;rw[fp6];have:=dl8 (p:=Lib.keeps (sortU (cf7 l)).toArray) (l:=List.range (sortU (cf7 l)).length);rw[List.length_range,hlen]at this;rw[hlen];simpa[fu0]using this
 rw[fq3,decide_eq_true_eq,dm0,←hnd,←dl9 hsl,←hc];simp[cf8]
def dm2(n:Int)(a:AT):Bool:= !dj2 a||a.vs.any fun v=>decide (v≥n)
theorem dm3(n:Int):∀vs:List Int,dj6 vs n=(!(vs.any fun v=>decide (v<0)) && !(vs.any fun v=>decide (v≥n)))
 |[]=>rfl
 |v::r=>by
  have ih:=dm3 n r;unfold dj6 at ih ⊢;rw[ft3,ft8,ft8,ih]
  cases decide (v<0)<;>cases decide (v≥n)<;>cases(r.any fun v=>decide (v<0))<;>cases(r.any fun v=>decide (v≥n))<;>rfl
theorem dm4(n:Int)(a:AT):(!dj4 a|| !dj6 a.vs n)=dm2 n a:=by
 obtain⟨k,vs,nm,ty,v⟩:=a;unfold dm2 dj4 dj2 cntN;dsimp only;rw[dm3]
 have hc:((bif dh9 k==0 then(-1:Int)else(dh9 k:Int)) !=(vs.length:Int))=(dh9 k==0||vs.length !=dh9 k):=by
  cases h0:dh9 k with
  |zero=>simp
  |succ m=>
   rw[show(m+1==0)=false from rfl,fs4];simp only[cond_false];rw[fq3];simp only[bne_iff_ne,ne_eq];omega
 rw[hc]
 have hty:((k !=3&&decide (ty.length>0))=false)→k≠3→di6 ty=true:=by
  intro h hk
  have:ty=[]:=by
   have h3:(k !=3)=true:=by simpa using hk
   rw[h3]at h;simpa using h
  subst this;rfl
 cases h1:(dh9 k==0||vs.length !=dh9 k)
 ·cases h2:(vs.any fun v=>decide (v<0))
  ·cases h3:(vs.any fun v=>decide (v≥n))
   ·cases h4:(k !=3&&decide (ty.length>0))
    ·cases h5:((k !=1&&k !=2) && !nmE nm)
     ·cases h6:k==2
      ·cases h7:di6 ty<;>cases h8:(dg0 v bo3==0)<;>rfl
      ·rw[hty h4 (by simp at h6;omega)]
       cases h8:bo9 v<;>rfl
     ·cases di6 ty<;>rfl
    ·cases di6 ty<;>rfl
   ·cases di6 ty<;>simp
  ·cases di6 ty<;>simp
 ·simp
def dm5(n:Nat)(f:Nat→Bool):List Bool:=(List.range n).map f
def dm6(c:CJ):Int:=
 bif decide (c.vs.length>24)||decide (c.as.length>12)then 4 else
 bif c.as.any (dm2 c.vs.length)then 1 else
 bif twF c.vs then 7 else
 bif c.as.any (fun a=> !dk5 a)then 6 else
 bif (List.range c.vs.length).any (fun j=> !dl1 c.as j)then 25 else 0
theorem dm7(n:Nat)(f:Nat→Bool)(v:Int)(h0:0≤v)(h1:v<n):(bL (dm5 n f)).set v.toNat (.bool true)=bL (dm5 n fun j=>f j||v==(j:Int)):=by
 unfold bL dm5;rw[←List.map_set];congr 1;apply List.ext_getElem
 ·simp
 ·intro i hi hj;simp only[List.length_set,fp6,List.length_range]at hi;rw[List.getElem_set];simp only[List.getElem_map,List.getElem_range];split
  ·rename_i h
   have:v=(i:Int):=Oa
   simp[this]
  ·rename_i h
   have:(v==(i:Int))=false:=by rw[beq_eq_false_iff_ne];omega
   rw[this,fw6]
theorem dm8(n:Nat)(f:Nat→Bool)(v:Int)(h0:0≤v)(h1:v<n):(bL (dm5 n f))[v.toNat]? =some (.bool (f v.toNat)):=by
 unfold bL dm5;rw[fp9,fp9,fw5 Oa];rfl
theorem dm9(n:Nat)(f:Nat→Bool):((dm5 n f).any fun y=>false==y)=(List.range n).any fun j=> !f j:=by
 unfold dm5;rw[List.any_map];congr 1
 funext j
 simp only[Function.comp]
 cases f j<;>rfl
theorem dn0(n:Nat):(List.replicate n (D.bool false))=bL (dm5 n fun _=>false):=by
 unfold bL dm5;apply List.ext_getElem
 ·simp
 ·intro i hi hj;simp
theorem dn1{l:List AT}{i:Nat}{a:AT}(h:l[i]? =some a)(v:Int):dl1 (l.take (i+1)) v=(dl1 (l.take i) v||a.vs.any fun y=>y==v):=by
 unfold dl1;have hi:=(fp7.1 h);rw[fs5,h,Option.toList_some,List.any_append,ft8,fv4,fw6]
theorem dn2{α:Type}{l:List α}{i:Nat}{x:α}{f:α→Bool}(h:l[i]? =some x):(l.take (i+1)).any f=((l.take i).any f||f x):=by
 rw[fs5,h,Option.toList_some,List.any_append,ft8,fv4,fw6]
theorem dn3{a:AT}(h:dj2 a=true):a.vs.length=dh9 a.k∧dh9 a.k≠0∧(a.vs.any fun v=>decide (v<0))=false:=by
 unfold dj2 at h
 cases h1:(dh9 a.k==0||a.vs.length !=dh9 a.k)with
 |true=>rw[h1]at h;cases h
 |false=>
  rw[h1]at h
  cases h2:(a.vs.any fun v=>decide (v<0))with
  |true=>rw[h2]at h;cases h
  |false=>
   rw[ft4]at h1;refine⟨?_,?_,rfl⟩
   ·simpa using h1.2
   ·simpa using h1.1
end Go.Proofs.YtndgolmgaenlfaaGreatDoor
namespace Go.Proofs.YtndgolmgaenlfaaGreatDoor
set_option maxRecDepth 4000
open Go Go.Abs Go.Val Go.RowKit Go.Proofs.Tryz
structure PB where
 op:Int
 cj:CJ
 cl:CL
 e:Ex
 nm:ByteArray
 it:List IT
 od:List SK
 sk:Int
 lm:Int
inductive Pl where
 |mk (b:PB) (ks:List Pl)
def Pl.b:Pl→PB|.mk b _=>b
def Pl.ks:Pl→List Pl|.mk _ ks=>ks
theorem dn4{P:Pl→Prop}(h:∀b ks,(∀x∈ks,P x)→P (.mk b ks))(p:Pl):P p:=
 Pl.rec (motive_1:=P) (motive_2:=fun l=>∀x∈l,P x) (fun b ks ih=>h b ks ih) (fun x hx=>by cases hx)
  (fun a r ha hr x hx=>by rcases fq1.1 hx with rfl|hx;exact ha;exact hr x hx) p
def dn5(b:PB)(K:List D):D:=.agg [.int b.op,.sl K,.sl (b.cj.vs.map .str),.sl (b.cj.as.map cd8),
 .int b.cl.k,.bool b.cl.opt,.bool b.cl.ds,.sl (b.cl.ps.map cp4),.sl (by5 b.cl.wh),.int b.cl.e.op,.int b.cl.e.v.k,.int b.cl.e.v.n,.int b.cl.e.v.d,.str b.cl.e.v.s,.sl (kids b.cl.e.v),.str b.cl.e.nm,.bool b.cl.e.ds,.sl (by4 b.cl.e),
 .str b.cl.nm,.sl (b.cl.it.map cp5),.sl (b.cl.od.map cp6),.int b.cl.sk,.int b.cl.lm,.sl (b.cl.st.map cp7),.sl (b.cl.ns.map .str),
 .int b.e.op,.int b.e.v.k,.int b.e.v.n,.int b.e.v.d,.str b.e.v.s,.sl (kids b.e.v),.str b.e.nm,.bool b.e.ds,.sl (by4 b.e),
 .str b.nm,.sl (b.it.map cp5),.sl (b.od.map cp6),.int b.sk,.int b.lm]
mutual
def dn6:Pl→D
 |.mk b ks=>dn5 b (dn7 ks)
def dn7:List Pl→List D
 |[]=>[]
 |p::r=>dn6 p::dn7 r
end
theorem dn8:∀l:List Pl,dn7 l=l.map dn6
 |[]=>rfl
 |p::r=>by rw[dn7,fs1,dn8 r]
theorem dn9(b:PB)(ks:List Pl):dn6 (.mk b ks)=dn5 b (ks.map dn6):=by rw[dn6,dn8]
def do0(op:Int):Int:=bif op==1||op==2 then 0 else bif op==3||op==4 then 2 else bif decide (op≥5) &&decide (op≤11)then 1 else-1
def do1(c:CL):Bool:=c.k==0&&(!c.opt&&(!c.ds&&(c.ps.length==0&&(c.wh.length==0&&(cr5 c.e&&(s0B c.nm&&(c.it.length==0&&(c.od.length==0&&(c.sk==0&&(c.lm==0&&(c.st.length==0&&c.ns.length==0)))))))))))
def fldF(b:PB):Bool:=
 (b.op==2||b.cj.vs.length==0&&b.cj.as.length==0) &&((bif b.op==5 then b.cl.k==1 else do1 b.cl) &&((b.op==6||(b.op==11||cr5 b.e)) &&((b.op==11||s0B b.nm) &&(b.op==7||(b.op==8||b.it.length==0)))))
def endF(b:PB):Bool:=bif b.op==10 then decide (b.sk≥ -1) &&decide (b.lm≥ -1)else b.od.length==0&&(b.sk==0&&b.lm==0)
def do2(b:PB)(n:Nat):Bool:=do0 b.op==n&&(fldF b&&endF b)
def do3(s:ByteArray):Bool:=match s.data.toList with
 |a::b::r=>a==95&&(b !=48&&(b::r).all fun c=>decide (48≤c) &&decide (c≤57))
 |_=>false
def do4(a b:List ByteArray):List ByteArray:=a++b.filter fun s=> !(by1 a s)
def do5(l:List ByteArray)(s:ByteArray):List ByteArray:=bif s0B s||by1 l s then l else l++ [s]
def do6:List NP→List EP→List ByteArray
 |[],es=>es.map EP.vr
 |n::r,[]=>n.vr::r.map NP.vr
 |n::r,e::q=>n.vr::e.vr::do6 r q
def do7(l:List PA):List ByteArray:=l.flatMap fun p=>do6 p.ns p.es++ [p.vr]
def do8(l:List PA):List ByteArray:=(do7 l).foldl do5 []
abbrev CR:=List ByteArray × Int
def erR(e:Int):CR:=([],e)
def do9(c:CJ):CR:=bif dm6 c !=0 then erR (dm6 c)else bif c.vs.all (fun s=>cn4 s||do3 s)then(c.vs,0)else erR 6
def dp0(l:List PA):List Ex:=l.flatMap fun p=>(p.ns.flatMap fun n=>n.ps.map fun q=>q.e)++p.es.flatMap fun n=>n.ps.map fun q=>q.e
def dp1(c:CL)(cols:List ByteArray):CR:=
 bif cs2 c !=0 then erR (cs2 c)else
 bif !((dp0 c.ps).all fun e=>df2 e cols)then erR 6 else
 bif !(c.wh.all fun e=>df2 e (do4 cols (do8 c.ps)))then erR 6 else
 bif c.wh.any cp9 then erR 9 else(do4 cols (do8 c.ps),0)
def dp2(grp:Bool)(x:IT)(cols out:List ByteArray):Int:=
 bif co8 x.e !=0 then co8 x.e else
 bif !(cn4 x.asn)|| !(df2 x.e cols)then 6 else
 bif cp9 x.e&& !(grp&&x.e.op==24)then 9 else
 bif by1 out x.asn then 7 else 0
def dp3(grp:Bool)(cols:List ByteArray):List IT→List ByteArray→CR
 |[],out=>(out,0)
 |x::r,out=>bif dp2 grp x cols out !=0 then erR (dp2 grp x cols out)else dp3 grp cols r (out++ [x.asn])
def dp4(cols:List ByteArray):List SK→Int
 |[]=>0
 |x::r=>bif df3 x.e cols !=0 then df3 x.e cols else dp4 cols r
def dp5(b:PB)(cols:List ByteArray):Int:=
 bif co8 b.e !=0 then co8 b.e else
 bif !(cn4 b.nm)|| !(df2 b.e cols)then 6 else
 bif cp9 b.e then 9 else
 bif by1 cols b.nm then 7 else 0
def dp6(e:Int)(cols:List ByteArray):CR:=bif e !=0 then erR e else(cols,0)
def dp7(b:PB)(cols:List (List ByteArray)):CR:=
 bif !(do2 b cols.length)then erR 25 else
 bif b.op==1 then([],0)else
 bif b.op==2 then do9 b.cj else
 bif b.op==3||b.op==4 then(do4 (cols.getD 0 []) (cols.getD 1 []),0)else
 bif b.op==5 then dp1 b.cl (cols.getD 0 [])else
 bif b.op==6 then dp6 (df3 b.e (cols.getD 0 [])) (cols.getD 0 [])else
 bif b.op==7||b.op==8 then(bif decide (b.it.length>24)then erR 4 else dp3 (b.op==8) (cols.getD 0 []) b.it [])else
 bif b.op==9 then(cols.getD 0 [],0)else
 bif b.op==10 then dp6 (dp4 (cols.getD 0 []) b.od) (cols.getD 0 [])else dp6 (dp5 b (cols.getD 0 [])) (cols.getD 0 []++ [b.nm])
mutual
def dp8:Pl→CR
 |.mk b ks=>bif (dp9 ks).2 !=0 then erR (dp9 ks).2 else dp7 b (dp9 ks).1
def dp9:List Pl→List (List ByteArray) × Int
 |[]=>([],0)
 |p::r=>bif (dp8 p).2 !=0 then([],(dp8 p).2)else bif (dp9 r).2 !=0 then([],(dp9 r).2)else((dp8 p).1::(dp9 r).1,0)
end
mutual
def dpP:Pl→Nat
 |.mk _ ks=>dq0 ks+1
def dq0:List Pl→Nat
 |[]=>0
 |p::r=>max (dpP p) (dq0 r)
end
mutual
def szP:Pl→Nat
 |.mk _ ks=>dq1 ks+1
def dq1:List Pl→Nat
 |[]=>0
 |p::r=>szP p+dq1 r
end
def dq2(p:Pl):CR:=bif decide (dpP p>200)then erR 5 else bif decide (szP p>2000)then erR 4 else dp8 p
theorem dq3:∀{l:List Pl} {x:Pl},x∈l→szP x≤dq1 l
 |[],_,h=>by cases h
 |a::r,x,h=>by
  rw[dq1];rcases fq1.1 h with rfl|h
  ·omega
  ·have:=dq3 h;omega
theorem dq4:∀{l:List Pl} {x:Pl},x∈l→dpP x≤dq0 l
 |[],_,h=>by cases h
 |a::r,x,h=>by
  rw[dq0];rcases fq1.1 h with rfl|h
  ·omega
  ·have:=dq4 h;omega
theorem dq5:∀l:List Pl,l.length≤dq1 l
 |[]=>fq7 _
 |.mk b ks::r=>by
  have:=dq5 r;rw[dq1,szP,fp5];omega
theorem dq6(p:Pl):dpP p≤szP p:=by
 refine dn4 (P:=fun p=>dpP p≤szP p) (fun b ks ih=>?_) p;rw[dpP,szP]
 have key:∀l:List Pl,(∀x∈l,dpP x≤szP x)→dq0 l≤dq1 l:=by
  intro l
  induction l with
  |nil=>intro _;exact fq7 _
  |cons a r ihr=>
   intro h;have h1:=h a Oc;have h2:=ihr fun x hx=>h x (by simp[hx])
   rw[dq0,dq1];omega
 have:=key ks ih;omega
end Go.Proofs.YtndgolmgaenlfaaGreatDoor
namespace Go.Proofs.YtndgolmgaenlfaaGreatDoor
set_option maxRecDepth 4000
open Go Go.Abs Go.Val Go.RowKit Go.Proofs.Tryz
def zeX:Ex:=.mk 0 bo3 ⟨#[]⟩ false []
def zCL:CL:=⟨0,false,false,[],[],zeX,⟨#[]⟩,[],[],0,0,[],[]⟩
theorem dq7:∀{ks:List Pl},(dp9 ks).2=0→(∀p∈ks,(dp8 p).2=0)∧(dp9 ks).1=ks.map fun p=>(dp8 p).1
 |[],_=>⟨fun _ h=>(by cases h),rfl⟩
 |p::r,h=>by
  rw[dp9]at h ⊢
  cases c1:(dp8 p).2 !=0 with
  |true=>rw[c1,cond_true]at h;rw[show(dp8 p).2=0 from h]at c1;cases c1
  |false=>
   rw[c1,cond_false]at h;rw[cond_false]
   cases c2:(dp9 r).2 !=0 with
   |true=>rw[c2,cond_true]at h;rw[show(dp9 r).2=0 from h]at c2;cases c2
   |false=>
    have ih:=dq7 (ks:=r) (by simpa using c2);rw[cond_false];refine⟨fun q hq=>?_,?_⟩
    ·rcases fq1.1 hq with rfl|hq
     ·simpa using c1
     ·exact ih.1 q hq
    ·rw[fs1,←ih.2]
theorem dq8{b:PB}{ks:List Pl}(h:(dp8 (.mk b ks)).2=0):(∀p∈ks,(dp8 p).2=0)∧dp8 (.mk b ks)=dp7 b (ks.map fun p=>(dp8 p).1)∧do2 b ks.length=true:=by
 rw[dp8]at h ⊢
 cases c1:(dp9 ks).2 !=0 with
 |true=>rw[c1,cond_true]at h;rw[show(dp9 ks).2=0 from h]at c1;cases c1
 |false=>
  have ih:=dq7 (ks:=ks) (by simpa using c1);rw[c1,cond_false,ih.2]at h;rw[cond_false,ih.2];refine⟨ih.1,rfl,?_⟩;unfold dp7 at h;rw[fp6]at h
  cases c2:do2 b ks.length with
  |true=>rfl
  |false=>rw[c2]at h;exact absurd (show(25:Int)=0 from h) Od
theorem dq9{b:PB}{n:Nat}(h:do2 b n=true):do0 b.op=n:=by
 unfold do2 at h;simp only[fq9,beq_iff_eq]at h;exact h.1
theorem dr0{p:Pl}(h:(dq2 p).2=0):dpP p≤200∧szP p≤2000∧(dp8 p).2=0∧dq2 p=dp8 p:=by
 unfold dq2 at h ⊢
 cases c1:decide (dpP p>200)with
 |true=>rw[c1]at h;exact absurd (show(5:Int)=0 from h) Od
 |false=>
  cases c2:decide (szP p>2000)with
  |true=>rw[c1,c2]at h;exact absurd (show(4:Int)=0 from h) Od
  |false=>
   rw[c1,c2]at h;exact⟨by simpa using c1,by simpa using c2,h,rfl⟩
def opB(op:Int)(e:Ex)(nm:ByteArray):PB:=⟨op,⟨[],[]⟩,zCL,e,nm,[],[],0,0⟩
def jnQ(l:List Pl):Pl:=.mk (opB 3 zeX ⟨#[]⟩) l
theorem dr1{e:Ex}{c:List ByteArray}(h:df3 e c=0):co8 e=0∧df2 e c=true∧cp9 e=false:=by
 unfold df3 at h
 cases c1:co8 e !=0 with
 |true=>rw[c1,cond_true]at h;rw[h]at c1;cases c1
 |false=>
  rw[c1,cond_false]at h
  cases c2:df2 e c with
  |false=>rw[c2]at h;exact absurd (show(6:Int)=0 from h) Od
  |true=>
   rw[c2]at h
   cases c3:cp9 e with
   |true=>rw[c3]at h;exact absurd (show(9:Int)=0 from h) Od
   |false=>exact⟨by simpa using c1,rfl,rfl⟩
theorem dr2{e:Int}{c:List ByteArray}(h:(dp6 e c).2=0):e=0∧(dp6 e c).1=c:=by
 unfold dp6 at h ⊢
 cases c1:e !=0 with
 |true=>rw[c1,cond_true]at h;rw[show e=0 from h]at c1;cases c1
 |false=>exact⟨by simpa using c1,rfl⟩
theorem dr3(g:Bool)(cols:List ByteArray):∀(l:List IT) (out:List ByteArray),(dp3 g cols l out).2≠0→(dp3 g cols l out).1=[]
 |[],_,h=>absurd rfl h
 |x::r,out,h=>by
  rw[dp3]at h ⊢
  cases c:dp2 g x cols out !=0 with
  |true=>rfl
  |false=>rw[c,cond_false]at h;rw[cond_false];exact dr3 g cols r _ h
def yesX:Ex:=cstX (vBool true)
def unQ:Pl:=.mk (opB 1 zeX ⟨#[]⟩) []
end Go.Proofs.YtndgolmgaenlfaaGreatDoor
