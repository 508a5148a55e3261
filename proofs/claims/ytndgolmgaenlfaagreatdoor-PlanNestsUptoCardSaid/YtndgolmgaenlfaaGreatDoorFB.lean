/- Expressions as canonical text: what both texts write; constants and signs; Expressions as canonical text, by both texts; Lists of expressions and operands as text, given the expressions' own texts, by both texts; Expressions as canonical text, by both texts; The check of a path pattern's parts, by the program; Increasing lists of texts: a text is put in; the variables of an expression; slices.Sorted over maps.Keys at a map of the call's own with text keys: the keys in increasing order, as data; Small facts on expressions that other chapters' texts hold, too; The variables of an expression, by . Conditions: each part's own, as it says. -/
import Derived.Test.YtndgolmgaenlfaaGreatDoorFA
import Derived.Test.YtndgolmgaenlfaaGreatDoorMB
import Derived.Test.YtndgolmgaenlfaaGreatDoorGC
import Derived.Test.YtndgolmgaenlfaaGreatDoorLA
import Derived.Test.YtndgolmgaenlfaaGreatDoorMA
set_option linter.unusedVariables false
set_option linter.unusedSimpArgs false
namespace Go.Proofs.YtndgolmgaenlfaaGreatDoor
set_option maxRecDepth 4000
open Go Go.Abs Go.Val Go.RowKit Go.Proofs.Tryz
attribute [local irreducible] go SGo an1 Ev au7 EvO EvS
def cl2(v:V):List UInt8:=
 bif v.k==1 then(bif v.n==1 then [84,82,85,69]else [70,65,76,83,69])else
 bif v.k==2 then(bif decide (v.n<0)then [40]++Lib.itoa v.n++ [41]else Lib.itoa v.n)else
 bif v.k==4 then txt v else [78,85,76,76]
def sgT(op:Int):List UInt8:=
 bif op==7 then [43]else bif op==8 then [45]else bif op==9 then [42]else bif op==10 then [47]else bif op==11 then [37]else bif op==12 then [61]else
 bif op==13 then [60,62]else bif op==14 then [60]else bif op==15 then [60,61]else bif op==16 then [62]else bif op==17 then [62,61]else
 bif op==18 then [65,78,68]else bif op==19 then [79,82]else [73,78]
def oprF(op:Int):Bool:=decide (op≥5) &&decide (op≤21)
theorem cl3{v:V}(h:cd2 v=true)(h4:v.k=4):(txt v).length≤202:=by
 obtain⟨k,n,d,s,l⟩:=v;simp only[V.k]at h4;subst h4;have hok:Val.okV (.mk 4 n d s l)=true:=by simpa[cd2,cc5,V.k]using h
 have h4:=bx8 hok;have hl2:=bw7 s.data.toList;have hsl:s.data.toList.length=s.size:=by simp
 have:txt (.mk 4 n d s l)=[39]++dbl s.data.toList++ [39]:=by simp only[txt,hok];rfl
 rw[this];simp only[es2,es3,es8];omega
theorem cl4{v:V}(h:cd2 v=true)(hn:inR .i64 v.n):(cl2 v).length≤202:=by
 have h1:=bx2 hn;unfold cl2
 cases h4:v.k==4 with
 |true=>
  have h4':v.k=4:=by simpa using h4
  have:=cl3 h h4';simp only[h4',cond_true];simp;exact this
 |false=>
  cases v.k==1<;>cases v.k==2<;>cases v.n==1<;>cases decide (v.n<0)<;>simp only[cond_true,cond_false,es2,es3,es8]<;>omega
theorem cl5(v:V)(h:cd2 v=true):Ev E 288 [enc v] (.d (.str (bs (cl2 v)))):=Ev.fit fun hfit=>by
 obtain⟨-,hn,-⟩:=bn3 (hfit (enc v) (by simp));have h1:=bs8 v.n;have ln:=bx2 hn;have z1:(⟨(Lib.itoa v.n).toArray⟩:ByteArray).size≤21:=ln;have z2:(⟨#[40]⟩:ByteArray).size=1:=rfl;have z3:(⟨#[41]⟩:ByteArray).size=1:=rfl
 cases h4:v.k==4 with
 |true=>
  have h4':v.k=4:=by simpa using h4
  have h2:=by3 v (by have:=cl3 h h4';omega);have e:cl2 v=txt v:=by simp[cl2,h4']
  have g1:(v.k==1)=false:=by rw[h4'];rfl
  have g2:(v.k==2)=false:=by rw[h4'];rfl
  rw[e];refine ye1 func288 ntmps288 fun _ _ _=>?_
  repeat'(first|refine yz ?_|refine yp b152 h2 ?_|refine yx ?_|(refine yy ?_ ?_<;>intro _)|exact zD|exact zL)
 |false=>
  refine ye1 func288 ntmps288 fun _ _ _=>?_
  repeat'(first|refine yz ?_|refine yp bo8 h1 ?_|refine yx ?_|(refine yy ?_ ?_<;>intro _)|(refine qV rfl ?_ ?_<;>intro _)|exact zD|exact zL)
  all_goals(refine congrArg D.str ?_;simp_all [cl2,ew6];first|rfl|(rw[if_neg (by omega)];first|done|rfl))
theorem cl6(op:Int):Ev E 291 [.int op] (.d (.str (bs (sgT op)))):=by
 refine ye1 func291 ntmps291 fun _ _ _=>?_
 repeat'(first|refine yz ?_|refine yx ?_|(refine yy ?_ ?_<;>intro _)|(refine qV rfl ?_ ?_<;>intro _)|exact zD|exact zL)
 all_goals(refine congrArg D.str ?_;simp_all [sgT,ew6];rfl)
theorem cl7(op:Int):(sgT op).length≤3:=by
 unfold sgT
 repeat'(rw[ew6];split)
 all_goals simp
def txN(op:Int)(v:V)(nm:List UInt8)(ds:Bool)(ts os:List (List UInt8)):List UInt8:=
 bif op==1 then cl2 v else
 bif op==2 then nm else
 bif op==3 then os.getD 0 []++ [46]++nm else
 bif op==4 then os.getD 0 []++ [58]++nm else
 bif op==5 then [78,79,84,32]++os.getD 0 []else
 bif op==6 then [45]++os.getD 0 []else
 bif op==21 then os.getD 0 []++ [32,73,83,32,78,85,76,76]else
 bif op==22 then [91]++Lib.join ts [44,32]++ [93]else
 bif op==23 then nm++ [40]++Lib.join ts [44,32]++ [41]else
 bif op==24 then(bif ts.isEmpty then nm++ [40,42,41]else bif ds then nm++ [40,68,73,83,84,73,78,67,84,32]++ts.getD 0 []++ [41]else nm++ [40]++ts.getD 0 []++ [41])else
 os.getD 0 []++ [32]++sgT op++ [32]++os.getD 1 []
mutual
def txE:Ex→List UInt8
 |.mk op v nm ds ks=>txN op v nm.data.toList ds (txL ks) (opL ks)
def txL:List Ex→List (List UInt8)
 |[]=>[]
 |x::r=>txE x::txL r
def opL:List Ex→List (List UInt8)
 |[]=>[]
 |x::r=>(bif oprF x.op then [40]++txE x++ [41]else txE x)::opL r
end
def opT(x:Ex):List UInt8:=bif oprF x.op then [40]++txE x++ [41]else txE x
theorem cl8(l:List Ex):txL l=l.map txE:=by
 induction l with
 |nil=>simp[txL]
 |cons v r ih=>simp[txL,ih]
theorem cl9(l:List Ex):opL l=l.map opT:=by
 induction l with
 |nil=>simp[opL]
 |cons v r ih=>simp[opL,ih,opT]
mutual
def alE(P:Ex→Prop):Ex→Prop
 |.mk op v nm ds ks=>P (.mk op v nm ds ks)∧alL P ks
def alL(P:Ex→Prop):List Ex→Prop
 |[]=>True
 |x::r=>alE P x∧alL P r
end
theorem cm0{P:Ex→Prop}:∀{l:List Ex},alL P l→∀x∈l,alE P x
 |[],_,x,hx=>by simp at hx
 |y::r,h,x,hx=>by
  rcases es9.1 hx with e|e
  ·rw[e];exact h.1
  ·exact cm0 h.2 x e
theorem cm1{P:Ex→Prop}:∀{l:List Ex},(∀x∈l,alE P x)→alL P l
 |[],_=>trivial
 |y::r,h=>⟨h y (by simp),cm1 fun x hx=>h x (by simp[hx])⟩
theorem cm2{P Q:Ex→Prop}(hpq:∀e,P e→Q e):∀e,alE P e→alE Q e:=
 bv1 (P:=fun e=>alE P e→alE Q e) fun op v nm ds ks ih h=>⟨hpq _ h.1,cm1 fun x hx=>ih x hx (cm0 h.2 x hx)⟩
theorem cm3{P Q:Ex→Prop}:∀e,alE P e→alE Q e→alE (fun e=>P e∧Q e) e:=
 bv1 (P:=fun e=>alE P e→alE Q e→alE (fun e=>P e∧Q e) e) fun op v nm ds ks ih h h'=>⟨⟨h.1,h'.1⟩,cm1 fun x hx=>ih x hx (cm0 h.2 x hx) (cm0 h'.2 x hx)⟩
def okN(e:Ex):Prop:=1≤e.op∧e.op≤24∧cc7 e=true∧(e.op=1→cd2 e.v=true)
theorem cm4:∀{l:List Ex} {w:Bool},ch4 l w=0→∀x∈l,ch3 x w=0
 |[],_,_,x,hx=>by simp at hx
 |y::r,w,h,x,hx=>by
  rw[ch4]at h
  cases hz:ch3 y w !=0 with
  |true=>
   rw[hz]at h;simp at hz;exact absurd h hz
  |false=>
   rw[hz]at h;rcases es9.1 hx with e|e
   ·rw[e];simpa using hz
   ·exact cm4 h x e
theorem cm5:∀(e:Ex) (w:Bool),ch3 e w=0→alE okN e:=by
 refine bv1 (P:=fun e=>∀(w:Bool),ch3 e w=0→alE okN e) fun op v nm ds ks ih w h=>?_
 rw[ch3]at h
 cases hs:ch2 (.mk op v nm ds ks) w !=0 with
 |true=>
  rw[hs]at h;simp at hs;exact absurd h hs
 |false=>
  rw[hs]at h;refine⟨?_,cm1 fun x hx=>ih x hx _ (cm4 h x hx)⟩;have hs':ch2 (.mk op v nm ds ks) w=0:=by simpa using hs
  unfold ch2 at hs'
  cases h1:(decide ((Ex.mk op v nm ds ks).op<1)||decide ((Ex.mk op v nm ds ks).op>24))||(!cc7 (.mk op v nm ds ks)|| !cd0 (.mk op v nm ds ks))with
  |true=>rw[h1]at hs';simp at hs'
  |false=>
   rw[h1]at hs';simp only[ev8,decide_eq_false_iff_not,Bool.not_eq_false']at h1;refine⟨by omega,by omega,h1.2.1,fun h2=>?_⟩
   cases h3:cd2 (Ex.mk op v nm ds ks).v with
   |true=>rfl
   |false=>
    have h4:((Ex.mk op v nm ds ks).op==1&& !cd2 (Ex.mk op v nm ds ks).v)=true:=by rw[h2,h3];rfl
    rw[h4]at hs';simp at hs'
def smN(e:Ex):Prop:=okN e∧e.nm.size≤200∧inR .i64 e.v.n
theorem cm6(sep:List UInt8)(hs:sep.length≤2):∀(xs:List (List UInt8)),(Lib.join xs sep).length≤(xs.map fun x=>x.length+2).sum
 |[]=>et2 _
 |a::r=>by
  rw[Lib.join_cons,es2]
  have key:∀q:List (List UInt8),(Lib.joinTail sep q).length≤(q.map fun x=>x.length+2).sum:=by
   intro q
   induction q with
   |nil=>exact et2 _
   |cons b q ih=>
    have hc:Lib.joinTail sep (b::q)=(sep++b)++Lib.joinTail sep q:=rfl;rw[hc,es2,es2,eu5,List.sum_cons];omega
  have:=key r;rw[eu5,List.sum_cons];omega
theorem cm7(x:Ex):(opT x).length≤(txE x).length+2:=by
 unfold opT
 cases oprF x.op<;>simp only[cond_true,cond_false,es2,es3,es8]<;>omega
theorem cm8:∀e:Ex,alE smN e→(txE e).length+4≤1000*nd e:=by
 refine bv1 (P:=fun e=>alE smN e→(txE e).length+4≤1000*nd e) fun op v nm ds ks ih h=>?_
 obtain⟨⟨⟨h1,h2,h3,h4⟩,h5,h6⟩,-⟩:=h.1,h.2;have hk:=cm0 h.2;have hnl:nm.data.toList.length≤200:=by simpa[Ex.nm]using h5
 have hsum:(ks.map fun x=>(txE x).length+4).sum≤1000*ndL ks:=by
  clear h h1 h2 h3 h4 h5 h6
  induction ks with
  |nil=>exact et8 _
  |cons a r ihr=>
   have:=ih a (by simp) (hk a (by simp));have:=ihr (fun x hx=>ih x (by simp[hx])) (fun x hx=>hk x (by simp[hx]));rw[eu5,List.sum_cons,ndL];omega
 have hj:(Lib.join (txL ks) [44,32]).length≤1000*ndL ks:=by
  refine ev9 (cm6 [44,32] (by simp) _) (ev9 ?_ hsum);rw[cl8];clear h h1 h2 h3 h4 h5 h6 hsum ih hk
  induction ks with
  |nil=>exact et2 _
  |cons a r ihr=>simp only[eu5,List.sum_cons];omega
 have hgt:∀j,((txL ks).getD j []).length≤1000*ndL ks:=by
  intro j;rw[cl8,ew4,es6]
  cases hx:ks[j]? with
  |none=>simp
  |some x=>
   have hm:=es4 hx;have h1:=ih x hm (hk x hm);have h2:=cd5 hm;simp only[eu9,ex3];omega
 have h01:((opL ks).getD 0 []).length+((opL ks).getD 1 []).length≤1000*ndL ks:=by
  rw[cl9]
  match ks,ih,hk with
  |[],_,_=>simp
  |[a],ih,hk=>
   have:=ih a (by simp) (hk a (by simp));have:=cm7 a;simp[ndL];omega
  |a::b::r,ih,hk=>
   have:=ih a (by simp) (hk a (by simp));have:=ih b (by simp) (hk b (by simp));have:=cm7 a;have:=cm7 b;simp[ndL];omega
 have hcst:op=1→(cl2 v).length≤202:=fun e=>cl4 (h4 e) h6
 have hsg:=cl7 op;have ht0:=hgt 0;rw[nd,txE,txN]
 repeat'(rw[ew6];split)
 all_goals(try simp only[es2,es3,es8])
 all_goals first|omega|(have:=hcst (by simpa using ‹(op==1)=true›);omega)
end Go.Proofs.YtndgolmgaenlfaaGreatDoor
namespace Go.Proofs.YtndgolmgaenlfaaGreatDoor
set_option maxRecDepth 4000
open Go Go.Abs Go.Val Go.RowKit Go.Proofs.Tryz
attribute [local irreducible] go SGo an1 Ev au7 EvO EvS
theorem cm9{l:List Ex}{i:Nat}{x:Ex}(h:l[i]? =some x):by0 ((l.take (i+1)).map txE)=by0 ((l.take i).map txE)++ [.str (bs (txE x))]:=by
 have hi:=(es5.1 h).1;rw[fb6 hi];rw[es0 hi]at h
 cases h
 simp only[by0,ez4,eu5,ey1]
structure STe(l:List Ex) where
 i:Nat
 hi:i≤l.length
theorem cn0(l:List Ex)(hT:∀x∈l,Ev E 231 [bu2 x] (.d (.str (bs (txE x)))))(hn:l.length≤1000000)(hlen:(Lib.join (l.map txE) [44,32]).length≤1073741824):
  Ev E 290 [.sl (bu1 l)] (.d (.str (bs (Lib.join (l.map txE) [44,32])))):=by
 have hle:(bu1 l).length=l.length:=bu8 l;have e1:(l.map fun x=>bs (txE x)).map D.str=by0 (l.map txE):=by simp[by0]
 have e2:(l.map fun x=>bs (txE x)).map (·.data.toList)=l.map txE:=by simp[bw6]
 have hj:=bx9 (l.map fun x=>bs (txE x)) (bs [44,32]) (by simp;omega) (by rw[e2,bw6];omega);rw[e1,e2,bw6]at hj;refine ye1 func290 ntmps290 fun _ _ _=>?_
 repeat'(first|refine yz ?_|refine yx ?_|(refine yy ?_ ?_<;>intro _)|exact zD|exact zL)
 refine ac7 (α:=STe l) (fun p=>⟨[(3,aw5 (by0 ((l.take p.i).map txE))),(6,.d (.sl (bu1 l))),(7,.d (.int (bu1 l).length)),(8,.d (.int p.i))],aw6 9 1 (by0 ((l.take p.i).map txE))⟩) (fun p=>l.length-p.i) ⟨0,by omega⟩ (by rw[ex0];exact(zle 0)) ?_;rintro⟨i,hi⟩;dsimp only;rcases es1 i l.length with hlt|hge
 ·have g1:decide ((i:Int)<((bu1 l).length:Int))=true:=by rw[hle];simpa using hlt
  have hx0:=es0 hlt;generalize l[i]=x at hx0;have hx:(bu1 l)[(i:Int).toNat]? =some (bu2 x):=bu6 (by rw[ev6];exact hx0);have ht:=hT x (es4 hx0);have hta:=cm9 hx0;have hll:(by0 ((l.take i).map txE)).length≤i:=by simp[by0];omega
  generalize by0 ((l.take i).map txE)=out at*
  match out,hll with
  |[],hll=>
   dsimp only[aw5,aw6]
   repeat'(first|refine yz ?_|refine yi (bu2 x) hx ?_|refine yp bp6 ht ?_|(refine qS rfl ⟨by simp,by simp[D.cells];rfl,by(show(0+1)*16≤140737488355328;omega),by(show 0+1≤9223372036854775807;omega)⟩ ?_)|refine yx ?_|(refine yy ?_ ?_<;>intro _)|exact zD|exact zL)
   refine ac1 ?_;refine⟨⟨i+1,by omega⟩,by dsimp only;omega,?_⟩;dsimp only;rw[hta];exact(bg7 [1])
  |a::q,hll=>
   dsimp only[aw5,aw6]
   repeat'(first|refine yz ?_|refine yi (bu2 x) hx ?_|refine yp bp6 ht ?_|(refine qS rfl ⟨by simp,by simp[D.cells];rfl,by(show((a::q).length+1)*16≤140737488355328;omega),by(show(a::q).length+1≤9223372036854775807;omega)⟩ ?_)|refine yx ?_|(refine yy ?_ ?_<;>intro _)|exact zD|exact zL)
   refine ac1 ?_;refine⟨⟨i+1,by omega⟩,by dsimp only;omega,?_⟩;dsimp only;rw[hta];exact(bg7 [2])
 ·have g1:decide ((i:Int)<((bu1 l).length:Int))=false:=by rw[hle];simp;omega
  rw[eu2 hge];generalize by0 (l.map txE)=out at*
  match out,hj with
  |[],hj=>
   dsimp only[aw5,aw6]
   repeat'(first|refine yz ?_|refine yp b84 hj ?_|refine yx ?_|(refine yy ?_ ?_<;>intro _)|exact zD|exact zL)
  |a::q,hj=>
   dsimp only[aw5,aw6];refine qA ?_;refine au1 0 rfl ?_
   repeat'(first|refine yz ?_|refine yp b84 hj ?_|refine yx ?_|(refine yy ?_ ?_<;>intro _)|exact zD|exact zL)
theorem cn1(x:Ex)(hl:(txE x).length≤1073741824)(h1:Ev E 231 [bu2 x] (.d (.str (bs (txE x))))):Ev E 289 [bu2 x] (.d (.str (bs (opT x)))):=by
 have z1:(bs (txE x)).size=(txE x).length:=bw5 _;have z2:(⟨#[40]⟩:ByteArray).size=1:=rfl;have z3:(⟨#[41]⟩:ByteArray).size=1:=rfl;refine ye1 func289 ntmps289 fun _ _ _=>?_
 repeat'(first|refine yz ?_|refine yp bp6 h1 ?_|refine yx ?_|(refine yy ?_ ?_<;>intro _)|(refine qV rfl ?_ ?_<;>intro _)|exact zD|exact zL)
 all_goals(refine congrArg D.str ?_;simp_all [opT,oprF,ew6];first|done|rfl|(rw[if_neg (by omega)];first|done|rfl))
set_option maxHeartbeats 4000000 in
theorem cn2:∀e:Ex,alE smN e→nd e≤1000→Ev E 231 [bu2 e] (.d (.str (bs (txE e)))):=by
 refine bv1 (P:=fun e=>alE smN e→nd e≤1000→Ev E 231 [bu2 e] (.d (.str (bs (txE e))))) fun op v nm ds ks ih h hn=>?_
 obtain⟨⟨⟨h1,h2,h3,h4⟩,h5,h6⟩,-⟩:=h.1,h.2;have hk:=cm0 h.2;rw[nd]at hn;have hT:∀x∈ks,Ev E 231 [bu2 x] (.d (.str (bs (txE x)))):=fun x hx=>ih x hx (hk x hx) (by have:=cd5 hx;omega)
 have hZ:∀x∈ks,(txE x).length≤1000000:=fun x hx=>by
  have:=cm8 x (hk x hx);have:=cd5 hx;omega
 have hO:∀x∈ks,Ev E 289 [bu2 x] (.d (.str (bs (opT x)))):=fun x hx=>cn1 x (by have:=hZ x hx;omega) (hT x hx)
 have hOz:∀x∈ks,(bs (opT x)).size≤1000002:=fun x hx=>by
  rw[bw5];have:=cm7 x;have:=hZ x hx;omega
 simp only[Ex.op]at h1 h2;have h5':=h5;replace h5:nm.size≤200:=h5;have hnm:bs nm.data.toList=nm:=bw4 nm;have hkl:kn0 (.mk op v nm ds ks)=(ks.length:Int):=by unfold kn0;rw[bu7];rfl
 have hle:=bu7 (.mk op v nm ds ks);have hks:(Ex.mk op v nm ds ks).ks=ks:=rfl;unfold cc7 at h3;rw[hkl]at h3;simp only[Ex.op,Ex.nm,Ex.ds]at h3;clear h hk ih hkl
 have hnn:ks.length≤ndL ks:=by
  have key:∀l:List Ex,l.length≤ndL l:=by
   intro l
   induction l with
   |nil=>exact et8 _
   |cons a r ihr=>rw[ndL,es3,cd4];omega
  exact key ks
 have hJ:(Lib.join (ks.map txE) [44,32]).length≤1073741824:=by
  refine ev9 (cm6 [44,32] (by simp) _) ?_
  have key:∀l:List Ex,(∀x∈l,(txE x).length≤1000000)→((l.map txE).map fun x=>x.length+2).sum≤1000002*l.length:=by
   intro l
   induction l with
   |nil=>intro _;exact et8 _
   |cons a r ihr=>
    intro hl;have:=hl a (by simp);have:=ihr fun x hx=>hl x (by simp[hx])
    simp only[eu5,List.sum_cons,es3];omega
  have:=key ks hZ;omega
 have q1:(⟨#[46]⟩:ByteArray).size=1:=rfl;have q2:(⟨#[58]⟩:ByteArray).size=1:=rfl;have q3:(⟨#[78,79,84,32]⟩:ByteArray).size=4:=rfl;have q4:(⟨#[45]⟩:ByteArray).size=1:=rfl;have q5:(⟨#[32,73,83,32,78,85,76,76]⟩:ByteArray).size=8:=rfl;have q6:(⟨#[91]⟩:ByteArray).size=1:=rfl;have q7:(⟨#[93]⟩:ByteArray).size=1:=rfl;have q8:(⟨#[40]⟩:ByteArray).size=1:=rfl;have q9:(⟨#[41]⟩:ByteArray).size=1:=rfl;have q10:(⟨#[40,42,41]⟩:ByteArray).size=3:=rfl;have q11:(⟨#[40,68,73,83,84,73,78,67,84,32]⟩:ByteArray).size=10:=rfl;have q12:(⟨#[32]⟩:ByteArray).size=1:=rfl;have hcase:op=1∨op=2∨op=3∨op=4∨op=5∨op=6∨op=21∨op=22∨op=23∨op=24∨(7≤op∧op≤20):=by omega
 rcases hcase with rfl|rfl|rfl|rfl|rfl|rfl|rfl|rfl|rfl|rfl|hop
 ·have hc:=cl5 v (h4 rfl);rw[txE];refine ye1 func231 ntmps231 fun _ _ _=>?_
  repeat'(first|refine yz ?_|refine yp b288 hc ?_|refine yx ?_|(refine yy ?_ ?_<;>intro _)|exact zD|exact zL)
 ·rw[txE,show txN 2 v nm.data.toList ds (txL ks) (opL ks)=nm.data.toList from rfl,hnm];refine ye1 func231 ntmps231 fun _ _ _=>?_
  repeat'(first|refine yz ?_|refine yx ?_|(refine yy ?_ ?_<;>intro _)|exact zD|exact zL)
 ·have hks2:∃x,ks=[x]:=by
   have:ks.length=1:=by
    have:((ks.length:Int)==1)=true:=h3;simp at this;omega
   match ks,this with
   |[x],_=>exact⟨x,rfl⟩
  obtain⟨x,rfl⟩:=hks2;have hx:(bu0 (.mk 3 v nm ds [x]))[(0:Int).toNat]? =some (bu2 x):=rfl;have hl1:(bu0 (.mk 3 v nm ds [x])).length=1:=rfl;have a1:=hO x (by simp);have z1:=hOz x (by simp);rw[txE,show txN 3 v nm.data.toList ds (txL [x]) (opL [x])=opT x++ [46]++nm.data.toList from rfl,←bw3,←bw3,hnm];refine ye1 func231 ntmps231 fun _ _ _=>?_
  repeat'(first|refine yz ?_|refine yi (bu2 x) hx ?_|refine yp bq0 a1 ?_|refine yx ?_|(refine yy ?_ ?_<;>intro _)|exact zD|exact zL)
 ·have hks2:∃x,ks=[x]:=by
   have:ks.length=1:=by
    have:((ks.length:Int)==1)=true:=h3;simp at this;omega
   match ks,this with
   |[x],_=>exact⟨x,rfl⟩
  obtain⟨x,rfl⟩:=hks2;have hx:(bu0 (.mk 4 v nm ds [x]))[(0:Int).toNat]? =some (bu2 x):=rfl;have hl1:(bu0 (.mk 4 v nm ds [x])).length=1:=rfl;have a1:=hO x (by simp);have z1:=hOz x (by simp);rw[txE,show txN 4 v nm.data.toList ds (txL [x]) (opL [x])=opT x++ [58]++nm.data.toList from rfl,←bw3,←bw3,hnm];refine ye1 func231 ntmps231 fun _ _ _=>?_
  repeat'(first|refine yz ?_|refine yi (bu2 x) hx ?_|refine yp bq0 a1 ?_|refine yx ?_|(refine yy ?_ ?_<;>intro _)|exact zD|exact zL)
 ·have hks2:∃x,ks=[x]:=by
   have:ks.length=1:=by
    have:((ks.length:Int)==1)=true:=h3;simp at this;omega
   match ks,this with
   |[x],_=>exact⟨x,rfl⟩
  obtain⟨x,rfl⟩:=hks2;have hx:(bu0 (.mk 5 v nm ds [x]))[(0:Int).toNat]? =some (bu2 x):=rfl;have hl1:(bu0 (.mk 5 v nm ds [x])).length=1:=rfl;have a1:=hO x (by simp);have z1:=hOz x (by simp);rw[txE,show txN 5 v nm.data.toList ds (txL [x]) (opL [x])=[78,79,84,32]++opT x from rfl,←bw3];refine ye1 func231 ntmps231 fun _ _ _=>?_
  repeat'(first|refine yz ?_|refine yi (bu2 x) hx ?_|refine yp bq0 a1 ?_|refine yx ?_|(refine yy ?_ ?_<;>intro _)|exact zD|exact zL)
 ·have hks2:∃x,ks=[x]:=by
   have:ks.length=1:=by
    have:((ks.length:Int)==1)=true:=h3;simp at this;omega
   match ks,this with
   |[x],_=>exact⟨x,rfl⟩
  obtain⟨x,rfl⟩:=hks2;have hx:(bu0 (.mk 6 v nm ds [x]))[(0:Int).toNat]? =some (bu2 x):=rfl;have hl1:(bu0 (.mk 6 v nm ds [x])).length=1:=rfl;have a1:=hO x (by simp);have z1:=hOz x (by simp);rw[txE,show txN 6 v nm.data.toList ds (txL [x]) (opL [x])=[45]++opT x from rfl,←bw3];refine ye1 func231 ntmps231 fun _ _ _=>?_
  repeat'(first|refine yz ?_|refine yi (bu2 x) hx ?_|refine yp bq0 a1 ?_|refine yx ?_|(refine yy ?_ ?_<;>intro _)|exact zD|exact zL)
 ·have hks2:∃x,ks=[x]:=by
   have:ks.length=1:=by
    have:((ks.length:Int)==1)=true:=h3;simp at this;omega
   match ks,this with
   |[x],_=>exact⟨x,rfl⟩
  obtain⟨x,rfl⟩:=hks2;have hx:(bu0 (.mk 21 v nm ds [x]))[(0:Int).toNat]? =some (bu2 x):=rfl;have hl1:(bu0 (.mk 21 v nm ds [x])).length=1:=rfl;have a1:=hO x (by simp);have z1:=hOz x (by simp);rw[txE,show txN 21 v nm.data.toList ds (txL [x]) (opL [x])=opT x++ [32,73,83,32,78,85,76,76]from rfl,←bw3];refine ye1 func231 ntmps231 fun _ _ _=>?_
  repeat'(first|refine yz ?_|refine yi (bu2 x) hx ?_|refine yp bq0 a1 ?_|refine yx ?_|(refine yy ?_ ?_<;>intro _)|exact zD|exact zL)
 ·have hj:Ev E 290 [.sl (bu0 (.mk 22 v nm ds ks))] (.d (.str (bs (Lib.join (ks.map txE) [44,32])))):=cn0 ks hT (by omega) hJ;rw[txE,cl8,show txN 22 v nm.data.toList ds (ks.map txE) (opL ks)=[91]++Lib.join (ks.map txE) [44,32]++ [93]from rfl,←bw3,←bw3];have z1:(bs (Lib.join (ks.map txE) [44,32])).size≤1073741824:=by rw[bw5];exact hJ
  refine ye1 func231 ntmps231 fun _ _ _=>?_
  repeat'(first|refine yz ?_|refine yp b290 hj ?_|refine yx ?_|(refine yy ?_ ?_<;>intro _)|exact zD|exact zL)
 ·have hj:Ev E 290 [.sl (bu0 (.mk 23 v nm ds ks))] (.d (.str (bs (Lib.join (ks.map txE) [44,32])))):=cn0 ks hT (by omega) hJ;rw[txE,cl8,show txN 23 v nm.data.toList ds (ks.map txE) (opL ks)=nm.data.toList++ [40]++Lib.join (ks.map txE) [44,32]++ [41]from rfl,←bw3,←bw3,←bw3,hnm];have z1:(bs (Lib.join (ks.map txE) [44,32])).size≤1073741824:=by rw[bw5];exact hJ
  refine ye1 func231 ntmps231 fun _ _ _=>?_
  repeat'(first|refine yz ?_|refine yp b290 hj ?_|refine yx ?_|(refine yy ?_ ?_<;>intro _)|exact zD|exact zL)
 ·have hks2:ks=[]∨∃x,ks=[x]:=by
   have:ks.length=1∨ks.length=0:=by
    have:((ks.length:Int)==1||((ks.length:Int)==0&&(isS nm ⟨#[99,111,117,110,116]⟩ && !ds)))=true:=h3;simp at this;rcases this with h|h
    ·left;omega
    ·right;exact List.length_eq_zero_iff.2 h.1
   match ks,this with
   |[],_=>exact .inl rfl
   |[x],_=>exact .inr ⟨x,rfl⟩
  rcases hks2 with rfl|⟨x,rfl⟩
  ·rw[txE,show txN 24 v nm.data.toList ds (txL []) (opL [])=nm.data.toList++ [40,42,41]from rfl,←bw3,hnm];refine ye1 func231 ntmps231 fun _ _ _=>?_
   repeat'(first|refine yz ?_|refine yx ?_|(refine yy ?_ ?_<;>intro _)|exact zD|exact zL)
  ·have hx:(bu0 (.mk 24 v nm ds [x]))[(0:Int).toNat]? =some (bu2 x):=rfl;have ht:=hT x (by simp);have z1:(bs (txE x)).size≤1000000:=by rw[bw5];exact hZ x (by simp)
   skip
   cases ds with
   |true=>
    rw[txE,show txN 24 v nm.data.toList true (txL [x]) (opL [x])=nm.data.toList++ [40,68,73,83,84,73,78,67,84,32]++txE x++ [41] by simp[txN,txL],←bw3,←bw3,←bw3,hnm];refine ye1 func231 ntmps231 fun _ _ _=>?_
    repeat'(first|refine yz ?_|refine yi (bu2 x) hx ?_|refine yp bp6 ht ?_|refine yx ?_|(refine yy ?_ ?_<;>intro _)|exact zD|exact zL)
   |false=>
    rw[txE,show txN 24 v nm.data.toList false (txL [x]) (opL [x])=nm.data.toList++ [40]++txE x++ [41] by simp[txN,txL],←bw3,←bw3,←bw3,hnm];refine ye1 func231 ntmps231 fun _ _ _=>?_
    repeat'(first|refine yz ?_|refine yi (bu2 x) hx ?_|refine yp bp6 ht ?_|refine yx ?_|(refine yy ?_ ?_<;>intro _)|exact zD|exact zL)
 ·have n1:(op==1)=false:=by simp;omega
  have n2:(op==2)=false:=by simp;omega
  have n3:(op==3)=false:=by simp;omega
  have n4:(op==4)=false:=by simp;omega
  have n5:(op==5)=false:=by simp;omega
  have n6:(op==6)=false:=by simp;omega
  have n21:(op==21)=false:=by simp;omega
  have n22:(op==22)=false:=by simp;omega
  have n23:(op==23)=false:=by simp;omega
  have n24:(op==24)=false:=by simp;omega
  have hks2:∃x y,ks=[x,y]:=by
   rw[n1,n2,n3,n4,n5,n6,n21,n22,n23,n24]at h3;have:ks.length=2:=by simp at h3;omega
   match ks,this with
   |[x,y],_=>exact⟨x,y,rfl⟩
  obtain⟨x,y,rfl⟩:=hks2;have hx:(bu0 (.mk op v nm ds [x,y]))[(0:Int).toNat]? =some (bu2 x):=rfl;have hy:(bu0 (.mk op v nm ds [x,y]))[(1:Int).toNat]? =some (bu2 y):=rfl;have hl2:(bu0 (.mk op v nm ds [x,y])).length=2:=rfl;have a1:=hO x (by simp);have a2:=hO y (by simp);have z1:=hOz x (by simp);have z2:=hOz y (by simp);have a3:=cl6 op;have z3:(bs (sgT op)).size≤3:=by rw[bw5];exact cl7 op
  rw[txE,show txN op v nm.data.toList ds (txL [x,y]) (opL [x,y])=opT x++ [32]++sgT op++ [32]++opT y by simp[txN,opL,opT,n1,n2,n3,n4,n5,n6,n21,n22,n23,n24],←bw3,←bw3,←bw3,←bw3];refine ye1 func231 ntmps231 fun _ _ _=>?_
  repeat'(first|refine yz ?_|refine yi (bu2 x) hx ?_|refine yi (bu2 y) hy ?_|refine yp bq0 a1 ?_|refine yp bq0 a2 ?_|refine yp b291 a3 ?_|refine yx ?_|(refine yy ?_ ?_<;>intro _)|exact zD|exact zL)
theorem cn3{α:Type}{l:List α}{i:Nat}{x:α}(h:l[i]? =some x):l.drop i=x::l.drop (i+1):=by
 obtain⟨hi,rfl⟩:=es5.1 h;exact List.drop_eq_getElem_cons hi
theorem cn4{α:Type}{f:α→D}{l:List α}{i:Nat}{x:α}(h:l[i]? =some x):(l.map f)[((i:Nat):Int).toNat]? =some (f x):=by
 rw[show((i:Nat):Int).toNat=i by omega,es6,h];rfl
theorem cn5{α:Type}{f:α→D}{l:List α}(h:Fit (.sl (l.map f))):l.length≤9223372036854775807∧∀x∈l,Fit (f x):=by
 obtain⟨h1,h2⟩:=h.sls;exact⟨by simpa using h1,fun x hx=>h2 _ (et5.2 ⟨x,hx,rfl⟩)⟩
def cn6:Option Nat→Int|some i=>(i:Int)|none=> -1
theorem cn7{α:Type}{l:List α}{f:α→Bool}{i:Nat}{x:α}(hx:l[i]? =some x)(hc:f x=true)(h:∀j,j<i→∀y,l[j]? =some y→f y=false):l.findIdx? f=some i:=by
 have hi:=(es5.1 hx).1;rw[fc3];refine⟨hi,?_,fun j hj=>?_⟩
 ·rw[es0 hi]at hx
  cases hx
  exact hc
 ·have:=h j hj _ (es0 (by omega));simpa using this
theorem cn8{α:Type}{l:List α}{f:α→Bool}(h:∀j,j<l.length→∀y,l[j]? =some y→f y=false):l.findIdx? f=none:=by
 rw[fc4];intro x hx;obtain⟨j,hj⟩:=eu1 hx;exact h j (es5.1 hj).1 x hj
theorem cn9{α:Type}{l:List α}{f:α→Bool}:decide (cn6 (l.findIdx? f)≥0)=l.any f:=by
 cases h:l.findIdx? f with
 |none=>
  rw[fc4]at h;have:l.any f=false:=by rw[ex7];intro x hx;simpa using h x hx
  rw[this];rfl
 |some i=>
  obtain⟨hi,h1,-⟩:=fc3.1 h;have:l.any f=true:=fb2.2 ⟨_,ex8 hi,h1⟩;rw[this];simp[cn6]
structure SFc{α:Type}(l:List α)(f:α→Bool) where
 i:Nat
 hi:i≤l.length
 ok:∀j,j<i→∀y,l[j]? =some y→f y=false
theorem SFc.next{α:Type}{l:List α}{f:α→Bool}{i:Nat}{x:α}(hx:l[i]? =some x)(hc:f x=false)(h:∀j,j<i→∀y,l[j]? =some y→f y=false):∀j,j<i+1→∀y,l[j]? =some y→f y=false:=by
 intro j hj y hy;rcases Nat.lt_succ_iff_lt_or_eq.1 hj with h1|rfl
 ·exact h j h1 y hy
 ·rw[hx]at hy;cases hy;exact hc
theorem co0(fn:FuncId)(hb:an1 E fn)(f:ByteArray→Bool)(l:List (ByteArray))(hf:∀x∈l,Ev E fn [D.str x] (.d (.bool (f x)))):Ev E 187 [.sl (l.map D.str),.imm (.func (.func fn) #[] #[])] (.d (.int (cn6 (l.findIdx? f)))):=Ev.fit fun hfit=>by
 have hmax:=(cn5 (hfit (.sl (l.map D.str)) (by simp))).1;have hle:(l.map D.str).length=l.length:=by simp
 refine ye2 func187 ntmps187 fun _ _ _=>?_
 repeat'(refine yz ?_)
 refine ac7 (α:=SFc l f) (fun p=>⟨[(0,.d (.sl (l.map D.str))),(1,.d (.imm (.func (.func fn) #[] #[]))),(7,.d (.int (l.map D.str).length)),(8,.d (.int p.i))],[]⟩) (fun p=>l.length-p.i) ⟨0,by omega,fun j hj=>absurd hj (by omega)⟩ (zle 0) ?_;rintro⟨i,hi,ok⟩;dsimp only;rcases es1 i l.length with hlt|hge
 ·have g1:decide ((i:Int)<((l.map D.str).length:Int))=true:=by rw[hle];simpa using hlt
  have hx0:=es0 hlt;generalize l[i]=y at hx0;have hx:=cn4 (f:=D.str) hx0;have h:=hf y (es4 hx0)
  cases hc:f y with
  |true=>
   rw[hc]at h;rw[cn7 hx0 hc ok]
   repeat'(first|refine yz ?_|refine yi (D.str y) hx ?_|refine yp hb h ?_|exact zD)
  |false=>
   rw[hc]at h
   repeat'(first|refine yz ?_|refine yi (D.str y) hx ?_|refine yp hb h ?_)
   refine ac1 ?_;exact⟨⟨i+1,by omega,SFc.next hx0 hc ok⟩,by dsimp only;omega,(zle 0)⟩
 ·have g1:decide ((i:Int)<((l.map D.str).length:Int))=false:=by rw[hle];simp;omega
  rw[cn8 fun j hj=>ok j (by omega)]
  repeat'(first|refine yz ?_|exact zD)
theorem co1(fn:FuncId)(hb:an1 E fn)(f:ByteArray→Bool)(l:List (ByteArray))(hf:∀x∈l,Ev E fn [D.str x] (.d (.bool (f x)))):Ev E 120 [.sl (l.map D.str),.imm (.func (.func fn) #[] #[])] (.d (.bool (l.any f))):=by
 have h:=co0 fn hb f l hf;rw[←cn9];refine ye2 func120 ntmps120 fun _ _ _=>?_
 repeat'(first|refine yz ?_|refine yp b187 h ?_|exact zD)
theorem co2(fn:FuncId)(hb:an1 E fn)(f:Ex→Bool)(l:List (Ex))(hf:∀x∈l,Ev E fn [bu2 x] (.d (.bool (f x)))):Ev E 130 [.sl (l.map bu2),.imm (.func (.func fn) #[] #[])] (.d (.int (cn6 (l.findIdx? f)))):=Ev.fit fun hfit=>by
 have hmax:=(cn5 (hfit (.sl (l.map bu2)) (by simp))).1;have hle:(l.map bu2).length=l.length:=by simp
 refine ye2 func130 ntmps130 fun _ _ _=>?_
 repeat'(refine yz ?_)
 refine ac7 (α:=SFc l f) (fun p=>⟨[(0,.d (.sl (l.map bu2))),(1,.d (.imm (.func (.func fn) #[] #[]))),(7,.d (.int (l.map bu2).length)),(8,.d (.int p.i))],[]⟩) (fun p=>l.length-p.i) ⟨0,by omega,fun j hj=>absurd hj (by omega)⟩ (zle 0) ?_;rintro⟨i,hi,ok⟩;dsimp only;rcases es1 i l.length with hlt|hge
 ·have g1:decide ((i:Int)<((l.map bu2).length:Int))=true:=by rw[hle];simpa using hlt
  have hx0:=es0 hlt;generalize l[i]=y at hx0;have hx:=cn4 (f:=bu2) hx0;have h:=hf y (es4 hx0)
  cases hc:f y with
  |true=>
   rw[hc]at h;rw[cn7 hx0 hc ok]
   repeat'(first|refine yz ?_|refine yi (bu2 y) hx ?_|refine yp hb h ?_|exact zD)
  |false=>
   rw[hc]at h
   repeat'(first|refine yz ?_|refine yi (bu2 y) hx ?_|refine yp hb h ?_)
   refine ac1 ?_;exact⟨⟨i+1,by omega,SFc.next hx0 hc ok⟩,by dsimp only;omega,(zle 0)⟩
 ·have g1:decide ((i:Int)<((l.map bu2).length:Int))=false:=by rw[hle];simp;omega
  rw[cn8 fun j hj=>ok j (by omega)]
  repeat'(first|refine yz ?_|exact zD)
theorem co3(fn:FuncId)(hb:an1 E fn)(f:Ex→Bool)(l:List (Ex))(hf:∀x∈l,Ev E fn [bu2 x] (.d (.bool (f x)))):Ev E 67 [.sl (l.map bu2),.imm (.func (.func fn) #[] #[])] (.d (.bool (l.any f))):=by
 have h:=co2 fn hb f l hf;rw[←cn9];refine ye2 func67 ntmps67 fun _ _ _=>?_
 repeat'(first|refine yz ?_|refine yp b130 h ?_|exact zD)
theorem co4(fn:FuncId)(hb:an1 E fn)(f:EP→Bool)(l:List (EP))(hf:∀x∈l,Ev E fn [ci3 x] (.d (.bool (f x)))):Ev E 266 [.sl (l.map ci3),.imm (.func (.func fn) #[] #[])] (.d (.int (cn6 (l.findIdx? f)))):=Ev.fit fun hfit=>by
 have hmax:=(cn5 (hfit (.sl (l.map ci3)) (by simp))).1;have hle:(l.map ci3).length=l.length:=by simp
 refine ye2 func266 ntmps266 fun _ _ _=>?_
 repeat'(refine yz ?_)
 refine ac7 (α:=SFc l f) (fun p=>⟨[(0,.d (.sl (l.map ci3))),(1,.d (.imm (.func (.func fn) #[] #[]))),(7,.d (.int (l.map ci3).length)),(8,.d (.int p.i))],[]⟩) (fun p=>l.length-p.i) ⟨0,by omega,fun j hj=>absurd hj (by omega)⟩ (zle 0) ?_;rintro⟨i,hi,ok⟩;dsimp only;rcases es1 i l.length with hlt|hge
 ·have g1:decide ((i:Int)<((l.map ci3).length:Int))=true:=by rw[hle];simpa using hlt
  have hx0:=es0 hlt;generalize l[i]=y at hx0;have hx:=cn4 (f:=ci3) hx0;have h:=hf y (es4 hx0)
  cases hc:f y with
  |true=>
   rw[hc]at h;rw[cn7 hx0 hc ok]
   repeat'(first|refine yz ?_|refine yi (ci3 y) hx ?_|refine yp hb h ?_|exact zD)
  |false=>
   rw[hc]at h
   repeat'(first|refine yz ?_|refine yi (ci3 y) hx ?_|refine yp hb h ?_)
   refine ac1 ?_;exact⟨⟨i+1,by omega,SFc.next hx0 hc ok⟩,by dsimp only;omega,(zle 0)⟩
 ·have g1:decide ((i:Int)<((l.map ci3).length:Int))=false:=by rw[hle];simp;omega
  rw[cn8 fun j hj=>ok j (by omega)]
  repeat'(first|refine yz ?_|exact zD)
theorem co5(fn:FuncId)(hb:an1 E fn)(f:EP→Bool)(l:List (EP))(hf:∀x∈l,Ev E fn [ci3 x] (.d (.bool (f x)))):Ev E 196 [.sl (l.map ci3),.imm (.func (.func fn) #[] #[])] (.d (.bool (l.any f))):=by
 have h:=co4 fn hb f l hf;rw[←cn9];refine ye2 func196 ntmps196 fun _ _ _=>?_
 repeat'(first|refine yz ?_|refine yp b266 h ?_|exact zD)
theorem co6:∀a b:List UInt8,(Op.bytesLess a b=true∧Op.bytesLess b a=false∧a≠b)∨(Op.bytesLess a b=false∧Op.bytesLess b a=true∧a≠b)∨(Op.bytesLess a b=false∧Op.bytesLess b a=false∧a=b)
 |[],[]=>.inr (.inr ⟨rfl,rfl,rfl⟩)
 |[],_::_=>.inl ⟨rfl,rfl,by simp⟩
 |_::_,[]=>.inr (.inl ⟨rfl,rfl,by simp⟩)
 |x::a,y::b=>by
  have ih:=co6 a b;simp only[Op.bytesLess];rcases Nat.lt_trichotomy x.toNat y.toNat with h|h|h
  ·have h1:x<y:=h;have h2: ¬ y<x:=fun h'=>Nat.lt_asymm h h'
   have h3:x≠y:=fun e=>by subst e;omega
   have h4:(y==x)=false:=by rw[beq_eq_false_iff_ne];exact fun e=>h3 e.symm
   left;refine⟨by simp[h1],by simp[h2,h4],fun e=>h3 (List.cons.inj e).1⟩
  ·have e:x=y:=UInt8.toNat_inj.1 h;subst e;have h2: ¬ x<x:=fun h'=>ez8 _ h'
   simp only[h2,decide_false,beq_self_eq_true,ew3,ex1];rcases ih with⟨i1,i2,i3⟩|⟨i1,i2,i3⟩|⟨i1,i2,i3⟩
   ·exact .inl ⟨i1,i2,fun e=>i3 (List.cons.inj e).2⟩
   ·exact .inr (.inl ⟨i1,i2,fun e=>i3 (List.cons.inj e).2⟩)
   ·exact .inr (.inr ⟨i1,i2,by rw[i3]⟩)
  ·have h1:y<x:=h;have h2: ¬ x<y:=fun h'=>Nat.lt_asymm h h'
   have h3:x≠y:=fun e=>by subst e;omega
   have h4:(x==y)=false:=by rw[beq_eq_false_iff_ne];exact h3
   right;left;refine⟨by simp[h2,h4],by simp[h1],fun e=>h3 (List.cons.inj e).1⟩
theorem co7(a b:ByteArray):(Op.bytesLess b.toList a.toList||b.toList==a.toList)= !Op.bytesLess a.toList b.toList:=by
 rcases co6 a.toList b.toList with⟨h1,h2,h3⟩|⟨h1,h2,h3⟩|⟨h1,h2,h3⟩
 ·rw[h1,h2,show(b.toList==a.toList)=false by rw[beq_eq_false_iff_ne];exact fun e=>h3 e.symm];rfl
 ·rw[h1,h2];rfl
 ·rw[h1,h2,h3];simp
structure SRc(l:List ByteArray) where
 i:Nat
 hi:i+1≤l.length
 ok:cj1 l=cj1 (l.drop i)
theorem co8{l:List ByteArray}{i:Nat}{a b:ByteArray}(ha:l[i]? =some a)(hb:l[i+1]? =some b):cj1 (l.drop i)=(Op.bytesLess a.toList b.toList&&cj1 (l.drop (i+1))):=by
 rw[cn3 ha,cn3 hb];rfl
theorem co9{l:List ByteArray}{i:Nat}(h:i+1=l.length):cj1 (l.drop i)=true:=by
 obtain⟨a,ha⟩:∃a,l[i]? =some a:=⟨_,es0 (by omega)⟩;rw[cn3 ha,eu0 (by omega)];rfl
theorem cp0(l:List ByteArray):Ev E 203 [.sl (l.map .str)] (.d (.bool (cj1 l))):=Ev.fit fun hfit=>by
 have hmax:=(cn5 (hfit (.sl (l.map .str)) (by simp))).1;have hle:(l.map D.str).length=l.length:=by simp
 by_cases h0:l=[]
 ·subst h0;refine ye1 func203 ntmps203 fun _ _ _=>?_
  repeat'(refine yz ?_)
  refine ac7 (α:=Unit) (fun p=>⟨[(0,.d (.sl [])),(3,.d (.int 1))],[]⟩) (fun p=>0) () (zle 0) ?_;rintro-;have g1:decide ((1:Int)<(([]:List D).length:Int))=false:=rfl
  repeat'(first|refine yz ?_|exact zD)
 have hp:=List.length_pos_iff.2 h0;refine ye1 func203 ntmps203 fun _ _ _=>?_
 repeat'(refine yz ?_)
 refine ac7 (α:=SRc l) (fun p=>⟨[(0,.d (.sl (l.map .str))),(3,.d (.int ((p.i+1:Nat):Int)))],[]⟩) (fun p=>l.length-p.i) ⟨0,by omega,rfl⟩ (zle 0) ?_;rintro⟨i,hi,ok⟩;dsimp only;rcases es1 (i+1) l.length with hlt|hge
 ·have g1:decide (((i+1:Nat):Int)<((l.map D.str).length:Int))=true:=by rw[hle];simp;omega
  have ha0:=es0 (show i<l.length by omega);have hb0:=es0 hlt;generalize l[i]=a at ha0;generalize l[i+1]=b at hb0;have hb:=cn4 (f:=D.str) hb0
  have ha:(l.map D.str)[(((i+1:Nat):Int) -1).toNat]? =some (.str a):=by
   rw[show(((i+1:Nat):Int) -1)=(i:Int) by omega];exact cn4 (f:=D.str) ha0
  have g2:=co7 a b;rw[ok,co8 ha0 hb0]
  cases hc:Op.bytesLess a.toList b.toList with
  |true=>
   have hcn:(!Op.bytesLess a.toList b.toList)=false:=by rw[hc];rfl
   rw[hc]at g2
   repeat'(first|refine yz ?_|refine yi (.str b) hb ?_|refine yi (.str a) ha ?_)
   refine ac1 ?_;exact⟨⟨i+1,hlt,by rw[ok,co8 ha0 hb0,hc];rfl⟩,by dsimp only;omega,(zle 0)⟩
  |false=>
   have hcn:(!Op.bytesLess a.toList b.toList)=true:=by rw[hc];rfl
   rw[hc]at g2
   repeat'(first|refine yz ?_|refine yi (.str b) hb ?_|refine yi (.str a) ha ?_|exact zD)
 ·have g1:decide (((i+1:Nat):Int)<((l.map D.str).length:Int))=false:=by rw[hle];simp;omega
  rw[ok,co9 (by omega)]
  repeat'(first|refine yz ?_|exact zD)
theorem cp1(s:ByteArray):Ev E 268 [.str s] (.d (.bool (!cg8 s))):=by
 have h:=ch0 s;refine ye1 func268 ntmps268 fun _ _ _=>?_
 repeat'(first|refine yz ?_|refine yp bp4 h ?_|exact zD)
theorem cp2(l:List ByteArray):Ev E 201 [.sl (l.map .str)] (.d (.bool (l.all cg8))):=by
 have h:=co1 268 b268 (fun s=> !cg8 s) l fun s _=>cp1 s
 have e:(!(l.any fun s=> !cg8 s))=l.all cg8:=by rw[List.not_any_eq_all_not];simp
 rw[←e];refine ye1 func201 ntmps201 fun _ _ _=>?_
 repeat'(first|refine yz ?_|refine yp b120 h ?_|exact zD)
theorem cp3(e:Ex):bu0 e=e.ks.map bu2:=by
 obtain⟨op,v,nm,ds,ks⟩:=e;show bu1 ks=ks.map bu2
 induction ks with
 |nil=>rfl
 |cons x r ih=>simp only[bu1,eu5,ih];rfl
theorem cp4(op:Int)(v:V)(nm:ByteArray)(ds:Bool)(ks:List Ex):ci9 (.mk op v nm ds ks)=(op==24||ks.any ci9):=by
 have:hagL ks=ks.any ci9:=by
  induction ks with
  |nil=>rfl
  |cons x r ih=>rw[hagL,ih];rfl
 rw[ci9,this]
theorem cp5(e:Ex):Ev E 63 [bu2 e] (.d (.bool (ci9 e))):=by
 refine bv1 (P:=fun e=>Ev E 63 [bu2 e] (.d (.bool (ci9 e)))) (fun op v nm ds ks ih=>?_) e;have h:=co3 63 b63 ci9 ks ih;have hk:=cp3 (.mk op v nm ds ks);simp only[Ex.ks]at hk;rw[←hk]at h;rw[cp4]
 cases c1:op==24 with
 |true=>
  refine ye1 func63 ntmps63 fun _ _ _=>?_
  repeat'(first|refine yz ?_|refine yx ?_|exact zD)
 |false=>
  refine ye1 func63 ntmps63 fun _ _ _=>?_
  repeat'(first|refine yz ?_|refine yp b67 h ?_|refine yx ?_|exact zD)
theorem cp6(e:EP):Ev E 198 [ci3 e] (.d (.bool (cj4 e))):=by
 obtain⟨vr,ty,dir,mode,mn,mx,ps⟩:=e;refine ye1 func198 ntmps198 fun _ _ _=>?_
 repeat'(first|refine yz ?_|(refine yy ?_ ?_<;>intro _)|(refine qV rfl ?_ ?_<;>intro _))
 all_goals(refine congrArg D.bool ?_;simp_all [cj4,ew6])
 all_goals first|omega|(rw[eu6];simp;omega)
theorem cp7(e:EP):Ev E 205 [ci3 e] (.d (.bool (cj5 e))):=by
 obtain⟨vr,ty,dir,mode,mn,mx,ps⟩:=e;have hl:(ty.map D.str).length=ty.length:=by simp
 refine ye1 func205 ntmps205 fun _ _ _=>?_
 repeat'(first|refine yz ?_|(refine yy ?_ ?_<;>intro _))
 all_goals(refine congrArg D.bool ?_;simp_all [cj5])
 all_goals first|omega|(rw[eu6];simp;omega)
theorem cp8(e:EP):Ev E 197 [ci3 e] (.d (.bool (!cj4 e))):=by
 have h:=cp6 e;refine ye1 func197 ntmps197 fun _ _ _=>?_
 repeat'(first|refine yz ?_|refine yp b198 h ?_|exact zD)
theorem cp9(e:EP):Ev E 204 [ci3 e] (.d (.bool (!cj5 e))):=by
 have h:=cp7 e;refine ye1 func204 ntmps204 fun _ _ _=>?_
 repeat'(first|refine yz ?_|refine yp b205 h ?_|exact zD)
structure SKy(l:List PP) where
 i:Nat
 hi:i≤l.length
theorem cq0{l:List PP}{i:Nat}{x:PP}(h:l[i]? =some x):(cj0 (l.take (i+1))).map D.str=(cj0 (l.take i)).map D.str++ [.str x.key]:=by
 rw[ew5,h];simp[cj0]
theorem cq1(l:List PP)(hl:l.length≤1000000):Ev E 202 [.sl (l.map ci1)] (.d (.sl ((cj0 l).map .str))):=by
 have hle:(l.map ci1).length=l.length:=by simp
 refine ye1 func202 ntmps202 fun _ _ _=>?_
 repeat'(refine yz ?_)
 refine ac7 (α:=SKy l) (fun p=>⟨[(3,bf8 0 ((cj0 (l.take p.i)).map .str)),(6,.d (.sl (l.map ci1))),(7,.d (.int (l.map ci1).length)),(8,.d (.int p.i))],aw6 9 1 ((cj0 (l.take p.i)).map .str)⟩) (fun p=>l.length-p.i) ⟨0,by omega⟩ (zle 0) ?_;rintro⟨i,hi⟩;dsimp only;have hol:((cj0 (l.take i)).map D.str).length≤1000000:=by simp[cj0];omega
 rcases es1 i l.length with hlt|hge
 ·have g1:decide ((i:Int)<((l.map ci1).length:Int))=true:=by rw[hle];simpa using hlt
  have hx0:=es0 hlt;generalize l[i]=x at hx0;have hx:=cn4 (f:=ci1) hx0;have hnx:=cq0 hx0;generalize(cj0 (l.take i)).map D.str=o at*
  match o,hol with
  |[],hol=>
   dsimp only[bf8,aw6]
   repeat'(first|refine yz ?_|refine yi (ci1 x) hx ?_|(refine qS rfl ⟨by simp,fun d hd=>by(obtain rfl:=et9.1 hd;rfl),by(show(0+1)*16≤140737488355328;omega),by(show 0+1≤9223372036854775807;omega)⟩ ?_))
   refine ac1 ?_;refine⟨⟨i+1,by omega⟩,by dsimp only;omega,?_⟩;dsimp only;rw[hnx];exact(bg7 [1])
  |a::q,hol=>
   dsimp only[bf8,aw6]
   repeat'(first|refine yz ?_|refine yi (ci1 x) hx ?_|(refine qS rfl ⟨by simp,fun d hd=>by(obtain rfl:=et9.1 hd;rfl),by(show((a::q).length+1)*16≤140737488355328;omega),by(show(a::q).length+1≤9223372036854775807;omega)⟩ ?_))
   refine ac1 ?_;refine⟨⟨i+1,by omega⟩,by dsimp only;omega,?_⟩;dsimp only;rw[hnx];exact(bg7 [2])
 ·have g1:decide ((i:Int)<((l.map ci1).length:Int))=false:=by rw[hle];simp;omega
  rw[eu2 hge];generalize(cj0 l).map D.str=o at*
  match o with
  |[]=>
   dsimp only[bf8,aw6]
   repeat'(first|refine yz ?_|exact zD)
  |a::q=>
   dsimp only[bf8,aw6];refine qA ?_;refine au1 0 rfl ?_
   repeat'(first|refine yz ?_|exact zD)
structure SLo(l:List EP) where
 i:Nat
 n:Int
 hi:i≤l.length
 h0:0≤n
 h1:n≤13*i
 ok:hopS l=(l.drop i).foldl (fun n e=>n+cj2 e) n
theorem cq2(e:EP):0≤cj2 e∧cj2 e≤13:=by
 unfold cj2
 cases e.mode==0<;>simp<;>omega
theorem cq3(p:PA):Ev E 195 [ci4 p] (.d (.bool (cj3 p))):=Ev.fit fun hfit=>by
 obtain⟨vr,ns,es⟩:=p;have hft:=hfit (ci4 ⟨vr,ns,es⟩) (by simp);have hmn:=(cn5 (hft.aggs (.sl (ns.map ci2)) (by simp))).1;have hme:=(cn5 (hft.aggs (.sl (es.map ci3)) (by simp))).1;have hln:(ns.map ci2).length=ns.length:=by simp
 have hle:(es.map ci3).length=es.length:=by simp
 unfold cj3;dsimp only
 cases c1:ns.length==0 with
 |true=>
  have g1:(((ns.map ci2).length:Int)==0)=true:=by rw[hln];simp at c1 ⊢;omega
  refine ye1 func195 ntmps195 fun _ _ _=>?_
  repeat'(first|refine yz ?_|refine yx ?_|exact zD)
 |false=>
  have g1:(((ns.map ci2).length:Int)==0)=false:=by rw[hln];simp at c1 ⊢;omega
  cases c2:decide (es.length>6)with
  |true=>
   have g2:decide (((es.map ci3).length:Int)>6)=true:=by rw[hle];simp at c2 ⊢;omega
   refine ye1 func195 ntmps195 fun _ _ _=>?_
   repeat'(first|refine yz ?_|refine yx ?_|exact zD)
  |false=>
   have g2:decide (((es.map ci3).length:Int)>6)=false:=by rw[hle];simp at c2 ⊢;omega
   have h6:es.length≤6:=by simp at c2;omega
   rw[ex1,ex1];refine ye1 func195 ntmps195 fun _ _ _=>?_
   repeat'(first|refine yz ?_|refine yx ?_)
   refine ac7 (α:=SLo es) (fun p=>⟨[(3,.d (.int p.n)),(17,.d (.sl (es.map ci3))),(18,.d (.int (es.map ci3).length)),(19,.d (.int p.i))],[]⟩) (fun p=>es.length-p.i) ⟨0,0,by omega,by omega,by omega,rfl⟩ (zle 0) ?_;rintro⟨i,n,hi,h0,h1,ok⟩;dsimp only at ok ⊢;rcases es1 i es.length with hlt|hge
   ·have g3:decide ((i:Int)<((es.map ci3).length:Int))=true:=by rw[hle];simpa using hlt
    have hx0:=es0 hlt;generalize es[i]=e at hx0;have hx:=cn4 (f:=ci3) hx0;have hr:=cq2 e;rw[cn3 hx0,ev7]at ok
    cases c3:e.mode==0 with
    |true=>
     have hn:cj2 e=1:=by unfold cj2;rw[c3];rfl
     rw[hn]at ok
     repeat'(first|refine yz ?_|refine yi (ci3 e) hx ?_)
     refine ac1 ?_;exact⟨⟨i+1,n+1,by omega,by omega,by omega,ok⟩,by dsimp only;omega,(zle 0)⟩
    |false=>
     have hn:cj2 e=min (max e.mx 0) 13:=by unfold cj2;rw[c3];rfl
     rw[hn]at ok hr;have hin:inR .i64 (n+min (max e.mx 0) 13):=by simp only[inR];omega
     repeat'(first|refine yz ?_|refine yi (ci3 e) hx ?_)
     refine ac1 ?_;exact⟨⟨i+1,n+min (max e.mx 0) 13,by omega,by omega,by omega,ok⟩,by dsimp only;omega,(zle 0)⟩
   ·have g3:decide ((i:Int)<((es.map ci3).length:Int))=false:=by rw[hle];simp;omega
    have hn:hopS es=n:=by rw[ok,eu0 hge];rfl
    rw[hn]
    repeat'(first|refine yz ?_|exact zD)
end Go.Proofs.YtndgolmgaenlfaaGreatDoor
namespace Go.Proofs.YtndgolmgaenlfaaGreatDoor
set_option maxRecDepth 4000
open Go Go.Abs Go.Val Go.RowKit Go.Proofs.Tryz
def ltP(a b:ByteArray):Bool:=Op.bytesLess a.toList b.toList
theorem cq4:∀a b c:List UInt8,Op.bytesLess a b=true→Op.bytesLess b c=true→Op.bytesLess a c=true
 |_,[],_,h,_=>by rename_i a _ _;cases a<;>simp[Op.bytesLess]at h
 |_,_::_,[],_,h=>by simp[Op.bytesLess]at h
 |[],_::_,_::_,_,_=>rfl
 |x::a,y::b,z::c,h1,h2=>by
  simp only[Op.bytesLess,eu8,et4,decide_eq_true_eq,beq_iff_eq]at h1 h2 ⊢;rcases h1 with p|⟨p,p'⟩
  ·have p0:x.toNat<y.toNat:=p;rcases h2 with q|⟨q,-⟩
   ·have q0:y.toNat<z.toNat:=q;exact .inl (show x.toNat<z.toNat by omega)
   ·subst q;exact .inl p
  ·subst p;rcases h2 with q|⟨q,q'⟩
   ·exact .inl q
   ·exact .inr ⟨q,cq4 a b c p' q'⟩
theorem cq5{a b:ByteArray}(h:a.toList=b.toList):a=b:=by
 rw[ByteArray.toList_eq,ByteArray.toList_eq]at h;exact ByteArray.ext (Array.toList_inj.1 h)
theorem cq6(a b:ByteArray):(a.toList==b.toList)=decide (a=b):=by
 rw[eu6,beq_iff_eq,decide_eq_true_eq];exact⟨cq5,fun h=>by rw[h]⟩
theorem cq7{a b c:ByteArray}(h1:ltP a b=true)(h2:ltP b c=true):ltP a c=true:=cq4 _ _ _ h1 h2
theorem cq8(a:ByteArray):ltP a a=false:=by
 unfold ltP;rcases co6 a.toList a.toList with⟨-,-,h⟩|⟨-,-,h⟩|⟨h,-,-⟩
 ·exact absurd rfl h
 ·exact absurd rfl h
 ·exact h
theorem cq9(a b:ByteArray):ltP a b=true∨a=b∨ltP b a=true:=by
 unfold ltP;rcases co6 a.toList b.toList with⟨h,-,-⟩|⟨-,h,-⟩|⟨-,-,h⟩
 ·exact .inl h
 ·exact .inr (.inr h)
 ·exact .inr (.inl (cq5 h))
theorem cr0{a b:ByteArray}(h:ltP a b=true):a≠b:=fun e=>by rw[e,cq8]at h;cases h
theorem cr1{a b:ByteArray}(h:ltP a b=true):ltP b a=false:=by
 cases h2:ltP b a with
 |false=>rfl
 |true=>rw[←cq8 a];exact(cq7 h h2).symm
abbrev cr2(l:List ByteArray):Prop:=l.Pairwise fun a b=>ltP a b=true
def cr3(s:ByteArray):List ByteArray→List ByteArray
 |[]=>[s]
 |x::r=>bif ltP x s then x::cr3 s r else bif x.toList==s.toList then x::r else s::x::r
theorem cr4{s y:ByteArray}:∀{l:List ByteArray},y∈cr3 s l↔y=s∨y∈l
 |[]=>by simp[cr3]
 |x::r=>by
  have ih:=cr4 (s:=s) (y:=y) (l:=r);unfold cr3
  cases h1:ltP x s with
  |true=>rw[cond_true,es9,ih,es9];exact or_left_comm
  |false=>
   rw[cond_false]
   cases h2:x.toList==s.toList with
   |true=>
    obtain rfl:=cq5 (by simpa using h2:x.toList=s.toList);rw[cond_true,es9];exact⟨.inr,fun h=>h.elim .inl id⟩
   |false=>rw[cond_false,es9]
theorem cr5{s:ByteArray}:∀{l:List ByteArray},cr2 l→cr2 (cr3 s l)
 |[],_=>List.pairwise_singleton _ _
 |x::r,h=>by
  rw[cr2,fb9]at h;unfold cr3
  cases h1:ltP x s with
  |true=>
   rw[cond_true,cr2,fb9];refine⟨fun y hy=>?_,cr5 h.2⟩;rcases cr4.1 hy with rfl|hy
   ·exact h1
   ·exact h.1 y hy
  |false=>
   rw[cond_false]
   cases h2:x.toList==s.toList with
   |true=>rw[cond_true];exact fb9.2 h
   |false=>
    have h3:ltP s x=true:=by
     rcases cq9 x s with h|h|h
     ·rw[h]at h1;cases h1
     ·rw[h,beq_self_eq_true]at h2;cases h2
     ·exact h
    rw[cond_false,cr2,fb9];refine⟨fun y hy=>?_,fb9.2 h⟩;rcases es9.1 hy with rfl|hy
    ·exact h3
    ·exact cq7 h3 (h.1 y hy)
theorem cr6:∀{a b:List ByteArray},cr2 a→cr2 b→(∀x,x∈a↔x∈b)→a=b
 |[],[],_,_,_=>rfl
 |[],y::q,_,_,h=>absurd ((h y).2 (by simp)) (by simp)
 |x::r,[],_,_,h=>absurd ((h x).1 (by simp)) (by simp)
 |x::r,y::q,ha,hb,h=>by
  rw[cr2,fb9]at ha hb
  have e:x=y:=by
   rcases es9.1 ((h x).1 (by simp))with e|hx
   ·exact e
   ·rcases es9.1 ((h y).2 (by simp))with e|hy
    ·exact e.symm
    ·have h1:=hb.1 x hx;have h2:=ha.1 y hy;rw[cr1 h1]at h2
     cases h2
  subst e;refine congrArg (x:: ·) (cr6 ha.2 hb.2 fun z=>?_);constructor
  ·intro hz;rcases es9.1 ((h z).1 (by simp[hz]))with e|h'
   ·exact absurd e.symm (cr0 (ha.1 z hz))
   ·exact h'
  ·intro hz;rcases es9.1 ((h z).2 (by simp[hz]))with e|h'
   ·exact absurd e.symm (cr0 (hb.1 z hz))
   ·exact h'
def cr7(acc l:List ByteArray):List ByteArray:=l.foldl (fun a s=>cr3 s a) acc
theorem cr8{y:ByteArray}:∀{l acc:List ByteArray},y∈cr7 acc l↔y∈acc∨y∈l
 |[],acc=>by simp[cr7]
 |s::r,acc=>by
  have ih:=cr8 (y:=y) (l:=r) (acc:=cr3 s acc);show y∈cr7 (cr3 s acc) r↔_;rw[ih,cr4,es9];constructor
  ·rintro((h|h)|h)
   ·exact .inr (.inl h)
   ·exact .inl h
   ·exact .inr (.inr h)
  ·rintro(h|h|h)
   ·exact .inl (.inr h)
   ·exact .inl (.inl h)
   ·exact .inr h
theorem cr9:∀{l acc:List ByteArray},cr2 acc→cr2 (cr7 acc l)
 |[],_,h=>h
 |s::r,acc,h=>cr9 (l:=r) (cr5 (s:=s) h)
mutual
def usX:Ex→List ByteArray
 |.mk op _ nm _ ks=>(bif op==2 then [nm]else [])++cs0 ks
def cs0:List Ex→List ByteArray
 |[]=>[]
 |x::r=>usX x++cs0 r
end
def cs1(e:Ex):List ByteArray:=cr7 [] (usX e)
theorem cs2(e:Ex):cr2 (cs1 e):=cr9 List.Pairwise.nil
theorem cs3{e:Ex}{s:ByteArray}:s∈cs1 e↔s∈usX e:=by unfold cs1;rw[cr8];simp
theorem cs4:∀l:List Ex,cs0 l=l.flatMap usX
 |[]=>rfl
 |x::r=>by rw[cs0,ev4,cs4 r]
theorem cs5(e:Ex):(usX e).length≤nd e:=by
 refine bv1 (P:=fun e=>(usX e).length≤nd e) (fun op v nm ds ks ih=>?_) e;rw[usX,cd4];show _≤ndL ks+1
 have key:∀l:List Ex,(∀x∈l,(usX x).length≤nd x)→(cs0 l).length≤ndL l:=by
  intro l
  induction l with
  |nil=>intro _;exact et2 _
  |cons a r ihr=>
   intro h;have h1:=h a (by simp);have h2:=ihr fun x hx=>h x (by simp[hx])
   simp only[cs0,es2,ndL];omega
 have hk:=key ks ih;rw[es2]
 cases op==2 with
 |true=>rw[cond_true];simp;omega
 |false=>rw[cond_false];simp;omega
theorem cs6(s:ByteArray):∀l:List ByteArray,(cr3 s l).length≤l.length+1
 |[]=>by simp[cr3]
 |x::r=>by
  have:=cs6 s r;unfold cr3
  cases ltP x s with
  |true=>rw[cond_true];simp;omega
  |false=>
   rw[cond_false]
   cases x.toList==s.toList with
   |true=>rw[cond_true];simp
   |false=>rw[cond_false];simp
theorem cs7:∀(l acc:List ByteArray),(cr7 acc l).length≤acc.length+l.length
 |[],acc=>by simp[cr7]
 |s::r,acc=>by
  have h1:=cs7 r (cr3 s acc);have h2:=cs6 s acc;show(cr7 (cr3 s acc) r).length≤_;simp only[es3];omega
theorem cs8(e:Ex):(cs1 e).length≤nd e:=by
 have h1:=cs7 (usX e) [];have h2:=cs5 e;unfold cs1;simp only[es8]at h1;omega
def cs9(ks:List ByteArray)(s:ByteArray):List ByteArray:=bif ks.any (fun x=>x.toList==s.toList)then ks else ks++ [s]
theorem ct0{ks:List ByteArray}{s:ByteArray}:(ks.any fun x=>x.toList==s.toList)=true↔s∈ks:=by
 rw[fb2];constructor
 ·rintro⟨x,hx,h⟩;obtain rfl:=cq5 (by simpa using h:x.toList=s.toList);exact hx
 ·intro h;exact⟨s,h,by simp⟩
theorem ct1{ks:List ByteArray}{s:ByteArray}:(ks.any fun x=>x.toList==s.toList)=false↔s ∉ ks:=by rw[←ey6,ct0]
theorem ct2{ks:List ByteArray}{s y:ByteArray}:y∈cs9 ks s↔y=s∨y∈ks:=by
 unfold cs9
 cases h:ks.any fun x=>x.toList==s.toList with
 |true=>
  have h:=ct0.1 h;rw[cond_true];exact⟨.inr,fun h'=>h'.elim (fun e=>e ▸ h) id⟩
 |false=>
  rw[cond_false,eu3,et9];exact or_comm
theorem ct3{ks:List ByteArray}{s:ByteArray}(hn:ks.Nodup):(cs9 ks s).Nodup:=by
 unfold cs9
 cases h:ks.any fun x=>x.toList==s.toList with
 |true=>rw[cond_true];exact hn
 |false=>
  have h:=ct1.1 h;rw[cond_false];refine List.nodup_append.2 ⟨hn,List.nodup_cons.2 ⟨by simp,List.nodup_nil⟩,fun a ha b hb=>?_⟩;rw[et9]at hb;subst hb;rintro rfl;exact h ha
theorem ct4(ks:List ByteArray)(s:ByteArray):(cs9 ks s).length≤ks.length+1:=by
 unfold cs9
 cases ks.any fun x=>x.toList==s.toList with
 |true=>rw[cond_true];omega
 |false=>rw[cond_false];simp
def ct5(ks l:List ByteArray):List ByteArray:=l.foldl cs9 ks
theorem ct6{y:ByteArray}:∀{l ks:List ByteArray},y∈ct5 ks l↔y∈ks∨y∈l
 |[],ks=>by simp[ct5]
 |s::r,ks=>by
  show y∈ct5 (cs9 ks s) r↔_;rw[ct6,ct2,es9];constructor
  ·rintro((h|h)|h)
   ·exact .inr (.inl h)
   ·exact .inl h
   ·exact .inr (.inr h)
  ·rintro(h|h|h)
   ·exact .inl (.inr h)
   ·exact .inl (.inl h)
   ·exact .inr h
theorem ct7:∀{l ks:List ByteArray},ks.Nodup→(ct5 ks l).Nodup
 |[],_,h=>h
 |s::r,ks,h=>ct7 (l:=r) (ct3 (s:=s) h)
theorem ct8:∀(l ks:List ByteArray),(ct5 ks l).length≤ks.length+l.length
 |[],ks=>by simp[ct5]
 |s::r,ks=>by
  have h1:=ct8 r (cs9 ks s);have h2:=ct4 ks s;show(ct5 (cs9 ks s) r).length≤_;simp only[es3];omega
theorem ct9{ks a b:List ByteArray}:ct5 ks (a++b)=ct5 (ct5 ks a) b:=by unfold ct5;rw[List.foldl_append]
end Go.Proofs.YtndgolmgaenlfaaGreatDoor
namespace Go.Proofs.YtndgolmgaenlfaaGreatDoor
set_option maxRecDepth 4000
open Go Go.Abs Go.Val Go.RowKit Go.Maps Go.Sort Go.Shelf Go.Proofs Go.Proofs.Tryz
theorem cu0(m:Nat):AnyZ.SortsIn Tryz.prog Tryz.sortedU_ren Fence.wide m:=
 ⟨fun blk off cap ss W hH hblk hsz=>callsIn_wide.2 (AnyM.slices_Sort_string Tryz.sortU blk off cap ss W hH hblk hsz),fun p cap W=>callsIn_wide.2 (AnyM.slices_Sort_string_none Tryz.sortU p cap W)⟩
set_option maxHeartbeats 1000000 in
theorem cu1{H:Type}(w:World)(Bm b nn:Nat)(D0:DataW H)(R:Value→Option (DataW H × List MemPlace))(hBm:Bm<w.heap.size)(hm:w.cell? ⟨Bm,0,none⟩=some (.map (some b)))(hown:w.ownsMap Tryz.prog 9 R b nn D0)(hmax:Maps.size D0≤maxLen)(hbytes:Maps.size D0*16≤140737488355328):
  Calls Tryz.prog 109 #[.func (.func 264) #[] #[.pointer (some ⟨Bm,0,none⟩)]] w fun e w'=>∃(v:Value) (ss:List (List UInt8)),e=.returned v∧ss.Perm (strKeys D0)∧
   w'.ownsRow w.heap.size 9 1 v ss.length ((ss.mergeSort (fun x y=>decide (x≤y))).map encStr)∧(v=.slice none 0 0↔ss=[])∧Below w.heap.size w w':=by
 have hseq:SeqGives Fence.wide 2 Tryz.prog 264 #[.pointer (some ⟨Bm,0,none⟩)] encStr (fun ss=>ss.Perm (strKeys D0)) (Maps.size D0) w:=
  AnyZ.keys_gives (ρ:=Tryz.keysU_ren) {Tryz.keysU with} Fence.wide _ trivial rfl (by omega) Bm b nn D0 _ hBm hm hown
 exact callsIn_wide.1 (AnyZ.sorted_in Tryz.sortedU Fence.wide 5 trivial trivial trivial trivial rfl (by omega) (cu0 _) (enters_of func177 (by kernel_rfl) rfl) 264 _ trivial (enters_of func264 (by kernel_rfl) rfl) _ _ hmax hbytes _ hseq)
def mpU(ks:List ByteArray):List (Value × D):=ks.map fun s=>(.string s,.bool true)
theorem cu2(s:ByteArray):∀ks:List ByteArray,bi5 (.string s) (mpU ks)=ks.findIdx? fun x=>x.toList==s.toList
 |[]=>rfl
 |x::r=>by
  have ih:=cu2 s r
  have e:vEq (.string s) (.string x)=(x.toList==s.toList):=by
   show(s==x)=_;rw[cq6,eu6,decide_eq_true_eq];rw[MapKept.bytes_beq];exact⟨fun h=>h.symm,fun h=>h.symm⟩
  show(bif vEq (.string s) (.string x)then some 0 else(bi5 (.string s) (mpU r)).map (· +1))=_;rw[e,ih,List.findIdx?_cons]
  cases x.toList==s.toList<;>rfl
theorem cu3(s:ByteArray)(ks:List ByteArray):bi6 (.string s) (.bool true) (mpU ks)=mpU (cs9 ks s):=by
 unfold bi6 cs9;rw[cu2]
 cases h:ks.findIdx? fun x=>x.toList==s.toList with
 |none=>
  rw[fc4]at h
  have:(ks.any fun x=>x.toList==s.toList)=false:=by
   rw[←ey6,fb2];rintro⟨x,hx,he⟩;rw[h x hx]at he;cases he
  rw[this,cond_false];simp[mpU]
 |some i=>
  obtain⟨hi,he,-⟩:=fc3.1 h;have:(ks.any fun x=>x.toList==s.toList)=true:=fb2.2 ⟨_,ex8 hi,he⟩;rw[this,cond_true];have hx:ks[i]=s:=cq5 (by simpa using he);show(mpU ks).set i (.string s,.bool true)=mpU ks;apply ez5;intro j;rw[ew7];split
  ·rename_i hj
   subst hj;have hl:i<(mpU ks).length:=by simp[mpU,hi]
   rw[if_pos hl];simp[mpU,es0 hi,hx]
  ·rfl
theorem le_lt{x y:List UInt8}(h:x≤y)(hn:x≠y):Op.bytesLess x y=true:=by
 rcases co6 x y with⟨h1,-,-⟩|⟨-,h2,-⟩|⟨-,-,h3⟩
 ·exact h1
 ·rw[bytesLess_eq,decide_eq_true_eq]at h2;exact absurd h2 (List.not_lt.2 h)
 ·exact absurd h3 hn
def toB(l:List (List UInt8)):List ByteArray:=l.map fun b=>⟨b.toArray⟩
theorem cu4{ks:List ByteArray}{ss:List (List UInt8)}(hp:ss.Perm (ca4 ks))(hn:ks.Nodup):toB (ss.mergeSort fun x y=>decide (x≤y))=cr7 [] ks:=by
 have hsl:(ss.mergeSort fun x y=>decide (x≤y)).Pairwise fun x y=>x≤y:=by
  have:=List.pairwise_mergeSort (le:=fun x y:List UInt8=>decide (x≤y)) (fun a b c h1 h2=>by simp only[decide_eq_true_eq]at*;exact List.le_trans h1 h2) (fun a b=>by simp only[eu8,decide_eq_true_eq];exact List.le_total a b) ss;exact this.imp fun h=>by simpa using h
 have hbn:(ca4 ks).Nodup:=by
  unfold ca4;refine List.pairwise_map.2 (hn.imp fun{a b} h e=>h ?_);exact ByteArray.ext (Array.toList_inj.1 e)
 have hpm:(ss.mergeSort fun x y=>decide (x≤y)).Perm (ca4 ks):=(List.mergeSort_perm _ _).trans hp;have hnd:(ss.mergeSort fun x y=>decide (x≤y)).Nodup:=hpm.nodup_iff.2 hbn;generalize(ss.mergeSort fun x y=>decide (x≤y))=T at*;refine cr6 ?_ (cr9 List.Pairwise.nil) fun x=>?_
 ·unfold toB;refine List.pairwise_map.2 ((hsl.and hnd).imp fun{a b} h=>?_);unfold ltP;rw[ByteArray.toList_eq,ByteArray.toList_eq];exact le_lt h.1 h.2
 ·rw[cr8];unfold toB;rw[et5];constructor
  ·rintro⟨b,hb,rfl⟩;obtain⟨s,hs,rfl⟩:=et5.1 (hpm.mem_iff.1 hb);exact .inr hs
  ·rintro(h|h)
   ·cases h
   ·exact⟨x.data.toList,hpm.mem_iff.2 (et5.2 ⟨x,h,rfl⟩),rfl⟩
theorem cu5(mt:TypeId)(ks:List ByteArray)(hs:∀s∈ks,s.size≤maxLen)(hn:ks.Nodup)(hsz:ks.length≤1000000000):
  EvS E 109 [.clo 264 [.ptr 0 0]] [.var mt (.w (.mp 1)),.map .string (mpU ks)] (.d (.sl ((cr7 [] ks).map .str))) [.var mt (.w (.mp 1)),.map .string (mpU ks)]:=by
 intro w F σ vs hi hl hr
 match vs,hl with
 |[v0],_=>
  obtain⟨us,rfl,ul,ur⟩:=hr 0 _ _ rfl rfl
  match us,ul with
  |[u0],_=>
   obtain⟨b,c,n,e1,rfl⟩:=ur 0 _ _ rfl rfl;obtain⟨cs,g1,g2,g3,g4,g5,g6⟩:=hi.obs 0 _ _ rfl e1
   match cs,g2 with
   |[sv],_=>
    obtain⟨b1,c1,n1,f1,rfl⟩:=g4 0 (.mp 1) sv rfl rfl;obtain⟨es,k1,k2,k3,k4,k5,k6⟩:=hi.obs 1 _ _ rfl f1;have hml:(mpU ks).length=ks.length:=by simp[mpU]
    have hus:Tryz.prog.underlying 9=some .string:=by kernel_rfl
    have hbl:b<w.heap.size:=(fa0.1 g1).1
    have hkey:∀(i:Nat) e,es[i]? =some e→∃s,ks[i]? =some s∧e.key=.string s∧e.born=i:=by
     intro i e he;have hil:i<ks.length:=by have:=(fa0.1 he).1;omega
     obtain⟨⟨q1,q2⟩,-⟩:=k3 i e (.string ks[i],.bool true) he (by simp[mpU,es0 hil]);exact⟨ks[i],es0 hil,q1,q2⟩
    let R:Value→Option (DataW Unit × List MemPlace):=fun _=>some (.lit (.bool true),[])
    have hrd:∀(i:Nat) e s,es[i]? =some e→ks[i]? =some s→WideElems.rd Tryz.prog 9 R e=some (.string s.data.toList,.lit (.bool true)):=by
     intro i e s he hk;obtain⟨s',h1,h2,-⟩:=hkey i e he;rw[hk]at h1
     cases h1
     unfold WideElems.rd;rw[h2,WideMaps.keyOf_string_mk hus (hs s (es4 hk))];rfl
    have hrg:es.toList.map (WideElems.rg Tryz.prog 9 R)=ks.map fun s=>(Lit.string s.data.toList,(DataW.lit (.bool true):DataW Unit)):=by
     apply ez5;intro j;rw[es6,es6];rcases es1 j ks.length with hj|hj
     ·obtain⟨e,he⟩:∃e,es[j]? =some e:=⟨es[j]'(by omega),by simp⟩;have hk:=es0 hj;rw[fa7,he,hk];simp only[eu9];unfold WideElems.rg;rw[hrd j e _ he hk];rfl
     ·rw[ev1 (l:=es.toList) (by rw[ez9];omega),ev1 hj];rfl
    have hfit:WideElems.Fit Tryz.prog 9 R es es.size:=by
     refine⟨by rw[k2,hml];unfold maxLen;omega,⟨?_,?_,?_⟩,?_⟩
     ·intro x hx;obtain⟨i,hi'⟩:=eu1 hx;rw[fa7]at hi';obtain⟨-,-,-,hb⟩:=hkey i x hi';have:=(fa0.1 hi').1;omega
     ·have:es.toList.map (·.born)=List.range es.size:=by
       apply ez5;intro j;rw[es6,fa7];rcases es1 j es.size with hj|hj
       ·obtain⟨e,he⟩:∃e,es[j]? =some e:=⟨es[j]'hj,by simp⟩;obtain⟨-,-,-,hb⟩:=hkey j e he;rw[he,ey5 hj,←hb];rfl
       ·rw[fa3 hj,ev1 (by simpa using hj)];rfl
      rw[this];exact List.nodup_range
     ·have:es.toList.map (·.key)=ks.map Value.string:=by
       apply ez5;intro j;rw[es6,fa7,es6];rcases es1 j es.size with hj|hj
       ·obtain⟨e,he⟩:∃e,es[j]? =some e:=⟨es[j]'hj,by simp⟩;obtain⟨s,h1,h2,-⟩:=hkey j e he;rw[he,h1];exact congrArg some h2
       ·rw[fa3 hj,ev1 (by omega)];rfl
      rw[this];exact List.pairwise_map.2 (hn.imp fun{a b} h e=>h (by cases e;rfl))
     ·intro x hx;obtain⟨i,hi'⟩:=eu1 hx;rw[fa7]at hi';obtain⟨s,h1,-,-⟩:=hkey i x hi';exact⟨_,hrd i x s hi' h1⟩
    obtain⟨D0,hD0⟩:∃D0:DataW Unit,D0=.map ((es.toList.map (WideElems.rg Tryz.prog 9 R)).foldr DataW.insert []):=⟨_,rfl⟩;have hperm:=WideShapes.sorted_perm (es.toList.map (WideElems.rg Tryz.prog 9 R))
    have hDs:Maps.size D0=ks.length:=by
     rw[hD0];show(List.foldr DataW.insert [] _).length=_;rw[hperm.length_eq,hrg,es7]
    have hDk:(strKeys D0).Perm (ca4 ks):=by
     rw[hD0];refine(hperm.map _).trans ?_;rw[hrg,List.map_map];exact List.Perm.refl _
    have hown:w.ownsMap Tryz.prog 9 R b1 es.size D0:=⟨es,es.size,k1,hfit,et2 _,hD0⟩;have hmx:maxLen=9223372036854775807:=rfl;refine(cu1 w b b1 es.size D0 R hbl ?_ hown (by rw[hDs];omega) (by rw[hDs];omega)).mono ?_
    ·simp only[World.cell?,g1];simp
    ·rintro e w' ⟨v,ss,rfl,hp,hrow,hnil,hb⟩;have hsi:=cu4 (hp.trans hDk) hn;have hsl:ss.length=ks.length:=by rw[(hp.trans hDk).length_eq];simp[ca4]
     have hin:∀z∈ss.mergeSort (fun x y=>decide (x≤y)),z.length≤maxLen:=by
      intro z hz;have hz':z∈ca4 ks:=(hp.trans hDk).mem_iff.1 ((List.mergeSort_perm _ _).mem_iff.1 hz);obtain⟨s,h1,rfl⟩:=et5.1 hz';rw[ez9];exact hs s h1
     have hD:(cr7 [] ks).map D.str=ca5 (ss.mergeSort fun x y=>decide (x≤y)):=by
      rw[←hsi];simp[toB,ca5]
     have hml2:(ss.mergeSort fun x y=>decide (x≤y)).length=ss.length:=List.length_mergeSort _;rw[hD];generalize ss.mergeSort (fun x y=>decide (x≤y))=T at*
     by_cases h0:ss=[]
     ·have hT:T=[]:=fc5 (by rw[hml2,h0];rfl);subst hT;obtain rfl:=hnil.2 h0;exact⟨_,F,σ,rfl,aa7.of_below hb fun k hk=>hk.1,fun _ h=>h,fun _ h=>.inl h,fun i p _ hp=>hp,(ab2.lend hi).ext (Ext.of_below hb hi.flt),Rd.slnil⟩
     ·have hv:v≠ .slice none 0 0:=fun h=>h0 (hnil.1 h)
      have hblk:∀k,v.ownBlock=some k→w.heap.size≤k:=fun k hk=>(hrow.lt k hk).1
      obtain⟨zc1,zc2⟩:=ca7 T
      obtain⟨g,cp,rfl,hob⟩:=aq0 (F:=F) (σ:=σ) (B:=fun _=>False) (xs:=ca5 T) (ownsRow_base_a hrow (et8 _)) (fun k hk hh=>hh) hv (by simp[ca5,hml2]) zc1 zc2 (ca8 hin)
       (fun k hk hf=>by have:=hblk k hk;have:=hi.flt k hf;omega)
      have hge:=hblk g rfl;obtain⟨vs',q1,q2,q3,q4,q5,q6,q7,q8,-,q10⟩:=hob;have hgl:g<w'.heap.size:=(fa0.1 q1).1;have hE:Ext w F w' (fun k=>F k∨k=g):=⟨hb,fun _ h=>.inl h,fun k hk=>by rcases hk with h|rfl;exact .inl h;exact .inr hge,fun k hk=>by rcases hk with h|rfl;exact fb0 (hi.flt k h) hb.size;exact hgl⟩;refine⟨_,fun k=>F k∨k=g,σ,rfl,aa7.of_below hb fun k hk=>hk.1,fun _ h=>.inl h,fun k hk=>?_,fun i p _ hp=>hp,(ab2.lend hi).ext hE,?_⟩
      ·rcases hk with h|rfl
       ·exact .inl h
       ·exact .inr fun hh=>by have:=hh.1;omega
      ·have hex:∀i j,∃u,∀x cd,(ca5 T)[i]? =some x→x.cells[j]? =some cd→vs'[i*1+j]? =some u∧Rd w' F cd u:=by
        intro i j
        cases hx:(ca5 T)[i]? with
        |none=>exact⟨undef,fun x cd h=>by cases h⟩
        |some x=>
         cases hc:x.cells[j]? with
         |none=>exact⟨undef,fun x' cd h h'=>by cases h;rw[hc]at h';cases h'⟩
         |some cd=>
          obtain⟨u,r1,r2⟩:=q8 i x j cd hx hc;exact⟨u,fun x' cd' h h'=>by cases h;rw[hc]at h';cases h';exact⟨r1,r2⟩⟩
       show Rd w' (fun k=>F k∨k=g) (.sl (ca5 T)) (.slice (some ⟨g,0,none⟩) ss.length cp);rw[q3];refine .sl 1 (ca5 T) ⟨g,0,none⟩ cp (fun i j=>Classical.choose (hex i j)) (by omega) q5 (fun _=>.inr rfl) q6 q7 (fun i x j cd hx hc=>?_) (fun i x j cd hx hc=>?_)
       ·rw[aa2,aj1 q1,ew2];exact(Classical.choose_spec (hex i j) x cd hx hc).1
       ·exact(Classical.choose_spec (hex i j) x cd hx hc).2.mono (fun _ h=>.inl h) fun _ _=>rfl
end Go.Proofs.YtndgolmgaenlfaaGreatDoor
namespace Go.Proofs.YtndgolmgaenlfaaGreatDoor
set_option maxRecDepth 4000
open Go Go.Abs Go.Val Go.RowKit Go.Proofs.Tryz
attribute [local irreducible] go SGo an1 Ev au7 EvO EvS
theorem cu6(v:V):bg4 (enc v)=5+v.s.size+bg5 (kids v):=by
 simp only[enc,bg4,bg5];omega
theorem cu7(e:Ex):bg4 (bu2 e)=4+bg4 (enc e.v)+e.nm.size+bg5 (bu0 e):=by
 rw[cu6];simp only[bu2,bg4,bg5];omega
theorem cu8(e:Ex):9*nd e≤bg4 (bu2 e):=by
 refine bv1 (P:=fun e=>9*nd e≤bg4 (bu2 e)) (fun op v nm ds ks ih=>?_) e;rw[cu7,cu6,cd4]
 have key:∀l:List Ex,(∀x∈l,9*nd x≤bg4 (bu2 x))→9*ndL l≤bg5 (bu1 l):=by
  intro l
  induction l with
  |nil=>intro _;simp[ndL]
  |cons a r ihr=>
   intro h;have h1:=h a (by simp);have h2:=ihr fun x hx=>h x (by simp[hx])
   simp only[ndL,bu1];rw[bg5];have e:bg4 (.agg [.int a.op,.int a.v.k,.int a.v.n,.int a.v.d,.str a.v.s,.sl (kids a.v),.str a.nm,.bool a.ds,.sl (bu0 a)])=bg4 (bu2 a):=rfl;omega
 have:=key ks ih;show 9*(ndL ks+1)≤4+(5+v.s.size+bg5 (kids v))+nm.size+bg5 (bu1 ks);omega
theorem cu9(e:Ex):dp e≤nd e:=by
 refine bv1 (P:=fun e=>dp e≤nd e) (fun op v nm ds ks ih=>?_) e;rw[cd9,cd4];show dpL ks+1≤ndL ks+1
 have key:∀l:List Ex,(∀x∈l,dp x≤nd x)→dpL l≤ndL l:=by
  intro l
  induction l with
  |nil=>intro _;simp[dpL]
  |cons a r ihr=>
   intro h;have h1:=h a (by simp);have h2:=ihr fun x hx=>h x (by simp[hx])
   simp only[dpL,ndL];omega
 have:=key ks ih;omega
theorem cv0(e:Ex):1≤nd e:=by rw[cd4];omega
theorem cv1{e:Ex}{w:Bool}(h:ch3 e w=0):ch2 e w=0:=by
 cases hc:ch2 e w !=0 with
 |true=>have:=ch7 rfl hc;rw[h]at this;rw[this]at hc;cases hc
 |false=>simpa using hc
theorem cv2{e:Ex}(h:ch9 e=0):ch3 e false=0:=by
 unfold ch9 at h
 cases h1:decide (dp e>24)with
 |true=>rw[h1]at h;simp at h
 |false=>
  rw[h1,cond_false]at h
  cases h2:decide (nd e>300)with
  |true=>rw[h2]at h;simp at h
  |false=>rw[h2,cond_false]at h;exact h
theorem cv3{e:Ex}(h:ch9 e=0):dp e≤24∧nd e≤300∧ch3 e false=0:=by
 have hv:=cv2 h;unfold ch9 at h
 cases h1:decide (dp e>24)with
 |true=>rw[h1]at h;simp at h
 |false=>
  rw[h1,cond_false]at h
  cases h2:decide (nd e>300)with
  |true=>rw[h2]at h;simp at h
  |false=>
   have:=of_decide_eq_false h1;have:=of_decide_eq_false h2;exact⟨by omega,by omega,hv⟩
theorem cv4{e:Ex}(h1:dp e≤24)(h2:nd e≤300)(h3:ch3 e false=0):ch9 e=0:=by
 unfold ch9;rw[show decide (dp e>24)=false by simp;omega,show decide (nd e>300)=false by simp;omega,h3];rfl
theorem cv5{op:Int}{v:V}{nm:ByteArray}{ds:Bool}{ks:List Ex}{w:Bool}(h:ch3 (.mk op v nm ds ks) w=0):∀x∈ks,ch3 x (w||op==24)=0:=by
 have h0:=cv1 h;have h1:=ch6 (e:=.mk op v nm ds ks) (w:=w) h0;rw[h]at h1;exact cm4 h1.symm
def cstX(v:V):Ex:=.mk 1 v ⟨#[]⟩ false []
theorem cv6{e:Ex}(h:ch2 e true=0):ch2 e false=0∧e.op≠24:=by
 unfold ch2 at h ⊢
 cases c1:(decide (e.op<1)||decide (e.op>24))||(!cc7 e|| !cd0 e)with
 |true=>rw[c1]at h;simp at h
 |false=>
 cases c2:(e.op==1&& !cd2 e.v)with
 |true=>rw[c1,c2]at h;simp at h
 |false=>
 cases c3:nlF e with
 |true=>rw[c1,c2,c3]at h;simp at h
 |false=>
 cases c4:e.op==24 with
 |true=>rw[c1,c2,c3,c4]at h;simp at h
 |false=>exact⟨rfl,by simpa using c4⟩
theorem cv7{w:Bool}:∀{l:List Ex},(∀x∈l,ch3 x w=0)→ch4 l w=0
 |[],_=>rfl
 |x::r,h=>by
  rw[ch4,h x (by simp)];exact cv7 fun y hy=>h y (by simp[hy])
theorem cv8(e:Ex):ch3 e true=0→ch3 e false=0:=by
 refine bv1 (P:=fun e=>ch3 e true=0→ch3 e false=0) (fun op v nm ds ks ih h=>?_) e;obtain⟨h1,h2⟩:=cv6 (cv1 h);have h3:=cv5 h;rw[ch6 h1,show(false||(Ex.mk op v nm ds ks).op==24)=false by simpa using h2];exact cv7 fun x hx=>ih x hx (by simpa using h3 x hx)
theorem cv9{e:Ex}{w:Bool}(h:ch3 e w=0):ch3 e false=0:=by
 cases w with
 |true=>exact cv8 e h
 |false=>exact h
theorem cw0{op:Int}{v:V}{nm:ByteArray}{ds:Bool}{ks:List Ex}(h:ch9 (.mk op v nm ds ks)=0):∀x∈ks,ch9 x=0:=by
 obtain⟨h1,h2,h3⟩:=cv3 h;intro x hx;have d1:=ce0 hx;have d2:=cd5 hx;rw[cd9]at h1;rw[cd4]at h2;have h1:dpL ks+1≤24:=h1;have h2:ndL ks+1≤300:=h2;exact cv4 (by omega) (by omega) (cv9 (cv5 h3 x hx))
abbrev oXU(e:D):aa5:=.var 33 (.w (.d e))
theorem cw1:∀l:List Ex,l.length≤ndL l
 |[]=>et2 _
 |a::r=>by
  have h1:=cv0 a;have h2:=cw1 r;simp only[es3,ndL];omega
attribute [local irreducible] RGo
abbrev cw2(m:Nat):aa5:=.var 198 (.w (.mp m))
abbrev cw3(a b:Nat):aa5:=.var 199 (.w (.clo 188 [.ptr a 0,.ptr b 0]))
abbrev cw4(ks:List ByteArray):aa5:=.map .string (mpU ks)
theorem cw5(ks:List ByteArray):EvS E 189 [.mp 0] [cw4 ks] (.clo 264 [.ptr 1 0]) [cw4 ks,cw2 0]:=by
 refine yn func189 ntmps189 fun _ _ _ _=>?_
 repeat'(first|refine yz ?_|refine ba5 rfl rfl rfl rfl rfl ?_|refine bb1 [0,1] rfl rfl rfl rfl rfl ?_)
 all_goals rfl
structure SVst(n:Nat) where
 i:Nat
 hi:i≤n
theorem cw6{ks:List Ex}{i:Nat}{x:Ex}(h:ks[i]? =some x)(K:List ByteArray):ct5 K (cs0 (ks.take (i+1)))=ct5 (ct5 K (cs0 (ks.take i))) (usX x):=by
 rw[cs4,cs4,ew5,h,fa8,ct9];simp
theorem cw7{e:Ex}:Fit (bu2 e)→∀s∈usX e,s.size≤maxLen:=by
 refine bv1 (P:=fun e=>Fit (bu2 e)→∀s∈usX e,s.size≤maxLen) (fun op v nm ds ks ih hf s hs=>?_) e;obtain⟨-,-,h1,-,h2⟩:=bu9 hf;rw[usX,eu3]at hs;rcases hs with hs|hs
 ·cases h:op==2 with
  |true=>
   rw[h,cond_true,et9]at hs;subst hs;exact h1
  |false=>rw[h]at hs;cases hs
 ·rw[cs4,fa1]at hs;obtain⟨x,hx,hs⟩:=hs;exact ih x hx (h2 x hx) s hs
set_option maxHeartbeats 1000000 in
theorem cw8(e:Ex):nd e≤1000000→∀K:List ByteArray,EvS E 188 [.d (bu2 e),.ptr 0 0,.ptr 1 0] [cw2 2,cw3 0 1,cw4 K] (.tup []) [cw2 2,cw3 0 1,cw4 (ct5 K (usX e))]:=by
 refine bv1 (P:=fun e=>nd e≤1000000→∀K:List ByteArray,EvS E 188 [.d (bu2 e),.ptr 0 0,.ptr 1 0] [cw2 2,cw3 0 1,cw4 K] (.tup []) [cw2 2,cw3 0 1,cw4 (ct5 K (usX e))]) (fun op v nm ds ks ih hn K=>?_) e;rw[cd4]at hn;have hn':ndL ks+1≤1000000:=hn;have hle:(bu1 ks).length=ks.length:=bu8 ks;have hkl:=cw1 ks;obtain⟨vk,vn,vd,vS,vl⟩:=v;rw[usX,ct9];show EvS E 188 [.d (.agg [.int op,.int vk,.int vn,.int vd,.str vS,.sl (bm7 vl),.str nm,.bool ds,.sl (bu1 ks)]),.ptr 0 0,.ptr 1 0] _ _ _;generalize bm7 vl=VL;obtain⟨K1,hK1⟩:∃K1,K1=ct5 K (bif op==2 then [nm]else []):=⟨_,rfl⟩;rw[←hK1]
 cases c1:op==2 with
 |true=>
  rw[c1,cond_true]at hK1;have hK1:K1=cs9 K nm:=hK1;have hput:bi6 (.string nm) (.bool true) (mpU K)=mpU K1:=by rw[cu3,hK1]
  refine yn func188 ntmps188 fun _ _ _ _=>?_
  repeat'(first|refine yz ?_|refine bk0 ?_)
  rw[hput];refine ac7 (α:=SVst ks.length) (fun p=>⟨[(1,.ptr 0 0),(2,.ptr 1 0),(3,.ptr 3 0),(13,.d (.sl (bu1 ks))),(14,.d (.int (bu1 ks).length)),(15,.d (.int p.i))],[cw2 2,cw3 0 1,cw4 (ct5 K1 (cs0 (ks.take p.i))),oXU (.agg [.int op,.int vk,.int vn,.int vd,.str vS,.sl VL,.str nm,.bool ds,.sl (bu1 ks)])]⟩) (fun p=>ks.length-p.i) ⟨0,by omega⟩ (zle 4) ?_;rintro⟨i,hi⟩;dsimp only;rcases es1 i ks.length with hlt|hge
  ·have g1:decide ((i:Int)<((bu1 ks).length:Int))=true:=by rw[hle];simpa using hlt
   have hx0:=es0 hlt;generalize ks[i]=x at hx0;have hx:(bu1 ks)[(i:Int).toNat]? =some (bu2 x):=bu6 (by rw[ev6];exact hx0);have hm:=es4 hx0;have hcx:=ih x hm (by have:=cd5 hm;omega) (ct5 K1 (cs0 (ks.take i)));rw[←cw6 hx0]at hcx
   repeat'(first|refine yz ?_|refine yi (bu2 x) hx ?_|refine ba6 [0,1,2] rfl rfl rfl rfl (FnX.clo _ _) b188 (hcx) rfl rfl rfl rfl rfl ?_)
   refine ac1 ?_;exact⟨⟨i+1,by omega⟩,by dsimp only;omega,(zle 4)⟩
  ·have g1:decide ((i:Int)<((bu1 ks).length:Int))=false:=by rw[hle];simp;omega
   rw[eu2 hge]
   repeat'(first|refine yz ?_|refine yo [0,1,2])
 |false=>
  rw[c1,cond_false]at hK1;have hK1:K1=K:=hK1;subst hK1;refine yn func188 ntmps188 fun _ _ _ _=>?_
  repeat'(refine yz ?_)
  refine ac7 (α:=SVst ks.length) (fun p=>⟨[(1,.ptr 0 0),(2,.ptr 1 0),(3,.ptr 3 0),(13,.d (.sl (bu1 ks))),(14,.d (.int (bu1 ks).length)),(15,.d (.int p.i))],[cw2 2,cw3 0 1,cw4 (ct5 K1 (cs0 (ks.take p.i))),oXU (.agg [.int op,.int vk,.int vn,.int vd,.str vS,.sl VL,.str nm,.bool ds,.sl (bu1 ks)])]⟩) (fun p=>ks.length-p.i) ⟨0,by omega⟩ (zle 4) ?_;rintro⟨i,hi⟩;dsimp only;rcases es1 i ks.length with hlt|hge
  ·have g1:decide ((i:Int)<((bu1 ks).length:Int))=true:=by rw[hle];simpa using hlt
   have hx0:=es0 hlt;generalize ks[i]=x at hx0;have hx:(bu1 ks)[(i:Int).toNat]? =some (bu2 x):=bu6 (by rw[ev6];exact hx0);have hm:=es4 hx0;have hcx:=ih x hm (by have:=cd5 hm;omega) (ct5 K1 (cs0 (ks.take i)));rw[←cw6 hx0]at hcx
   repeat'(first|refine yz ?_|refine yi (bu2 x) hx ?_|refine ba6 [0,1,2] rfl rfl rfl rfl (FnX.clo _ _) b188 (hcx) rfl rfl rfl rfl rfl ?_)
   refine ac1 ?_;exact⟨⟨i+1,by omega⟩,by dsimp only;omega,(zle 4)⟩
  ·have g1:decide ((i:Int)<((bu1 ks).length:Int))=false:=by rw[hle];simp;omega
   rw[eu2 hge]
   repeat'(first|refine yz ?_|refine yo [0,1,2])
theorem cw9(e:Ex)(hn:nd e≤1000000):Ev E 121 [bu2 e] (.d (.sl ((cs1 e).map .str))):=Ev.fit fun hfit=>by
 have hv:=cw8 e hn [];have hl:=cs5 e;have hal:=ct8 (usX e) []
 have hsz:∀s∈ct5 [] (usX e),s.size≤maxLen:=fun s hs=>by
  rw[ct6]at hs;rcases hs with h|h
  ·cases h
  ·exact cw7 (hfit (bu2 e) (by simp)) s h
 have hs:=cu5 198 (ct5 [] (usX e)) hsz (ct7 List.nodup_nil) (by simp only[es8]at hal;omega)
 have hr:cr7 [] (ct5 [] (usX e))=cs1 e:=by
  refine cr6 (cr9 List.Pairwise.nil) (cs2 e) fun s=>?_
  rw[cr8,cs3,ct6];simp
 rw[hr]at hs;have hk:=cw5 (ct5 [] (usX e));refine ye1 func121 ntmps121 fun _ _ _=>?_
 repeat'(first|refine yz ?_|refine bj1 rfl rfl rfl rfl rfl rfl ?_|refine ba5 rfl rfl rfl rfl rfl ?_|refine ba6 [2,3,1] rfl rfl rfl rfl (FnX.clo _ _) b188 (hv) rfl rfl rfl rfl rfl ?_|refine yc [1] b189 (hk) ?_|refine yc [4,1] b109 (hs) ?_|exact zD)
attribute [local irreducible] PGo
def cx0(e:Ex)(cols:List ByteArray):Bool:=(cs1 e).all fun s=>bt9 cols s
def cx1(e:Ex)(cols:List ByteArray):Int:=bif ch9 e !=0 then ch9 e else bif !(cx0 e cols)then 6 else bif ci9 e then 9 else 0
theorem cx2(cols:List ByteArray)(s:ByteArray):EvS E 122 [.d (.str s),.ptr 0 0] [ca3 cols] (.d (.bool (!bt9 cols s))) [ca3 cols]:=by
 have h:=bw2 cols s;refine yn func122 ntmps122 fun _ _ _ _=>?_
 repeat'(first|refine yz ?_|refine yp b60 h ?_|refine bb1 [0] rfl rfl rfl rfl rfl ?_)
 all_goals rfl
theorem cx3(cols l:List ByteArray)(hmax:l.length≤9223372036854775807):EvS E 187 [.d (.sl (l.map D.str)),.clo 122 [.ptr 0 0]] [ca3 cols] (.d (.int (cn6 (l.findIdx? fun s=> !bt9 cols s)))) [ca3 cols]:=by
 have hle:(l.map D.str).length=l.length:=by simp
 refine yn func187 ntmps187 fun _ _ _ _=>?_
 repeat'(refine yz ?_)
 refine ac7 (α:=SFc l fun s=> !bt9 cols s) (fun p=>⟨[(0,.d (.sl (l.map D.str))),(1,.clo 122 [.ptr 0 0]),(7,.d (.int (l.map D.str).length)),(8,.d (.int p.i))],[ca3 cols]⟩) (fun p=>l.length-p.i) ⟨0,by omega,fun j hj=>absurd hj (by omega)⟩ (zle 1) ?_;rintro⟨i,hi,ok⟩;dsimp only;rcases es1 i l.length with hlt|hge
 ·have g1:decide ((i:Int)<((l.map D.str).length:Int))=true:=by rw[hle];simpa using hlt
  have hx0:=es0 hlt;generalize l[i]=y at hx0;have hx:(l.map D.str)[((i:Nat):Int).toNat]? =some (.str y):=cn4 (f:=D.str) hx0;have h1:=cx2 cols y
  cases hc:bt9 cols y with
  |false=>
   rw[hc]at h1;rw[cn7 hx0 (show(!bt9 cols y)=true by rw[hc];rfl) ok]
   repeat'(first|refine yz ?_|refine yi (.str y) hx ?_|refine ba6 [0] rfl rfl rfl rfl (FnX.clo _ _) b122 (h1) rfl rfl rfl rfl rfl ?_|refine bb1 [0] rfl rfl rfl rfl rfl ?_)
   all_goals rfl
  |true=>
   rw[hc]at h1
   repeat'(first|refine yz ?_|refine yi (.str y) hx ?_|refine ba6 [0] rfl rfl rfl rfl (FnX.clo _ _) b122 (h1) rfl rfl rfl rfl rfl ?_)
   refine ac1 ?_;exact⟨⟨i+1,by omega,SFc.next hx0 (show(!bt9 cols y)=false by rw[hc];rfl) ok⟩,by dsimp only;omega,(zle 1)⟩
 ·have g1:decide ((i:Int)<((l.map D.str).length:Int))=false:=by rw[hle];simp;omega
  rw[cn8 fun j hj=>ok j (by omega)]
  repeat'(first|refine yz ?_|refine bb1 [0] rfl rfl rfl rfl rfl ?_)
  all_goals rfl
theorem cx4(cols l:List ByteArray)(hmax:l.length≤9223372036854775807):EvS E 120 [.d (.sl (l.map D.str)),.clo 122 [.ptr 0 0]] [ca3 cols] (.d (.bool (l.any fun s=> !bt9 cols s))) [ca3 cols]:=by
 have h:=cx3 cols l hmax;rw[←cn9];refine yn func120 ntmps120 fun _ _ _ _=>?_
 repeat'(first|refine yz ?_|refine yc [0] b187 (h) ?_|refine bb1 [0] rfl rfl rfl rfl rfl ?_)
 all_goals rfl
theorem cx5(cols l:List ByteArray):(!(l.any fun s=> !bt9 cols s))=l.all fun s=>bt9 cols s:=by
 induction l with
 |nil=>rfl
 |cons x r ih=>rw[ex5,ey0,←ih];cases bt9 cols x<;>simp
theorem cx6(e:Ex)(cols:List ByteArray)(hn:nd e≤1000000):Ev E 62 [bu2 e,.sl (cols.map .str)] (.d (.bool (cx0 e cols))):=by
 have hu:=cw9 e hn;have hul:=cs8 e;have h:=cx4 cols (cs1 e) (by omega);unfold cx0;rw[←cx5];refine ye2 func62 ntmps62 fun _ _ _=>?_
 repeat'(first|refine yz ?_|refine yp b121 hu ?_|refine ba5 rfl rfl rfl rfl rfl ?_|refine yc [1] b120 (h) ?_|exact zD)
theorem cx7(e:Ex)(cols:List ByteArray)(hd:dp e≤1000000)(hn:nd e≤1000000):Ev E 42 [bu2 e,.sl (cols.map .str)] (.d (.int (cx1 e cols))):=by
 have hk:=ci0 e hd hn;have h1:=cx6 e cols hn;have h2:=cp5 e;unfold cx1;generalize cx0 e cols=kn at*;generalize ci9 e=ha at*
 cases hc:ch9 e !=0 with
 |true=>
  rw[cond_true];generalize ch9 e=z at*;refine ye2 func42 ntmps42 fun _ _ _=>?_
  repeat'(first|refine yz ?_|refine yp b61 hk ?_|exact zD)
 |false=>
  rw[cond_false];have h0:ch9 e=0:=by simpa using hc
  rw[h0]at hk
  cases kn with
  |false=>
   refine ye2 func42 ntmps42 fun _ _ _=>?_
   repeat'(first|refine yz ?_|refine yp b61 hk ?_|refine yp b62 h1 ?_|exact zD)
  |true=>
   cases ha with
   |true=>
    refine ye2 func42 ntmps42 fun _ _ _=>?_
    repeat'(first|refine yz ?_|refine yp b61 hk ?_|refine yp b62 h1 ?_|refine yp b63 h2 ?_|exact zD)
   |false=>
    refine ye2 func42 ntmps42 fun _ _ _=>?_
    repeat'(first|refine yz ?_|refine yp b61 hk ?_|refine yp b62 h1 ?_|refine yp b63 h2 ?_|exact zD)
end Go.Proofs.YtndgolmgaenlfaaGreatDoor
namespace Go.Proofs.YtndgolmgaenlfaaGreatDoor
set_option maxRecDepth 4000
open Go Go.Abs Go.Val Go.RowKit Go.Proofs.Tryz
attribute [local irreducible] go SGo an1 Ev au7 EvO
def cx8(a _b:V):Int:=bif !(Val.okV a)then 1 else bif a.k==0 then 0 else 1
theorem cx9{a:V}(h:Val.okV a=true)(hk:a.k=0):a=bn8:=by
 obtain⟨k,n,d,s,l⟩:=a;obtain rfl:k=0:=hk;unfold Val.okV at h;rw[br8 8 0 n d s l (by decide) (by decide)]at h;simp[bo0,s0,V.k,V.n,V.d,V.s,V.l]at h;obtain⟨⟨⟨h2,h3⟩,h4⟩,h1⟩:=h;subst h1 h2 h4
 have hs:s=⟨#[]⟩:=by
  apply ByteArray.ext;apply Array.toList_inj.1;have:=ByteArray.toList_eq s;rw[h3]at this;exact this.symm
 rw[hs];rfl
theorem cy0(a:ByteArray):Ev E 305 [.str a] (.d (.bool false)):=by
 have h:(!(a.toList==a.toList))=false:=by simp
 rw[←h];refine ye1 func305 ntmps305 fun _ _ _=>?_
 repeat'(first|refine yz ?_|refine yx ?_|(refine yy ?_ ?_<;>intro _)|exact zD|exact zL)
theorem cy1:Ev E 254 [.str ⟨#[]⟩,.str ⟨#[]⟩] (.d (.int 0)):=by
 have h1:Op.bytesLess (⟨#[]⟩:ByteArray).toList (⟨#[]⟩:ByteArray).toList=false:=by kernel_rfl
 have h2:((⟨#[]⟩:ByteArray).toList==(⟨#[]⟩:ByteArray).toList)=true:=beq_self_eq_true _;have g2:(!(Op.bytesLess (⟨#[]⟩:ByteArray).toList (⟨#[]⟩:ByteArray).toList||(⟨#[]⟩:ByteArray).toList==(⟨#[]⟩:ByteArray).toList))=false:=by rw[h1,h2];rfl
 refine ye2 func254 ntmps254 fun _ _ _=>?_
 repeat'(first|refine yz ?_|refine yp b305 (cy0 _) ?_|refine yx ?_|(refine yy ?_ ?_<;>intro _)|exact zD|exact zL)
structure SN0(n:Nat) where
 i:Nat
 hi:i≤n
theorem cy2:Ev E 252 [.sl [.int 0,.int 0,.int 0]] (.d (.int 0)):=by
 refine ye1 func252 ntmps252 fun _ _ _=>?_
 repeat'(first|refine yz ?_|refine yx ?_|(refine yy ?_ ?_<;>intro _)|exact zD|exact zL)
 refine ac7 (α:=SN0 3) (fun p=>⟨[(3,.d (.int 0)),(6,.d (.sl [.int 0,.int 0,.int 0])),(7,.d (.int (([.int 0,.int 0,.int 0]:List D).length:Int))),(8,.d (.int p.i))],[]⟩) (fun p=>3-p.i) ⟨0,by omega⟩ (zle 0) ?_;rintro⟨i,hi⟩;dsimp only;rcases es1 i 3 with hlt|hge
 ·have g1:=yT ((i:Int)<(([.int 0,.int 0,.int 0]:List D).length:Int)) (show(i:Int)<3 by omega)
  have hx:([.int 0,.int 0,.int 0]:List D)[(i:Int).toNat]? =some (.int 0):=by
   rw[ev6]
   match i,hlt with
   |0,_=>rfl
   |1,_=>rfl
   |2,_=>rfl
  have g2:((0:Int) !=0)=false:=rfl
  repeat'(first|refine yz ?_|refine yi (.int 0) hx ?_|refine yx ?_|(refine yy ?_ ?_<;>intro _)|exact zD|exact zL)
  refine ac1 ?_;exact⟨⟨i+1,by omega⟩,by dsimp only;omega,(zle 0)⟩
 ·have g1:=yF ((i:Int)<(([.int 0,.int 0,.int 0]:List D).length:Int)) (show ¬ (i:Int)<3 by omega)
  repeat'(first|refine yz ?_|refine yx ?_|(refine yy ?_ ?_<;>intro _)|exact zD|exact zL)
theorem cy3:Ev E 255 [.sl [],.sl [],.imm (.func (.func 251) #[] #[])] (.d (.int 0)):=by
 have g1:decide (((0:Nat):Int)<(([]:List D).length:Int))=false:=rfl;have g2:decide ((([]:List D).length:Int)<(([]:List D).length:Int))=false:=rfl;refine ye3 func255 ntmps255 fun _ _ _=>?_
 repeat'(first|refine yz ?_|refine yx ?_|(refine yy ?_ ?_<;>intro _)|exact zD|exact zL)
 refine ac7 (α:=Unit) (fun _=>⟨[(0,.d (.sl [])),(1,.d (.sl [])),(2,.d (.imm (.func (.func 251) #[] #[]))),(11,.d (.sl [])),(12,.d (.int (([]:List D).length:Int))),(13,.d (.int ((0:Nat):Int)))],[]⟩) (fun _=>0) () (zle 0) ?_;rintro-
 repeat'(first|refine yz ?_|refine yx ?_|(refine yy ?_ ?_<;>intro _)|exact zD|exact zL)
def cy4(k:Int):Int:=bif k==3 then 2 else bif k==7 then 9 else k
theorem cy5(v:V):Ev E 301 [enc v] (.d (.int (cy4 v.k))):=by
 unfold cy4
 cases h1:v.k==3 with
 |true=>
  refine ye1 func301 ntmps301 fun _ _ _=>?_
  repeat'(first|refine yz ?_|refine yx ?_|(refine yy ?_ ?_<;>intro _)|exact zD|exact zL)
 |false=>
 cases h2:v.k==7 with
 |true=>
  refine ye1 func301 ntmps301 fun _ _ _=>?_
  repeat'(first|refine yz ?_|refine yx ?_|(refine yy ?_ ?_<;>intro _)|exact zD|exact zL)
 |false=>
  refine ye1 func301 ntmps301 fun _ _ _=>?_
  repeat'(first|refine yz ?_|refine yx ?_|(refine yy ?_ ?_<;>intro _)|exact zD|exact zL)
theorem cy6:Ev E 251 [enc bn8,enc bn8] (.d (.int 0)):=by
 have ca:=cy5 bn8;have hcc:=bt0 (cy4 0) (cy4 0);have hcn:=bt0 0 0;have hcs:=cy1;have hcf:=cy3;have hor:=cy2;have h0:Lib.compareInt (cy4 0) (cy4 0)=0:=by decide
 have h00:Lib.compareInt 0 0=0:=by decide
 rw[h0]at hcc;rw[h00]at hcn;have h1:((0:Int) !=0)=false:=rfl;have h2:(cy4 0==2)=false:=by decide
 have ca:Ev E 301 [enc bn8] (.d (.int (cy4 0))):=ca;refine ye2 func251 ntmps251 fun _ _ _=>?_
 repeat'(first|refine yz ?_|refine qP (d:=11) rfl rfl rfl rfl rfl rfl bq1 (ca) ?_|refine qP (d:=19) rfl rfl rfl rfl rfl rfl bq1 (ca) ?_|refine yp bq1 ca ?_|refine qP (d:=14) rfl rfl rfl rfl rfl rfl b253 (hcc) ?_|refine yp b253 hcn ?_|refine yp b254 hcs ?_|refine yp b255 hcf ?_|refine yp b252 hor ?_|refine yx ?_|(refine yy ?_ ?_<;>intro _)|exact zD|exact zL)
theorem cy7(a:V)(h:Val.okV a=true)(hk:(a.k==0)=false):Ev E 251 [enc a,enc bn8] (.d (.int 1)):=by
 have ca:=cy5 a;have cb:Ev E 301 [enc bn8] (.d (.int (cy4 0))):=cy5 bn8;have hcc:=bt0 (cy4 a.k) (cy4 0)
 have h0:Lib.compareInt (cy4 a.k) (cy4 0)=1:=by
  have hk':a.k≠0:=by simpa using hk
  rcases bx7 h with e|e|e|e|e|e|e|e|e
  ·exact absurd e hk'
  all_goals(rw[e];decide)
 rw[h0]at hcc;have h1:((1:Int) !=0)=true:=rfl;refine ye2 func251 ntmps251 fun _ _ _=>?_
 repeat'(first|refine yz ?_|refine qP (d:=11) rfl rfl rfl rfl rfl rfl bq1 (ca) ?_|refine yp bq1 cb ?_|refine yp b253 hcc ?_|refine yx ?_|(refine yy ?_ ?_<;>intro _)|exact zD|exact zL)
theorem cy8(a b:V)(hb:b=bn8:=by rfl):Ev E 175 [enc a,enc b] (.d (.int (cx8 a b))):=by
 subst hb;have va:=bs3 bt6 a;have vb:=bs3 bt6 bn8;rw[show Val.okV bn8=true by decide+kernel]at vb;unfold cx8
 cases h1:Val.okV a with
 |true=>
  rw[h1]at va
  cases h2:a.k==0 with
  |true=>
   obtain rfl:=cx9 h1 (by simpa using h2);have ho:=cy6;refine ye2 func175 ntmps175 fun _ _ _=>?_
   repeat'(first|refine yz ?_|refine yp bp5 vb ?_|refine yp b251 ho ?_|refine yx ?_|(refine yy ?_ ?_<;>intro _)|exact zD|exact zL)
  |false=>
   have ho:=cy7 a h1 h2;refine ye2 func175 ntmps175 fun _ _ _=>?_
   repeat'(first|refine yz ?_|refine qP (d:=8) rfl rfl rfl rfl rfl rfl bp5 (va) ?_|refine yp bp5 vb ?_|refine yp b251 ho ?_|refine yx ?_|(refine yy ?_ ?_<;>intro _)|exact zD|exact zL)
 |false=>
  rw[h1]at va;refine ye2 func175 ntmps175 fun _ _ _=>?_
  repeat'(first|refine yz ?_|refine qP (d:=8) rfl rfl rfl rfl rfl rfl bp5 (va) ?_|refine yp bp5 vb ?_|refine yx ?_|(refine yy ?_ ?_<;>intro _)|exact zD|exact zL)
end Go.Proofs.YtndgolmgaenlfaaGreatDoor
namespace Go.Proofs.YtndgolmgaenlfaaGreatDoor
set_option maxRecDepth 4000
open Go Go.Abs Go.Val Go.Proofs.Tryz
attribute [local irreducible] go SGo an1 Ev au7 EvO EvS PGo RGo cx8
theorem cy9(l:List ByteArray):EvS E 110 [.d (.sl (l.map .str))] [] (.clo 178 [.ptr 0 0]) [ca3 l]:=by
 refine yn func110 ntmps110 fun _ _ _ _=>?_
 repeat'(first|refine yz ?_|refine ba5 rfl rfl rfl rfl rfl ?_|refine bb1 [0] rfl rfl rfl rfl rfl ?_)
 rfl
def cz0(k:Int):Nat:=bif k==1 then 1 else bif k==2 then 1 else bif k==4 then 1 else bif k==3 then 3 else 0
theorem cz1(k:Int):Ev E 172 [.int k] (.d (.int (cz0 k))):=by
 unfold cz0;rcases ca2 k with rfl|rfl|rfl|rfl|⟨h1,h2,h3,h4⟩
 ·refine ye1 func172 ntmps172 fun _ _ _=>?_
  repeat'(first|refine yz ?_|exact zD)
 ·refine ye1 func172 ntmps172 fun _ _ _=>?_
  repeat'(first|refine yz ?_|exact zD)
 ·refine ye1 func172 ntmps172 fun _ _ _=>?_
  repeat'(first|refine yz ?_|exact zD)
 ·refine ye1 func172 ntmps172 fun _ _ _=>?_
  repeat'(first|refine yz ?_|exact zD)
 ·rw[h1,h2,h3,h4];refine ye1 func172 ntmps172 fun _ _ _=>?_
  repeat'(first|refine yz ?_|exact zD)
structure SMm(f:Int→Int→Int)(x:Int)(r:List Int) where
 i:Nat
 m:Int
 hi:i≤r.length
 hm:inR .i64 m
 ok:r.foldl f x=(r.drop i).foldl f m
theorem cz2(x:Int)(r:List Int):Ev E 173 [.sl (iL (x::r))] (.d (.int (r.foldl min x))):=Ev.fit fun hfit=>by
 obtain⟨hmax,hel⟩:=bt8 (hfit (.sl (iL (x::r))) (by simp));have hxr:=(hel x (by simp)).int;have hle:=ca0 (x::r);simp only[es3]at hmax hle;have g0:decide (((iL (x::r)).length:Int)<1)=false:=by rw[hle];simp;omega
 have h0:(iL (x::r))[(0:Int).toNat]? =some (.int x):=rfl;refine ye1 func173 ntmps173 fun _ _ _=>?_
 repeat'(first|refine yz ?_|refine yi (.int x) h0 ?_)
 refine ac7 (α:=SMm min x r) (fun p=>⟨[(0,.d (.sl (iL (x::r)))),(3,.d (.int p.m)),(4,.d (.int ((p.i+1:Nat):Int)))],[]⟩) (fun p=>r.length-p.i) ⟨0,x,by omega,hxr,rfl⟩ (zle 0) ?_;rintro⟨i,m,hi,hm,ok⟩;dsimp only;rcases es1 i r.length with hlt|hge
 ·have g1:decide (((i+1:Nat):Int)<((iL (x::r)).length:Int))=true:=by rw[hle];simp;omega
  have hx0:=es0 hlt;generalize r[i]=y at hx0;have hx:(iL (x::r))[((i+1:Nat):Int).toNat]? =some (.int y):=ca1 (by simpa using hx0);have hyr:=(hel y (by simp[es4 hx0])).int
  repeat'(first|refine yz ?_|refine yi (.int y) hx ?_)
  refine ac1 ?_;refine⟨⟨i+1,min m y,hlt,?_,by rw[ok,br4 hx0,ev7]⟩,by dsimp only;omega,(zle 0)⟩;simp only[inR,Int.min_def]at hm hyr ⊢;split<;>assumption
 ·have g1:decide (((i+1:Nat):Int)<((iL (x::r)).length:Int))=false:=by rw[hle];simp;omega
  rw[ok,eu0 hge]
  repeat'(first|refine yz ?_|exact zD)
theorem cz3(x:Int)(r:List Int):Ev E 108 [.sl (iL (x::r))] (.d (.int (r.foldl max x))):=Ev.fit fun hfit=>by
 obtain⟨hmax,hel⟩:=bt8 (hfit (.sl (iL (x::r))) (by simp));have hxr:=(hel x (by simp)).int;have hle:=ca0 (x::r);simp only[es3]at hmax hle;have g0:decide (((iL (x::r)).length:Int)<1)=false:=by rw[hle];simp;omega
 have h0:(iL (x::r))[(0:Int).toNat]? =some (.int x):=rfl;refine ye1 func108 ntmps108 fun _ _ _=>?_
 repeat'(first|refine yz ?_|refine yi (.int x) h0 ?_)
 refine ac7 (α:=SMm max x r) (fun p=>⟨[(0,.d (.sl (iL (x::r)))),(3,.d (.int p.m)),(4,.d (.int ((p.i+1:Nat):Int)))],[]⟩) (fun p=>r.length-p.i) ⟨0,x,by omega,hxr,rfl⟩ (zle 0) ?_;rintro⟨i,m,hi,hm,ok⟩;dsimp only;rcases es1 i r.length with hlt|hge
 ·have g1:decide (((i+1:Nat):Int)<((iL (x::r)).length:Int))=true:=by rw[hle];simp;omega
  have hx0:=es0 hlt;generalize r[i]=y at hx0;have hx:(iL (x::r))[((i+1:Nat):Int).toNat]? =some (.int y):=ca1 (by simpa using hx0);have hyr:=(hel y (by simp[es4 hx0])).int
  repeat'(first|refine yz ?_|refine yi (.int y) hx ?_)
  refine ac1 ?_;refine⟨⟨i+1,max m y,hlt,?_,by rw[ok,br4 hx0,ev7]⟩,by dsimp only;omega,(zle 0)⟩;simp only[inR,Int.max_def]at hm hyr ⊢;split<;>assumption
 ·have g1:decide (((i+1:Nat):Int)<((iL (x::r)).length:Int))=false:=by rw[hle];simp;omega
  rw[ok,eu0 hge]
  repeat'(first|refine yz ?_|exact zD)
theorem cz4:∀(r:List Int) (x:Int),decide (r.foldl min x<0)=(x::r).any fun v=>decide (v<0)
 |[],x=>by simp only[ey3,ex5,List.any_nil,ez0];(try rfl)
 |y::r,x=>by
  rw[ev7,cz4 r (min x y),ex5,ex5,ex5,←Bool.or_assoc];congr 1;rw[eu6];simp only[decide_eq_true_eq,eu8];omega
theorem cz5(n:Int):∀(r:List Int) (x:Int),decide (r.foldl max x≥n)=(x::r).any fun v=>decide (v≥n)
 |[],x=>by simp only[ey3,ex5,List.any_nil,ez0];(try rfl)
 |y::r,x=>by
  rw[ev7,cz5 n r (max x y),ex5,ex5,ex5,←Bool.or_assoc];congr 1;rw[eu6];simp only[decide_eq_true_eq,eu8];omega
def cz6:List ByteArray→Bool
 |[]=>true
 |[_]=>true
 |a::b::r=>Op.bytesLess a.toList b.toList&&cz6 (b::r)
theorem cz7{l:List ByteArray}{i:Nat}{a b:ByteArray}(ha:l[i]? =some a)(hb:l[i+1]? =some b):cz6 (l.drop i)=(Op.bytesLess a.toList b.toList&&cz6 (l.drop (i+1))):=by
 rw[br4 ha,br4 hb];rfl
theorem cz8{l:List ByteArray}{i:Nat}(h:i+1=l.length):cz6 (l.drop i)=true:=by
 obtain⟨a,ha⟩:∃a,l[i]? =some a:=⟨_,es0 (by omega)⟩;rw[br4 ha,eu0 (by omega)];rfl
def nmE(s:ByteArray):Bool:=s.toList==(⟨#[]⟩:ByteArray).toList
def cz9(a:AT):Bool:=
 bif cz0 a.k==0||a.vs.length !=cz0 a.k then false else
 bif a.vs.any fun v=>decide (v<0)then false else
 bif (a.k !=3&&decide (a.ty.length>0))||((a.k !=1&&a.k !=2) && !nmE a.nm)then false else
 bif a.k==2 then bo4 a.v else cz6 a.ty&&cx8 a.v bn8==0
abbrev oAT(a:AT):aa5:=.var 60 (.w (.d (by5 a)))
structure SRt(l:List ByteArray) where
 i:Nat
 hi:i+1≤l.length∨l=[]
 ok:cz6 l=cz6 (l.drop i)
theorem da0(a:AT):Ev E 107 [by5 a] (.d (.bool (cz9 a))):=Ev.fit fun hfit=>by
 obtain⟨k,vs,nm,ty,v⟩:=a;have hft:=hfit (by5 ⟨k,vs,nm,ty,v⟩) (by simp);have hmax:=(bt8 (hft.aggs (.sl (ty.map .str)) (by simp))).1;have hle:=ca0 vs;have hlt:(ty.map D.str).length=ty.length:=by simp
 have hpl:=bs4 bt6 v;have hor:=cy8 v bn8;have hna:=cz1 k;rcases ca2 k with rfl|rfl|rfl|rfl|hk
 ·cases hl:vs.length==3 with
  |false=>
   have g1:(((iL vs).length:Int) !=3)=true:=by rw[hle];simp at hl ⊢;omega
   have ea:cz9 ⟨3,vs,nm,ty,v⟩=false:=by unfold cz9;simp[cz0,bne,hl]
   rw[ea];refine ye1 func107 ntmps107 fun _ _ _=>?_
   repeat'(first|refine yz ?_|refine yp bo9 hna ?_|refine yx ?_|exact zD)
  |true=>
   have hl':vs.length=3:=by simpa using hl
   obtain⟨x,r,rfl⟩:=fb8 (fun h:vs=[]=>by rw[h]at hl';simp at hl');have g1:(((iL (x::r)).length:Int) !=3)=false:=by rw[hle,hl'];rfl
   have hmin:=cz2 x r;have hmn:=cz4 r x
   cases hm:decide (r.foldl min x<0)with
   |true=>
    have ea:cz9 ⟨3,x::r,nm,ty,v⟩=false:=by unfold cz9;rw[hm]at hmn;dsimp only;rw[←hmn,hl'];rfl
    rw[ea];refine ye1 func107 ntmps107 fun _ _ _=>?_
    repeat'(first|refine yz ?_|refine yp bo9 hna ?_|refine yp bp0 hmin ?_|refine yx ?_|exact zD)
   |false=>
    rw[hm]at hmn
    cases hn:nmE nm with
    |false=>
     have g3:(nm.toList==(⟨#[]⟩:ByteArray).toList)=false:=hn;have g3n:(!(nm.toList==(⟨#[]⟩:ByteArray).toList))=true:=by rw[g3];rfl
     have ea:cz9 ⟨3,x::r,nm,ty,v⟩=false:=by unfold cz9;dsimp only;rw[←hmn,hl',hn];rfl
     rw[ea];refine ye1 func107 ntmps107 fun _ _ _=>?_
     repeat'(first|refine yz ?_|refine yp bo9 hna ?_|refine yp bp0 hmin ?_|refine yx ?_|exact zD)
    |true=>
     have g3:(nm.toList==(⟨#[]⟩:ByteArray).toList)=true:=hn;have g3n:(!(nm.toList==(⟨#[]⟩:ByteArray).toList))=false:=by rw[g3];rfl
     have ea:cz9 ⟨3,x::r,nm,ty,v⟩=(cz6 ty&&cx8 v bn8==0):=by unfold cz9;dsimp only;rw[←hmn,hl',hn];rfl
     rw[ea];refine ye1 func107 ntmps107 fun _ _ _=>?_
     repeat'(first|refine yz ?_|refine yp bo9 hna ?_|refine yp bp0 hmin ?_|refine yx ?_)
     refine ac7 (α:=SRt ty) (fun p=>⟨[(1,.ptr 0 0),(4,.d (.int ((p.i+1:Nat):Int)))],[oAT ⟨3,x::r,nm,ty,v⟩]⟩) (fun p=>ty.length-p.i) ⟨0,(by cases ty with|nil=>exact .inr rfl|cons _ _=>left;simp),rfl⟩ (zle 1) ?_;rintro⟨i,hi,ok⟩;dsimp only;rcases es1 (i+1) ty.length with hlt2|hge
     ·have g4:decide (((i+1:Nat):Int)<((ty.map D.str).length:Int))=true:=by rw[hlt];simp;omega
      have ha0:=es0 (show i<ty.length by omega);have hb0:=es0 hlt2;generalize ty[i]=a at ha0;generalize ty[i+1]=b at hb0;have hb:=bt7 (f:=D.str) hb0
      have ha:(ty.map D.str)[(((i+1:Nat):Int) -1).toNat]? =some (.str a):=by
       rw[show(((i+1:Nat):Int) -1)=(i:Int) by omega];exact bt7 (f:=D.str) ha0
      have hnx:=cz7 ha0 hb0
      cases hc:Op.bytesLess a.toList b.toList with
      |true=>
       have hcn:(!Op.bytesLess a.toList b.toList)=false:=by rw[hc];rfl
       rw[hc,ew3]at hnx
       repeat'(first|refine yz ?_|refine yi (.str b) hb ?_|refine yi (.str a) ha ?_)
       refine ac1 ?_;exact⟨⟨i+1,.inl (by omega),ok.trans hnx⟩,by dsimp only;omega,(zle 1)⟩
      |false=>
       have hcn:(!Op.bytesLess a.toList b.toList)=true:=by rw[hc];rfl
       rw[hc,ey7]at hnx;rw[ok,hnx]
       repeat'(first|refine yz ?_|refine yi (.str b) hb ?_|refine yi (.str a) ha ?_|exact zD)
     ·have g4:decide (((i+1:Nat):Int)<((ty.map D.str).length:Int))=false:=by rw[hlt];simp;omega
      have he:cz6 (ty.drop i)=true:=by
       rcases hi with hi|hi
       ·exact cz8 (by omega)
       ·rw[hi];simp[cz6]
      rw[ok,he,ew3]
      repeat'(first|refine yz ?_|refine yp b175 hor ?_|exact zD)
 ·cases hl:vs.length==1 with
  |false=>
   have g1:(((iL vs).length:Int) !=1)=true:=by rw[hle];simp at hl ⊢;omega
   have ea:cz9 ⟨1,vs,nm,ty,v⟩=false:=by unfold cz9;simp[cz0,bne,hl]
   rw[ea];refine ye1 func107 ntmps107 fun _ _ _=>?_
   repeat'(first|refine yz ?_|refine yp bo9 hna ?_|refine yx ?_|exact zD)
  |true=>
   have hl':vs.length=1:=by simpa using hl
   obtain⟨x,r,rfl⟩:=fb8 (fun h:vs=[]=>by rw[h]at hl';simp at hl');have g1:(((iL (x::r)).length:Int) !=1)=false:=by rw[hle,hl'];rfl
   have hmin:=cz2 x r;have hmn:=cz4 r x
   cases hm:decide (r.foldl min x<0)with
   |true=>
    have ea:cz9 ⟨1,x::r,nm,ty,v⟩=false:=by unfold cz9;rw[hm]at hmn;dsimp only;rw[←hmn,hl'];rfl
    rw[ea];refine ye1 func107 ntmps107 fun _ _ _=>?_
    repeat'(first|refine yz ?_|refine yp bo9 hna ?_|refine yp bp0 hmin ?_|refine yx ?_|exact zD)
   |false=>
    rw[hm]at hmn
    cases hty:decide (ty.length>0)with
    |true=>
     have g2:decide (((ty.map D.str).length:Int)>0)=true:=by rw[hlt];simpa using hty
     have ea:cz9 ⟨1,x::r,nm,ty,v⟩=false:=by unfold cz9;dsimp only;rw[←hmn,hl',hty];rfl
     rw[ea];refine ye1 func107 ntmps107 fun _ _ _=>?_
     repeat'(first|refine yz ?_|refine yp bo9 hna ?_|refine yp bp0 hmin ?_|refine yx ?_|exact zD)
    |false=>
     have g2:decide (((ty.map D.str).length:Int)>0)=false:=by rw[hlt];simpa using hty
     have hty0:ty=[]:=by simpa using hty
     subst hty0;have ea:cz9 ⟨1,x::r,nm,[],v⟩=(cz6 [] &&cx8 v bn8==0):=by unfold cz9;dsimp only;rw[←hmn,hl'];rfl
     rw[ea];refine ye1 func107 ntmps107 fun _ _ _=>?_
     repeat'(first|refine yz ?_|refine yp bo9 hna ?_|refine yp bp0 hmin ?_|refine yx ?_)
     refine ac7 (α:=Unit) (fun p=>⟨[(1,.ptr 0 0),(4,.d (.int 1))],[oAT ⟨1,x::r,nm,[],v⟩]⟩) (fun p=>0) () (zle 1) ?_;rintro-;have g4:decide ((1:Int)<(([]:List D).length:Int))=false:=rfl
     repeat'(first|refine yz ?_|refine yp b175 hor ?_|exact zD)
 ·cases hl:vs.length==1 with
  |false=>
   have g1:(((iL vs).length:Int) !=1)=true:=by rw[hle];simp at hl ⊢;omega
   have ea:cz9 ⟨2,vs,nm,ty,v⟩=false:=by unfold cz9;simp[cz0,bne,hl]
   rw[ea];refine ye1 func107 ntmps107 fun _ _ _=>?_
   repeat'(first|refine yz ?_|refine yp bo9 hna ?_|refine yx ?_|exact zD)
  |true=>
   have hl':vs.length=1:=by simpa using hl
   obtain⟨x,r,rfl⟩:=fb8 (fun h:vs=[]=>by rw[h]at hl';simp at hl');have g1:(((iL (x::r)).length:Int) !=1)=false:=by rw[hle,hl'];rfl
   have hmin:=cz2 x r;have hmn:=cz4 r x
   cases hm:decide (r.foldl min x<0)with
   |true=>
    have ea:cz9 ⟨2,x::r,nm,ty,v⟩=false:=by unfold cz9;rw[hm]at hmn;dsimp only;rw[←hmn,hl'];rfl
    rw[ea];refine ye1 func107 ntmps107 fun _ _ _=>?_
    repeat'(first|refine yz ?_|refine yp bo9 hna ?_|refine yp bp0 hmin ?_|refine yx ?_|exact zD)
   |false=>
    rw[hm]at hmn
    cases hty:decide (ty.length>0)with
    |true=>
     have g2:decide (((ty.map D.str).length:Int)>0)=true:=by rw[hlt];simpa using hty
     have ea:cz9 ⟨2,x::r,nm,ty,v⟩=false:=by unfold cz9;dsimp only;rw[←hmn,hl',hty];rfl
     rw[ea];refine ye1 func107 ntmps107 fun _ _ _=>?_
     repeat'(first|refine yz ?_|refine yp bo9 hna ?_|refine yp bp0 hmin ?_|refine yx ?_|exact zD)
    |false=>
     have g2:decide (((ty.map D.str).length:Int)>0)=false:=by rw[hlt];simpa using hty
     have hty0:ty=[]:=by simpa using hty
     subst hty0;have ea:cz9 ⟨2,x::r,nm,[],v⟩=bo4 v:=by unfold cz9;dsimp only;rw[←hmn,hl'];rfl
     rw[ea];refine ye1 func107 ntmps107 fun _ _ _=>?_
     repeat'(first|refine yz ?_|refine yp bo9 hna ?_|refine yp bp0 hmin ?_|refine yp b174 hpl ?_|refine yx ?_|exact zD)
 ·cases hl:vs.length==1 with
  |false=>
   have g1:(((iL vs).length:Int) !=1)=true:=by rw[hle];simp at hl ⊢;omega
   have ea:cz9 ⟨4,vs,nm,ty,v⟩=false:=by unfold cz9;simp[cz0,bne,hl]
   rw[ea];refine ye1 func107 ntmps107 fun _ _ _=>?_
   repeat'(first|refine yz ?_|refine yp bo9 hna ?_|refine yx ?_|exact zD)
  |true=>
   have hl':vs.length=1:=by simpa using hl
   obtain⟨x,r,rfl⟩:=fb8 (fun h:vs=[]=>by rw[h]at hl';simp at hl');have g1:(((iL (x::r)).length:Int) !=1)=false:=by rw[hle,hl'];rfl
   have hmin:=cz2 x r;have hmn:=cz4 r x
   cases hm:decide (r.foldl min x<0)with
   |true=>
    have ea:cz9 ⟨4,x::r,nm,ty,v⟩=false:=by unfold cz9;rw[hm]at hmn;dsimp only;rw[←hmn,hl'];rfl
    rw[ea];refine ye1 func107 ntmps107 fun _ _ _=>?_
    repeat'(first|refine yz ?_|refine yp bo9 hna ?_|refine yp bp0 hmin ?_|refine yx ?_|exact zD)
   |false=>
    rw[hm]at hmn
    cases hty:decide (ty.length>0)with
    |true=>
     have g2:decide (((ty.map D.str).length:Int)>0)=true:=by rw[hlt];simpa using hty
     have ea:cz9 ⟨4,x::r,nm,ty,v⟩=false:=by unfold cz9;dsimp only;rw[←hmn,hl',hty];rfl
     rw[ea];refine ye1 func107 ntmps107 fun _ _ _=>?_
     repeat'(first|refine yz ?_|refine yp bo9 hna ?_|refine yp bp0 hmin ?_|refine yx ?_|exact zD)
    |false=>
     have g2:decide (((ty.map D.str).length:Int)>0)=false:=by rw[hlt];simpa using hty
     have hty0:ty=[]:=by simpa using hty
     subst hty0
     cases hn:nmE nm with
     |false=>
      have g3:(nm.toList==(⟨#[]⟩:ByteArray).toList)=false:=hn;have g3n:(!(nm.toList==(⟨#[]⟩:ByteArray).toList))=true:=by rw[g3];rfl
      have ea:cz9 ⟨4,x::r,nm,[],v⟩=false:=by unfold cz9;dsimp only;rw[←hmn,hl',hn];rfl
      rw[ea];refine ye1 func107 ntmps107 fun _ _ _=>?_
      repeat'(first|refine yz ?_|refine yp bo9 hna ?_|refine yp bp0 hmin ?_|refine yx ?_|exact zD)
     |true=>
      have g3:(nm.toList==(⟨#[]⟩:ByteArray).toList)=true:=hn;have g3n:(!(nm.toList==(⟨#[]⟩:ByteArray).toList))=false:=by rw[g3];rfl
      have ea:cz9 ⟨4,x::r,nm,[],v⟩=(cz6 [] &&cx8 v bn8==0):=by unfold cz9;dsimp only;rw[←hmn,hl',hn];rfl
      rw[ea];refine ye1 func107 ntmps107 fun _ _ _=>?_
      repeat'(first|refine yz ?_|refine yp bo9 hna ?_|refine yp bp0 hmin ?_|refine yx ?_)
      refine ac7 (α:=Unit) (fun p=>⟨[(1,.ptr 0 0),(4,.d (.int 1))],[oAT ⟨4,x::r,nm,[],v⟩]⟩) (fun p=>0) () (zle 1) ?_;rintro-;have g4:decide ((1:Int)<(([]:List D).length:Int))=false:=rfl
      repeat'(first|refine yz ?_|refine yp b175 hor ?_|exact zD)
 ·obtain⟨h3,h1,h2,h4⟩:=hk;have e0:cz0 k=0:=by unfold cz0;rw[h1,h2,h4,h3];rfl
  have ea:cz9 ⟨k,vs,nm,ty,v⟩=false:=by unfold cz9;dsimp only;rw[e0];rfl
  rw[e0]at hna;rw[ea];refine ye1 func107 ntmps107 fun _ _ _=>?_
  repeat'(first|refine yz ?_|refine yp bo9 hna ?_|exact zD)
theorem da1(s:ByteArray):Ev E 180 [.str s] (.d (.bool (!bv3 s))):=by
 have h:=bv7 s;refine ye1 func180 ntmps180 fun _ _ _=>?_
 repeat'(first|refine yz ?_|refine yp b179 h ?_|exact zD)
theorem da2{α:Type}{l:List α}{f:α→Bool}{i:Nat}{x:α}(hx:l[i]? =some x)(hc:f x=true)(h:∀j,j<i→∀y,l[j]? =some y→f y=false):l.findIdx? f=some i:=by
 have hi:=(es5.1 hx).1;rw[fc3];refine⟨hi,?_,fun j hj=>?_⟩
 ·rw[es0 hi]at hx
  cases hx
  exact hc
 ·have:=h j hj _ (es0 (by omega));simpa using this
theorem da3{α:Type}{l:List α}{f:α→Bool}(h:∀j,j<l.length→∀y,l[j]? =some y→f y=false):l.findIdx? f=none:=by
 rw[fc4];intro x hx;obtain⟨j,hj⟩:=eu1 hx;exact h j (es5.1 hj).1 x hj
theorem da4{α:Type}{l:List α}{f:α→Bool}:decide (optI (l.findIdx? f)≥0)=l.any f:=by
 cases h:l.findIdx? f with
 |none=>
  rw[fc4]at h;have:l.any f=false:=by rw[ex7];intro x hx;simpa using h x hx
  rw[this];rfl
 |some i=>
  obtain⟨hi,h1,-⟩:=fc3.1 h;have:l.any f=true:=fb2.2 ⟨_,ex8 hi,h1⟩;rw[this];simp[optI]
structure SFi{α:Type}(l:List α)(f:α→Bool) where
 i:Nat
 hi:i≤l.length
 ok:∀j,j<i→∀y,l[j]? =some y→f y=false
theorem SFi.next{α:Type}{l:List α}{f:α→Bool}{i:Nat}{x:α}(hx:l[i]? =some x)(hc:f x=false)(h:∀j,j<i→∀y,l[j]? =some y→f y=false):∀j,j<i+1→∀y,l[j]? =some y→f y=false:=by
 intro j hj y hy;rcases Nat.lt_succ_iff_lt_or_eq.1 hj with h1|rfl
 ·exact h j h1 y hy
 ·rw[hx]at hy;cases hy;exact hc
theorem da5(fn:FuncId)(hb:an1 E fn)(f:ByteArray→Bool)(l:List ByteArray)(hf:∀x∈l,Ev E fn [.str x] (.d (.bool (f x)))):Ev E 187 [.sl (l.map .str),.imm (.func (.func fn) #[] #[])] (.d (.int (optI (l.findIdx? f)))):=Ev.fit fun hfit=>by
 have hmax:=(bt8 (hfit (.sl (l.map .str)) (by simp))).1;have hle:(l.map D.str).length=l.length:=by simp
 refine ye2 func187 ntmps187 fun _ _ _=>?_
 repeat'(refine yz ?_)
 refine ac7 (α:=SFi l f) (fun p=>⟨[(0,.d (.sl (l.map .str))),(1,.d (.imm (.func (.func fn) #[] #[]))),(7,.d (.int (l.map D.str).length)),(8,.d (.int p.i))],[]⟩) (fun p=>l.length-p.i) ⟨0,by omega,fun j hj=>absurd hj (by omega)⟩ (zle 0) ?_;rintro⟨i,hi,ok⟩;dsimp only;rcases es1 i l.length with hlt|hge
 ·have g1:decide ((i:Int)<((l.map D.str).length:Int))=true:=by rw[hle];simpa using hlt
  have hx0:=es0 hlt;generalize l[i]=y at hx0;have hx:=bt7 (f:=D.str) hx0;have h:=hf y (es4 hx0)
  cases hc:f y with
  |true=>
   rw[hc]at h;rw[da2 hx0 hc ok]
   repeat'(first|refine yz ?_|refine yi (.str y) hx ?_|refine yp hb h ?_|exact zD)
  |false=>
   rw[hc]at h
   repeat'(first|refine yz ?_|refine yi (.str y) hx ?_|refine yp hb h ?_)
   refine ac1 ?_;exact⟨⟨i+1,by omega,SFi.next hx0 hc ok⟩,by dsimp only;omega,(zle 0)⟩
 ·have g1:decide ((i:Int)<((l.map D.str).length:Int))=false:=by rw[hle];simp;omega
  rw[da3 fun j hj=>ok j (by omega)]
  repeat'(first|refine yz ?_|exact zD)
theorem da6(fn:FuncId)(hb:an1 E fn)(f:ByteArray→Bool)(l:List ByteArray)(hf:∀x∈l,Ev E fn [.str x] (.d (.bool (f x)))):Ev E 120 [.sl (l.map .str),.imm (.func (.func fn) #[] #[])] (.d (.bool (l.any f))):=by
 have h:=da5 fn hb f l hf;rw[←da4];refine ye2 func120 ntmps120 fun _ _ _=>?_
 repeat'(first|refine yz ?_|refine yp b187 h ?_|exact zD)
def da7(a:AT):Bool:= !((a.k==1||a.k==2) && !bv3 a.nm) && !(a.ty.any fun t=> !bv3 t)
theorem da8(a:AT):Ev E 112 [by5 a] (.d (.bool (da7 a))):=by
 obtain⟨k,vs,nm,ty,v⟩:=a;have h1:=bv7 nm;have h2:=da6 180 b180 (fun t=> !bv3 t) ty fun x _=>da1 x
 refine ye1 func112 ntmps112 fun _ _ _=>?_
 repeat'(first|refine yz ?_|refine yp b179 h1 ?_|refine yp b120 h2 ?_|(refine yy ?_ ?_<;>intro _)|(refine qV rfl ?_ ?_<;>intro _))
 all_goals(refine congrArg D.bool ?_;clear h1 h2;simp_all [da7])
def twF(l:List ByteArray):Bool:=(List.range l.length).any fun i=>(List.range i).any fun k=>match l[i]?,l[k]? with|some a,some b=>a.toList==b.toList|_,_=>false
def da9(l:List AT)(v:Int):Bool:=l.any fun a=>a.vs.any fun y=>y==v
structure SNo{α:Type}(l:List α)(f:α→Bool) where
 i:Nat
 hi:i≤l.length
 ok:l.any f=(l.drop i).any f
theorem db0{α:Type}{l:List α}{f:α→Bool}{i:Nat}{x:α}(h:l[i]? =some x):(l.drop i).any f=(f x||(l.drop (i+1)).any f):=by rw[br4 h,ex5]
def bL(l:List Bool):List D:=l.map D.bool
theorem db1(l:List Bool)(x:Bool):Ev E 181 [.sl (bL l),.bool x] (.d (.int (optI (l.findIdx? fun y=>x==y)))):=Ev.fit fun hfit=>by
 have hmax:=(bt8 (hfit (.sl (bL l)) (by simp))).1;have hle:(bL l).length=l.length:=by simp[bL]
 refine ye2 func181 ntmps181 fun _ _ _=>?_
 repeat'(refine yz ?_)
 refine ac7 (α:=SFi l fun y=>x==y) (fun p=>⟨[(0,.d (.sl (bL l))),(1,.d (.bool x)),(7,.d (.int (bL l).length)),(8,.d (.int p.i))],[]⟩) (fun p=>l.length-p.i) ⟨0,by omega,fun j hj=>absurd hj (by omega)⟩ (zle 0) ?_;rintro⟨i,hi,ok⟩;dsimp only;rcases es1 i l.length with hlt|hge
 ·have g1:decide ((i:Int)<((bL l).length:Int))=true:=by rw[hle];simpa using hlt
  have hx0:=es0 hlt;generalize l[i]=y at hx0;have hx:(bL l)[(i:Int).toNat]? =some (.bool y):=bt7 (f:=D.bool) hx0
  cases hc:x==y with
  |true=>
   rw[da2 hx0 hc ok]
   repeat'(first|refine yz ?_|refine yi (.bool y) hx ?_|exact zD)
  |false=>
   repeat'(first|refine yz ?_|refine yi (.bool y) hx ?_)
   refine ac1 ?_;exact⟨⟨i+1,by omega,SFi.next hx0 hc ok⟩,by dsimp only;omega,(zle 0)⟩
 ·have g1:decide ((i:Int)<((bL l).length:Int))=false:=by rw[hle];simp;omega
  rw[da3 fun j hj=>ok j (by omega)]
  repeat'(first|refine yz ?_|exact zD)
theorem db2(l:List Bool)(x:Bool):Ev E 113 [.sl (bL l),.bool x] (.d (.bool (l.any fun y=>x==y))):=by
 have h:=db1 l x;rw[←da4];refine ye2 func113 ntmps113 fun _ _ _=>?_
 repeat'(first|refine yz ?_|refine yp b181 h ?_|exact zD)
end Go.Proofs.YtndgolmgaenlfaaGreatDoor
namespace Go.Proofs.YtndgolmgaenlfaaGreatDoor
set_option maxRecDepth 4000
open Go Go.Abs Go.Val Go.RowKit Go.Sort Go.Proofs Go.Proofs.Tryz
theorem db3:EvS E 109 [.clo 178 [.ptr 0 0]] [ca3 []] .nilS [ca3 []]:=by
 intro w F σ vs hi hl hr
 match vs,hl with
 |[v0],_=>
  obtain⟨us,rfl,ul,ur⟩:=hr 0 _ _ rfl rfl
  match us,ul with
  |[u0],_=>
   obtain⟨b,c,n,e1,rfl⟩:=ur 0 _ _ rfl rfl;obtain⟨cs,g1,g2,g3,g4,g5,g6⟩:=hi.obs 0 _ _ rfl e1
   match cs,g2 with
   |[sv],_=>
    have hrd:Rd w F (.sl (([]:List ByteArray).map .str)) sv:=g4 0 (.d (.sl (([]:List ByteArray).map .str))) sv rfl rfl;have hbl:b<w.heap.size:=(fa0.1 g1).1
    obtain⟨p,cap,rfl⟩:∃p cap,sv=.slice p 0 cap:=by
     rcases Rd.sl_inv hrd with⟨-,rfl⟩|⟨size,ad,cap,rfl,-⟩
     ·exact⟨_,_,rfl⟩
     ·exact⟨_,_,rfl⟩
    have hG:bz2 2 b [] w:=bz5 (p:=p) (cap:=cap) hbl (by simp only[World.cell?,g1];simp);refine(bz9 b [] (by decide) (by decide) w hG).mono ?_;rintro e w' ⟨v,rfl,hrow,hnil,hb⟩;have hv:v=.slice none 0 0:=hnil.2 rfl;exact⟨_,F,σ,rfl,aa7.of_below hb fun k hk=>hk.1,fun _ h=>h,fun _ h=>.inl h,fun i p hi hp=>hp,(ab2.lend hi).ext (Ext.of_below hb hi.flt),hv⟩
theorem db4:Ev E 111 [.sl []] (.d (.sl [])):=by
 refine ye1 func111 ntmps111 fun _ _ _=>?_
 repeat'(first|refine yz ?_|exact zD)
theorem db5{α:Type}{p:α→Bool}:∀{l:List α},(l.filter p).length<l.length↔∃x∈l,p x=false
 |[]=>by simp
 |x::l=>by
  have ih:=db5 (p:=p) (l:=l);have hle:=ez7 p l
  cases h:p x with
  |true=>
   rw[List.filter_cons_of_pos h,es3,es3,Nat.add_lt_add_iff_right,ih];constructor
   ·rintro⟨y,hy,hp⟩;exact⟨y,fa9 _ hy,hp⟩
   ·rintro⟨y,hy,hp⟩;rcases es9.1 hy with rfl|hy
    ·rw[h]at hp;cases hp
    ·exact⟨y,hy,hp⟩
  |false=>
   rw[List.filter_cons_of_neg (by rw[h];decide),es3];exact⟨fun _=>⟨x,fb7,h⟩,fun _=>by omega⟩
theorem db6{zs:List (List UInt8)}(hs:zs.Pairwise fun x y=>x≤y):(∃j,j<zs.length∧Lib.keeps zs.toArray j=false)↔ ¬ zs.Nodup:=by
 have hg:∀j,j<zs.length→zs.toArray[j]! =zs[j]! :=fun j hj=>by simp
 constructor
 ·rintro⟨j,hj,hk⟩ hn;simp only[Lib.keeps,decide_eq_false_iff_not,not_or,Classical.not_not]at hk;obtain⟨h0,h1⟩:=hk;rw[hg j hj,hg (j-1) (by omega),getElem!_pos zs j hj,getElem!_pos zs (j-1) (by omega)]at h1;rw[List.Nodup,List.pairwise_iff_getElem]at hn;exact hn (j-1) j (by omega) hj (by omega) h1.symm
 ·intro hn;rw[List.Nodup,List.pairwise_iff_getElem]at hn;simp only[Classical.not_forall]at hn;obtain⟨i,j,hi,hj,hij,he⟩:=hn;have he:zs[i]=zs[j]:=Classical.byContradiction fun h=>he h
  refine⟨i+1,by omega,?_⟩;simp only[Lib.keeps,decide_eq_false_iff_not,not_or];refine⟨by omega,fun h=>h ?_⟩;rw[hg (i+1) (by omega),hg (i+1-1) (by omega),getElem!_pos zs (i+1) (by omega),getElem!_pos zs (i+1-1) (by omega)];have hp:=List.pairwise_iff_getElem.1 hs;have h1:zs[i+1-1]≤zs[i+1]:=hp _ _ _ _ (by omega);refine List.le_antisymm ?_ h1
  have h2:zs[i+1]≤zs[j]:=by
   rcases es1 (i+1) j with h|h
   ·exact hp _ _ _ _ h
   ·have:i+1=j:=by omega
    subst this;exact List.le_refl _
  show zs[i+1]≤zs[i];rw[he];exact h2
theorem db7(l:List ByteArray):twF l=true↔ ¬ (ca4 l).Nodup:=by
 rw[List.Nodup,List.pairwise_iff_getElem];unfold twF;simp only[fb2,ew1];constructor
 ·rintro⟨i,hi,k,hk,h⟩ hn;rw[es0 hi,es0 (show k<l.length by omega)]at h;have hlen:(ca4 l).length=l.length:=by simp[ca4]
  refine hn k i (by omega) (by omega) hk ?_;have h':l[i].toList=l[k].toList:=by simpa using h
  simp only[ca4,List.getElem_map];rw[ByteArray.toList_eq,ByteArray.toList_eq]at h';exact h'.symm
 ·intro hn;simp only[Classical.not_forall]at hn;obtain⟨i,j,hi,hj,hij,he⟩:=hn;have he:(ca4 l)[i]=(ca4 l)[j]:=Classical.byContradiction fun h=>he h
  have hlen:(ca4 l).length=l.length:=by simp[ca4]
  refine⟨j,by omega,i,hij,?_⟩;rw[es0 (show j<l.length by omega),es0 (show i<l.length by omega)];simp only[ca4,List.getElem_map]at he;simp only[beq_iff_eq];rw[ByteArray.toList_eq,ByteArray.toList_eq];exact he.symm
theorem db8(l:List ByteArray):decide (((ca5 (Lib.compact (sortU (ca4 l)))).length:Int)<((l.map D.str).length:Int))=twF l:=by
 have hlen:(sortU (ca4 l)).length=l.length:=by simp[sortU,ca4]
 have hsl:(sortU (ca4 l)).Pairwise fun x y=>x≤y:=by
  have:=List.pairwise_mergeSort (le:=fun x y:List UInt8=>decide (x≤y)) (fun a b c h1 h2=>by simp only[decide_eq_true_eq]at*;exact List.le_trans h1 h2) (fun a b=>by simp only[eu8,decide_eq_true_eq];exact List.le_total a b) (ca4 l);exact this.imp fun h=>by simpa using h
 have hnd:(sortU (ca4 l)).Nodup↔(ca4 l).Nodup:=(List.mergeSort_perm _ _).nodup_iff
 have hc:(Lib.compact (sortU (ca4 l))).length<l.length↔∃j,j<(sortU (ca4 l)).length∧Lib.keeps (sortU (ca4 l)).toArray j=false:=by
  unfold Lib.compact Lib.compactUpTo;rw[es7];have:=db5 (p:=Lib.keeps (sortU (ca4 l)).toArray) (l:=List.range (sortU (ca4 l)).length);rw[List.length_range,hlen]at this;rw[hlen];simpa[ew1]using this
 rw[eu6,decide_eq_true_eq,db7,←hnd,←db6 hsl,←hc];simp[ca5]
def db9(n:Int)(a:AT):Bool:= !cz9 a||a.vs.any fun v=>decide (v≥n)
def dc0(n:Nat)(f:Nat→Bool):List Bool:=(List.range n).map f
def dc1(c:CJ):Int:=
 bif decide (c.vs.length>24)||decide (c.as.length>12)then 4 else
 bif c.as.any (db9 c.vs.length)then 1 else
 bif twF c.vs then 7 else
 bif c.as.any (fun a=> !da7 a)then 6 else
 bif (List.range c.vs.length).any (fun j=> !da9 c.as j)then 25 else 0
theorem dc2(n:Nat)(f:Nat→Bool)(v:Int)(h0:0≤v)(h1:v<n):(bL (dc0 n f)).set v.toNat (.bool true)=bL (dc0 n fun j=>f j||v==(j:Int)):=by
 unfold bL dc0;rw[←List.map_set];congr 1;apply List.ext_getElem
 ·simp
 ·intro i hi hj;simp only[List.length_set,es7,List.length_range]at hi;rw[List.getElem_set];simp only[List.getElem_map,List.getElem_range];split
  ·rename_i h
   have:v=(i:Int):=by omega
   simp[this]
  ·rename_i h
   have:(v==(i:Int))=false:=by rw[beq_eq_false_iff_ne];omega
   rw[this,ez0]
theorem dc3(n:Nat)(f:Nat→Bool)(v:Int)(h0:0≤v)(h1:v<n):(bL (dc0 n f))[v.toNat]? =some (.bool (f v.toNat)):=by
 unfold bL dc0;rw[es6,es6,ey5 (by omega)];rfl
theorem dc4(n:Nat)(f:Nat→Bool):((dc0 n f).any fun y=>false==y)=(List.range n).any fun j=> !f j:=by
 unfold dc0;rw[List.any_map];congr 1
 funext j
 simp only[Function.comp]
 cases f j<;>rfl
theorem dc5(n:Nat):(List.replicate n (D.bool false))=bL (dc0 n fun _=>false):=by
 unfold bL dc0;apply List.ext_getElem
 ·simp
 ·intro i hi hj;simp
theorem dc6{l:List AT}{i:Nat}{a:AT}(h:l[i]? =some a)(v:Int):da9 (l.take (i+1)) v=(da9 (l.take i) v||a.vs.any fun y=>y==v):=by
 unfold da9;have hi:=(es5.1 h);rw[ew5,h,Option.toList_some,List.any_append,ex5,List.any_nil,ez0]
theorem dc7{α:Type}{l:List α}{i:Nat}{x:α}{f:α→Bool}(h:l[i]? =some x):(l.take (i+1)).any f=((l.take i).any f||f x):=by
 rw[ew5,h,Option.toList_some,List.any_append,ex5,List.any_nil,ez0]
theorem dc8{a:AT}(h:cz9 a=true):a.vs.length=cz0 a.k∧cz0 a.k≠0∧(a.vs.any fun v=>decide (v<0))=false:=by
 unfold cz9 at h
 cases h1:(cz0 a.k==0||a.vs.length !=cz0 a.k)with
 |true=>rw[h1]at h;cases h
 |false=>
  rw[h1]at h
  cases h2:(a.vs.any fun v=>decide (v<0))with
  |true=>rw[h2]at h;cases h
  |false=>
   rw[ev8]at h1;refine⟨?_,?_,rfl⟩
   ·simpa using h1.2
   ·simpa using h1.1
end Go.Proofs.YtndgolmgaenlfaaGreatDoor
namespace Go.Proofs.YtndgolmgaenlfaaGreatDoor
set_option maxRecDepth 4000
open Go Go.Abs Go.Val Go.RowKit Go.Proofs.Tryz
structure PB where
 op:Int
 cj:CJ
 cl:CL
 e:Ex
 nm:ByteArray
 it:List IT
 od:List SK
 sk:Int
 lm:Int
inductive Pl where
 |mk (b:PB) (ks:List Pl)
def Pl.b:Pl→PB|.mk b _=>b
def Pl.ks:Pl→List Pl|.mk _ ks=>ks
theorem dc9{P:Pl→Prop}(h:∀b ks,(∀x∈ks,P x)→P (.mk b ks))(p:Pl):P p:=
 Pl.rec (motive_1:=P) (motive_2:=fun l=>∀x∈l,P x) (fun b ks ih=>h b ks ih) (fun x hx=>by cases hx)
  (fun a r ha hr x hx=>by rcases es9.1 hx with rfl|hx;exact ha;exact hr x hx) p
def dd0(b:PB)(K:List D):D:=.agg [.int b.op,.sl K,.sl (b.cj.vs.map .str),.sl (b.cj.as.map by5),
 .int b.cl.k,.bool b.cl.opt,.bool b.cl.ds,.sl (b.cl.ps.map ci4),.sl (bu1 b.cl.wh),.int b.cl.e.op,.int b.cl.e.v.k,.int b.cl.e.v.n,.int b.cl.e.v.d,.str b.cl.e.v.s,.sl (kids b.cl.e.v),.str b.cl.e.nm,.bool b.cl.e.ds,.sl (bu0 b.cl.e),
 .str b.cl.nm,.sl (b.cl.it.map ci5),.sl (b.cl.od.map ci6),.int b.cl.sk,.int b.cl.lm,.sl (b.cl.st.map ci7),.sl (b.cl.ns.map .str),
 .int b.e.op,.int b.e.v.k,.int b.e.v.n,.int b.e.v.d,.str b.e.v.s,.sl (kids b.e.v),.str b.e.nm,.bool b.e.ds,.sl (bu0 b.e),
 .str b.nm,.sl (b.it.map ci5),.sl (b.od.map ci6),.int b.sk,.int b.lm]
mutual
def dd1:Pl→D
 |.mk b ks=>dd0 b (dd2 ks)
def dd2:List Pl→List D
 |[]=>[]
 |p::r=>dd1 p::dd2 r
end
theorem dd3:∀l:List Pl,dd2 l=l.map dd1
 |[]=>rfl
 |p::r=>by rw[dd2,eu5,dd3 r]
theorem dd4(b:PB)(ks:List Pl):dd1 (.mk b ks)=dd0 b (ks.map dd1):=by rw[dd1,dd3]
def dd5(op:Int):Int:=bif op==1||op==2 then 0 else bif op==3||op==4 then 2 else bif decide (op≥5) &&decide (op≤11)then 1 else-1
def dd6(c:CL):Bool:=c.k==0&&(!c.opt&&(!c.ds&&(c.ps.length==0&&(c.wh.length==0&&(ck4 c.e&&(s0B c.nm&&(c.it.length==0&&(c.od.length==0&&(c.sk==0&&(c.lm==0&&(c.st.length==0&&c.ns.length==0)))))))))))
def dd7(b:PB):Bool:=
 (b.op==2||b.cj.vs.length==0&&b.cj.as.length==0) &&((bif b.op==5 then b.cl.k==1 else dd6 b.cl) &&((b.op==6||(b.op==11||ck4 b.e)) &&((b.op==11||s0B b.nm) &&(b.op==7||(b.op==8||b.it.length==0)))))
def dd8(b:PB):Bool:=bif b.op==10 then decide (b.sk≥ -1) &&decide (b.lm≥ -1)else b.od.length==0&&(b.sk==0&&b.lm==0)
def dd9(b:PB)(n:Nat):Bool:=dd5 b.op==n&&(dd7 b&&dd8 b)
def de0(s:ByteArray):Bool:=match s.data.toList with
 |a::b::r=>a==95&&(b !=48&&(b::r).all fun c=>decide (48≤c) &&decide (c≤57))
 |_=>false
def de1(a b:List ByteArray):List ByteArray:=a++b.filter fun s=> !(bt9 a s)
def de2(l:List ByteArray)(s:ByteArray):List ByteArray:=bif s0B s||bt9 l s then l else l++ [s]
def de3:List NP→List EP→List ByteArray
 |[],es=>es.map EP.vr
 |n::r,[]=>n.vr::r.map NP.vr
 |n::r,e::q=>n.vr::e.vr::de3 r q
def de4(l:List PA):List ByteArray:=l.flatMap fun p=>de3 p.ns p.es++ [p.vr]
def de5(l:List PA):List ByteArray:=(de4 l).foldl de2 []
abbrev CR:=List ByteArray × Int
def erR(e:Int):CR:=([],e)
def de6(c:CJ):CR:=bif dc1 c !=0 then erR (dc1 c)else bif c.vs.all (fun s=>cg8 s||de0 s)then(c.vs,0)else erR 6
def de7(l:List PA):List Ex:=l.flatMap fun p=>(p.ns.flatMap fun n=>n.ps.map fun q=>q.e)++p.es.flatMap fun n=>n.ps.map fun q=>q.e
def de8(c:CL)(cols:List ByteArray):CR:=
 bif cl1 c !=0 then erR (cl1 c)else
 bif !((de7 c.ps).all fun e=>cx0 e cols)then erR 6 else
 bif !(c.wh.all fun e=>cx0 e (de1 cols (de5 c.ps)))then erR 6 else
 bif c.wh.any ci9 then erR 9 else(de1 cols (de5 c.ps),0)
def de9(grp:Bool)(x:IT)(cols out:List ByteArray):Int:=
 bif ch9 x.e !=0 then ch9 x.e else
 bif !(cg8 x.asn)|| !(cx0 x.e cols)then 6 else
 bif ci9 x.e&& !(grp&&x.e.op==24)then 9 else
 bif bt9 out x.asn then 7 else 0
def df0(grp:Bool)(cols:List ByteArray):List IT→List ByteArray→CR
 |[],out=>(out,0)
 |x::r,out=>bif de9 grp x cols out !=0 then erR (de9 grp x cols out)else df0 grp cols r (out++ [x.asn])
def df1(cols:List ByteArray):List SK→Int
 |[]=>0
 |x::r=>bif cx1 x.e cols !=0 then cx1 x.e cols else df1 cols r
def df2(b:PB)(cols:List ByteArray):Int:=
 bif ch9 b.e !=0 then ch9 b.e else
 bif !(cg8 b.nm)|| !(cx0 b.e cols)then 6 else
 bif ci9 b.e then 9 else
 bif bt9 cols b.nm then 7 else 0
def df3(e:Int)(cols:List ByteArray):CR:=bif e !=0 then erR e else(cols,0)
def df4(b:PB)(cols:List (List ByteArray)):CR:=
 bif !(dd9 b cols.length)then erR 25 else
 bif b.op==1 then([],0)else
 bif b.op==2 then de6 b.cj else
 bif b.op==3||b.op==4 then(de1 (cols.getD 0 []) (cols.getD 1 []),0)else
 bif b.op==5 then de8 b.cl (cols.getD 0 [])else
 bif b.op==6 then df3 (cx1 b.e (cols.getD 0 [])) (cols.getD 0 [])else
 bif b.op==7||b.op==8 then(bif decide (b.it.length>24)then erR 4 else df0 (b.op==8) (cols.getD 0 []) b.it [])else
 bif b.op==9 then(cols.getD 0 [],0)else
 bif b.op==10 then df3 (df1 (cols.getD 0 []) b.od) (cols.getD 0 [])else df3 (df2 b (cols.getD 0 [])) (cols.getD 0 []++ [b.nm])
mutual
def df5:Pl→CR
 |.mk b ks=>bif (df6 ks).2 !=0 then erR (df6 ks).2 else df4 b (df6 ks).1
def df6:List Pl→List (List ByteArray) × Int
 |[]=>([],0)
 |p::r=>bif (df5 p).2 !=0 then([],(df5 p).2)else bif (df6 r).2 !=0 then([],(df6 r).2)else((df5 p).1::(df6 r).1,0)
end
mutual
def dpP:Pl→Nat
 |.mk _ ks=>df7 ks+1
def df7:List Pl→Nat
 |[]=>0
 |p::r=>max (dpP p) (df7 r)
end
mutual
def szP:Pl→Nat
 |.mk _ ks=>df8 ks+1
def df8:List Pl→Nat
 |[]=>0
 |p::r=>szP p+df8 r
end
def df9(p:Pl):CR:=bif decide (dpP p>200)then erR 5 else bif decide (szP p>2000)then erR 4 else df5 p
theorem dg0:∀{l:List Pl} {x:Pl},x∈l→szP x≤df8 l
 |[],_,h=>by cases h
 |a::r,x,h=>by
  rw[df8];rcases es9.1 h with rfl|h
  ·omega
  ·have:=dg0 h;omega
theorem dg1:∀{l:List Pl} {x:Pl},x∈l→dpP x≤df7 l
 |[],_,h=>by cases h
 |a::r,x,h=>by
  rw[df7];rcases es9.1 h with rfl|h
  ·omega
  ·have:=dg1 h;omega
theorem dg2:∀l:List Pl,l.length≤df8 l
 |[]=>et2 _
 |.mk b ks::r=>by
  have:=dg2 r;rw[df8,szP,es3];omega
end Go.Proofs.YtndgolmgaenlfaaGreatDoor
namespace Go.Proofs.YtndgolmgaenlfaaGreatDoor
set_option maxRecDepth 4000
open Go Go.Abs Go.Val Go.RowKit Go.Proofs.Tryz
def zeX:Ex:=.mk 0 bn8 ⟨#[]⟩ false []
def zCL:CL:=⟨0,false,false,[],[],zeX,⟨#[]⟩,[],[],0,0,[],[]⟩
theorem dg3:∀{ks:List Pl},(df6 ks).2=0→(∀p∈ks,(df5 p).2=0)∧(df6 ks).1=ks.map fun p=>(df5 p).1
 |[],_=>⟨fun _ h=>(by cases h),rfl⟩
 |p::r,h=>by
  rw[df6]at h ⊢
  cases c1:(df5 p).2 !=0 with
  |true=>rw[c1,cond_true]at h;rw[show(df5 p).2=0 from h]at c1;cases c1
  |false=>
   rw[c1,cond_false]at h;rw[cond_false]
   cases c2:(df6 r).2 !=0 with
   |true=>rw[c2,cond_true]at h;rw[show(df6 r).2=0 from h]at c2;cases c2
   |false=>
    have ih:=dg3 (ks:=r) (by simpa using c2);rw[cond_false];refine⟨fun q hq=>?_,?_⟩
    ·rcases es9.1 hq with rfl|hq
     ·simpa using c1
     ·exact ih.1 q hq
    ·rw[eu5,←ih.2]
theorem dg4{b:PB}{ks:List Pl}(h:(df5 (.mk b ks)).2=0):(∀p∈ks,(df5 p).2=0)∧df5 (.mk b ks)=df4 b (ks.map fun p=>(df5 p).1)∧dd9 b ks.length=true:=by
 rw[df5]at h ⊢
 cases c1:(df6 ks).2 !=0 with
 |true=>rw[c1,cond_true]at h;rw[show(df6 ks).2=0 from h]at c1;cases c1
 |false=>
  have ih:=dg3 (ks:=ks) (by simpa using c1);rw[c1,cond_false,ih.2]at h;rw[cond_false,ih.2];refine⟨ih.1,rfl,?_⟩;unfold df4 at h;rw[es7]at h
  cases c2:dd9 b ks.length with
  |true=>rfl
  |false=>rw[c2]at h;exact absurd (show(25:Int)=0 from h) (by decide)
theorem dg5{b:PB}{n:Nat}(h:dd9 b n=true):dd5 b.op=n:=by
 unfold dd9 at h;simp only[et4,beq_iff_eq]at h;exact h.1
theorem dg6{p:Pl}(h:(df9 p).2=0):dpP p≤200∧szP p≤2000∧(df5 p).2=0∧df9 p=df5 p:=by
 unfold df9 at h ⊢
 cases c1:decide (dpP p>200)with
 |true=>rw[c1]at h;exact absurd (show(5:Int)=0 from h) (by decide)
 |false=>
  cases c2:decide (szP p>2000)with
  |true=>rw[c1,c2]at h;exact absurd (show(4:Int)=0 from h) (by decide)
  |false=>
   rw[c1,c2]at h;exact⟨by simpa using c1,by simpa using c2,h,rfl⟩
def opB(op:Int)(e:Ex)(nm:ByteArray):PB:=⟨op,⟨[],[]⟩,zCL,e,nm,[],[],0,0⟩
def jnQ(l:List Pl):Pl:=.mk (opB 3 zeX ⟨#[]⟩) l
theorem dg7:dd6 zCL=true∧s0B ⟨#[]⟩=true∧ck4 zeX=true:=by decide+kernel
theorem fom_6(e:Ex):dd9 (opB 6 e ⟨#[]⟩) 1=true:=by
 have h:=dg7;simp[dd9,dd7,dd8,dd5,opB,h.1,h.2.1]
theorem fom_3:dd9 (opB 3 zeX ⟨#[]⟩) 2=true:=by
 have h:=dg7;simp[dd9,dd7,dd8,dd5,opB,h.1,h.2.1,h.2.2]
theorem sel_6(e:Ex)(c:List ByteArray):df4 (opB 6 e ⟨#[]⟩) [c]=df3 (cx1 e c) c:=by
 unfold df4;rw[show [c].length=1 from rfl,fom_6];rfl
theorem sel_3(c d:List ByteArray):df4 (opB 3 zeX ⟨#[]⟩) [c,d]=(de1 c d,0):=by
 unfold df4;rw[show [c,d].length=2 from rfl,fom_3];rfl
theorem col_6{e:Ex}{k:Pl}{c:List ByteArray}(hk:df5 k=(c,0)):df5 (.mk (opB 6 e ⟨#[]⟩) [k])=df3 (cx1 e c) c:=by
 rw[df5,df6,df6,hk];exact sel_6 e c
theorem col_3{k l:Pl}{c d:List ByteArray}(hk:df5 k=(c,0))(hl:df5 l=(d,0)):df5 (jnQ [k,l])=(de1 c d,0):=by
 rw[jnQ,df5,df6,df6,df6,hk,hl];exact sel_3 c d
theorem dg8{e:Ex}{c:List ByteArray}(h:cx1 e c=0):ch9 e=0∧cx0 e c=true∧ci9 e=false:=by
 unfold cx1 at h
 cases c1:ch9 e !=0 with
 |true=>rw[c1,cond_true]at h;rw[h]at c1;cases c1
 |false=>
  rw[c1,cond_false]at h
  cases c2:cx0 e c with
  |false=>rw[c2]at h;exact absurd (show(6:Int)=0 from h) (by decide)
  |true=>
   rw[c2]at h
   cases c3:ci9 e with
   |true=>rw[c3]at h;exact absurd (show(9:Int)=0 from h) (by decide)
   |false=>exact⟨by simpa using c1,rfl,rfl⟩
theorem dg9{e:Ex}{c:List ByteArray}(h1:ch9 e=0)(h2:cx0 e c=true)(h3:ci9 e=false):cx1 e c=0:=by
 unfold cx1;rw[h1,h2,h3];rfl
theorem dh0{e:Int}{c:List ByteArray}(h:(df3 e c).2=0):e=0∧(df3 e c).1=c:=by
 unfold df3 at h ⊢
 cases c1:e !=0 with
 |true=>rw[c1,cond_true]at h;rw[show e=0 from h]at c1;cases c1
 |false=>exact⟨by simpa using c1,rfl⟩
theorem dh1(g:Bool)(cols:List ByteArray):∀(l:List IT) (out:List ByteArray),(df0 g cols l out).2≠0→(df0 g cols l out).1=[]
 |[],_,h=>absurd rfl h
 |x::r,out,h=>by
  rw[df0]at h ⊢
  cases c:de9 g x cols out !=0 with
  |true=>rfl
  |false=>rw[c,cond_false]at h;rw[cond_false];exact dh1 g cols r _ h
def dh2:Ex:=cstX (vBool true)
theorem dh3(c:List ByteArray):cx1 dh2 c=0:=by
 have h:ch9 dh2=0∧ci9 dh2=false∧cs1 dh2=[]:=by decide+kernel
 refine dg9 h.1 ?_ h.2.1;unfold cx0;rw[h.2.2];rfl
theorem fom_9:dd9 (opB 9 zeX ⟨#[]⟩) 1=true:=by
 have h:=dg7;simp[dd9,dd7,dd8,dd5,opB,h.1,h.2.1,h.2.2]
def unQ:Pl:=.mk (opB 1 zeX ⟨#[]⟩) []
theorem dh4:df5 unQ=([],0):=by decide+kernel
theorem dh5(c:List ByteArray):de1 c []=c:=by unfold de1;rw[List.filter_nil,ex6]
theorem col_9{k:Pl}{c:List ByteArray}(hk:df5 k=(c,0)):df5 (.mk (opB 9 zeX ⟨#[]⟩) [k])=(c,0):=by
 rw[df5,df6,df6,hk];show df4 (opB 9 zeX ⟨#[]⟩) [c]=_;unfold df4;rw[show [c].length=1 from rfl,fom_9];rfl
theorem dh6(p:Pl):1≤dpP p:=by cases p;rw[dpP];omega
theorem dh7{p:Pl}(h:(df9 p).2=0)(hs:szP p≤1500):
  df9 (.mk (opB 6 dh2 ⟨#[]⟩) [p])=(bif decide (dpP p>199)then erR 5 else df9 p)∧df9 (.mk (opB 9 zeX ⟨#[]⟩) [p])=(bif decide (dpP p>199)then erR 5 else df9 p)∧
  df9 (jnQ [p,unQ])=(bif decide (dpP p>199)then erR 5 else df9 p):=by
 obtain⟨h1,h2,h3,h4⟩:=dg6 h;have hc:df5 p=((df5 p).1,0):=by rw[←h3]
 have hp:=dh6 p;have e6:df5 (.mk (opB 6 dh2 ⟨#[]⟩) [p])=df5 p:=by rw[col_6 hc,dh3];exact hc.symm
 have e9:df5 (.mk (opB 9 zeX ⟨#[]⟩) [p])=df5 p:=by rw[col_9 hc];exact hc.symm
 have e3:df5 (jnQ [p,unQ])=df5 p:=by rw[col_3 hc dh4,dh5];exact hc.symm
 have d6:∀b,dpP (.mk b [p])=dpP p+1:=fun b=>by rw[dpP,df7,df7];omega
 have s6:∀b,szP (.mk b [p])=szP p+1:=fun b=>by rw[szP,df8,df8]
 have d3:dpP (jnQ [p,unQ])=dpP p+1:=by rw[jnQ,dpP,df7,df7,df7,unQ,dpP,df7];omega
 have s3:szP (jnQ [p,unQ])=szP p+2:=by rw[jnQ,szP,df8,df8,df8,unQ,szP,df8]
 have gen:∀q:Pl,dpP q=dpP p+1→szP q≤2000→df5 q=df5 p→df9 q=bif decide (dpP p>199)then erR 5 else df9 p:=by
  intro q e1 e2 e3;rw[h4];unfold df9;rw[e1,e3,show decide (szP q>2000)=false by simp;omega,cond_false,show decide (dpP p+1>200)=decide (dpP p>199)from by rw[decide_eq_decide];omega]
 exact⟨gen _ (d6 _) (by rw[s6];omega) e6,gen _ (d6 _) (by rw[s6];omega) e9,gen _ d3 (by rw[s3];omega) e3⟩
end Go.Proofs.YtndgolmgaenlfaaGreatDoor
