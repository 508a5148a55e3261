/- Expressions as canonical text: what both texts write; constants and signs; Expressions as canonical text, by both texts; Lists of expressions and operands as text, given the expressions' own texts, by both texts; Expressions as canonical text, by both texts; The check of a path pattern's parts, by the program; Increasing lists of texts: a text is put in; the variables of an expression; slices.Sorted over maps.Keys at a map of the call's own with text keys: the keys in increasing order, as data; Small facts on expressions that other chapters' texts hold, too; The variables of an expression, by . Conditions: each part's own, as it says. -/
import Derived.Test.YtndgolmgaenlfaaGreatDoorFA
import Derived.Test.YtndgolmgaenlfaaGreatDoorMB
import Derived.Test.YtndgolmgaenlfaaGreatDoorGC
import Derived.Test.YtndgolmgaenlfaaGreatDoorLA
import Derived.Test.YtndgolmgaenlfaaGreatDoorMA
set_option linter.unusedVariables false
set_option linter.unusedSimpArgs false
namespace Go.Proofs.YtndgolmgaenlfaaGreatDoor
set_option maxRecDepth 4000
open Go Go.Abs Go.Val Go.RowKit Go.Proofs.Tryz
attribute [local irreducible] go SGo an1 Ev au7 EvO EvS
def cl6(v:V):List UInt8:=
 bif v.k==1 then(bif v.n==1 then [84,82,85,69]else [70,65,76,83,69])else
 bif v.k==2 then(bif decide (v.n<0)then [40]++Lib.itoa v.n++ [41]else Lib.itoa v.n)else
 bif v.k==4 then txt v else [78,85,76,76]
def sgT(op:Int):List UInt8:=
 bif op==7 then [43]else bif op==8 then [45]else bif op==9 then [42]else bif op==10 then [47]else bif op==11 then [37]else bif op==12 then [61]else
 bif op==13 then [60,62]else bif op==14 then [60]else bif op==15 then [60,61]else bif op==16 then [62]else bif op==17 then [62,61]else
 bif op==18 then [65,78,68]else bif op==19 then [79,82]else [73,78]
def cl7(op:Int):Bool:=decide (op≥5) &&decide (op≤21)
theorem cl8{v:V}(h:cd6 v=true)(h4:v.k=4):(txt v).length≤202:=by
 obtain⟨k,n,d,s,l⟩:=v;simp only[V.k]at h4;subst h4;have hok:Val.okV (.mk 4 n d s l)=true:=by simpa[cd6,cc9,V.k]using h
 have h4:=by1 hok;have hl2:=bx0 s.data.toList;have hsl:s.data.toList.length=s.size:=Oc
 have:txt (.mk 4 n d s l)=[39]++dbl s.data.toList++ [39]:=by simp only[txt,hok];rfl
 rw[this];simp only[ex8,ex9,ey5];omega
theorem cl9{v:V}(h:cd6 v=true)(hn:inR .i64 v.n):(cl6 v).length≤202:=by
 have h1:=bx5 hn;unfold cl6
 cases h4:v.k==4 with
 |true=>
  have h4':v.k=4:=by simpa using h4
  have:=cl8 h h4';simp only[h4',cond_true];simp;exact this
 |false=>
  cases v.k==1<;>cases v.k==2<;>cases v.n==1<;>cases decide (v.n<0)<;>simp only[cond_true,cond_false,ex8,ex9,ey5]<;>omega
theorem cm0(v:V)(h:cd6 v=true):Ev E 288 [enc v] (.d (.str (bs (cl6 v)))):=Ev.fit fun hfit=>by
 obtain⟨-,hn,-⟩:=bn4 (hfit (enc v) Oc);have h1:=bs9 v.n;have ln:=bx5 hn;have z1:(⟨(Lib.itoa v.n).toArray⟩:ByteArray).size≤21:=ln;have z2:(⟨#[40]⟩:ByteArray).size=1:=rfl;have z3:(⟨#[41]⟩:ByteArray).size=1:=rfl
 cases h4:v.k==4 with
 |true=>
  have h4':v.k=4:=by simpa using h4
  have h2:=by6 v (by have:=cl8 h h4';omega);have e:cl6 v=txt v:=by simp[cl6,h4']
  have g1:(v.k==1)=false:=by rw[h4'];rfl
  have g2:(v.k==2)=false:=by rw[h4'];rfl
  rw[e];refine ye1 func288 ntmps288 fun _ _ _=>?_
  repeat'(first|refine yz ?_|refine yp b152 h2 ?_|refine yx ?_|(refine yy ?_ ?_<;>intro _)|exact zD|exact zL)
 |false=>
  refine ye1 func288 ntmps288 fun _ _ _=>?_
  repeat'(first|refine yz ?_|refine yp bo9 h1 ?_|refine yx ?_|(refine yy ?_ ?_<;>intro _)|(refine qV rfl ?_ ?_<;>intro _)|exact zD|exact zL)
  all_goals(refine congrArg D.str ?_;simp_all [cl6,fc3];first|rfl|(rw[if_neg Oa];first|done|rfl))
theorem cm1(op:Int):Ev E 291 [.int op] (.d (.str (bs (sgT op)))):=by
 refine ye1 func291 ntmps291 fun _ _ _=>?_
 repeat'(first|refine yz ?_|refine yx ?_|(refine yy ?_ ?_<;>intro _)|(refine qV rfl ?_ ?_<;>intro _)|exact zD|exact zL)
 all_goals(refine congrArg D.str ?_;simp_all [sgT,fc3];rfl)
theorem cm2(op:Int):(sgT op).length≤3:=by
 unfold sgT
 repeat'(rw[fc3];split)
 all_goals simp
def txN(op:Int)(v:V)(nm:List UInt8)(ds:Bool)(ts os:List (List UInt8)):List UInt8:=
 bif op==1 then cl6 v else
 bif op==2 then nm else
 bif op==3 then os.getD 0 []++ [46]++nm else
 bif op==4 then os.getD 0 []++ [58]++nm else
 bif op==5 then [78,79,84,32]++os.getD 0 []else
 bif op==6 then [45]++os.getD 0 []else
 bif op==21 then os.getD 0 []++ [32,73,83,32,78,85,76,76]else
 bif op==22 then [91]++Lib.join ts [44,32]++ [93]else
 bif op==23 then nm++ [40]++Lib.join ts [44,32]++ [41]else
 bif op==24 then(bif ts.isEmpty then nm++ [40,42,41]else bif ds then nm++ [40,68,73,83,84,73,78,67,84,32]++ts.getD 0 []++ [41]else nm++ [40]++ts.getD 0 []++ [41])else
 os.getD 0 []++ [32]++sgT op++ [32]++os.getD 1 []
mutual
def txE:Ex→List UInt8
 |.mk op v nm ds ks=>txN op v nm.data.toList ds (txL ks) (opL ks)
def txL:List Ex→List (List UInt8)
 |[]=>[]
 |x::r=>txE x::txL r
def opL:List Ex→List (List UInt8)
 |[]=>[]
 |x::r=>(bif cl7 x.op then [40]++txE x++ [41]else txE x)::opL r
end
def opT(x:Ex):List UInt8:=bif cl7 x.op then [40]++txE x++ [41]else txE x
theorem cm3(l:List Ex):txL l=l.map txE:=by
 induction l with
 |nil=>simp[txL]
 |cons v r ih=>simp[txL,ih]
theorem cm4(l:List Ex):opL l=l.map opT:=by
 induction l with
 |nil=>simp[opL]
 |cons v r ih=>simp[opL,ih,opT]
mutual
def alE(P:Ex→Prop):Ex→Prop
 |.mk op v nm ds ks=>P (.mk op v nm ds ks)∧alL P ks
def alL(P:Ex→Prop):List Ex→Prop
 |[]=>True
 |x::r=>alE P x∧alL P r
end
theorem cm5{P:Ex→Prop}:∀{l:List Ex},alL P l→∀x∈l,alE P x
 |[],_,x,hx=>by simp at hx
 |y::r,h,x,hx=>by
  rcases ey2.1 hx with e|e
  ·rw[e];exact h.1
  ·exact cm5 h.2 x e
theorem cm6{P:Ex→Prop}:∀{l:List Ex},(∀x∈l,alE P x)→alL P l
 |[],_=>trivial
 |y::r,h=>⟨h y Oc,cm6 fun x hx=>h x (by simp[hx])⟩
theorem cm7{P Q:Ex→Prop}(hpq:∀e,P e→Q e):∀e,alE P e→alE Q e:=
 bv4 (P:=fun e=>alE P e→alE Q e) fun op v nm ds ks ih h=>⟨hpq _ h.1,cm6 fun x hx=>ih x hx (cm5 h.2 x hx)⟩
theorem cm8{P Q:Ex→Prop}:∀e,alE P e→alE Q e→alE (fun e=>P e∧Q e) e:=
 bv4 (P:=fun e=>alE P e→alE Q e→alE (fun e=>P e∧Q e) e) fun op v nm ds ks ih h h'=>⟨⟨h.1,h'.1⟩,cm6 fun x hx=>ih x hx (cm5 h.2 x hx) (cm5 h'.2 x hx)⟩
def okN(e:Ex):Prop:=1≤e.op∧e.op≤24∧cd1 e=true∧(e.op=1→cd6 e.v=true)
theorem cm9:∀{l:List Ex} {w:Bool},ch8 l w=0→∀x∈l,ch7 x w=0
 |[],_,_,x,hx=>by simp at hx
 |y::r,w,h,x,hx=>by
  rw[ch8]at h
  cases hz:ch7 y w !=0 with
  |true=>
   rw[hz]at h;simp at hz;exact absurd h hz
  |false=>
   rw[hz]at h;rcases ey2.1 hx with e|e
   ·rw[e];simpa using hz
   ·exact cm9 h x e
theorem cn0:∀(e:Ex) (w:Bool),ch7 e w=0→alE okN e:=by
 refine bv4 (P:=fun e=>∀(w:Bool),ch7 e w=0→alE okN e) fun op v nm ds ks ih w h=>?_
 rw[ch7]at h
 cases hs:ch6 (.mk op v nm ds ks) w !=0 with
 |true=>
  rw[hs]at h;simp at hs;exact absurd h hs
 |false=>
  rw[hs]at h;refine⟨?_,cm6 fun x hx=>ih x hx _ (cm9 h x hx)⟩;have hs':ch6 (.mk op v nm ds ks) w=0:=by simpa using hs
  unfold ch6 at hs'
  cases h1:(decide ((Ex.mk op v nm ds ks).op<1)||decide ((Ex.mk op v nm ds ks).op>24))||(!cd1 (.mk op v nm ds ks)|| !cd4 (.mk op v nm ds ks))with
  |true=>rw[h1]at hs';simp at hs'
  |false=>
   rw[h1]at hs';simp only[fa9,decide_eq_false_iff_not,Bool.not_eq_false']at h1;refine⟨by omega,by omega,h1.2.1,fun h2=>?_⟩
   cases h3:cd6 (Ex.mk op v nm ds ks).v with
   |true=>rfl
   |false=>
    have h4:((Ex.mk op v nm ds ks).op==1&& !cd6 (Ex.mk op v nm ds ks).v)=true:=by rw[h2,h3];rfl
    rw[h4]at hs';simp at hs'
def smN(e:Ex):Prop:=okN e∧e.nm.size≤200∧inR .i64 e.v.n
theorem cn1(sep:List UInt8)(hs:sep.length≤2):∀(xs:List (List UInt8)),(Lib.join xs sep).length≤(xs.map fun x=>x.length+2).sum
 |[]=>ez0 _
 |a::r=>by
  rw[Lib.join_cons,ex8]
  have key:∀q:List (List UInt8),(Lib.joinTail sep q).length≤(q.map fun x=>x.length+2).sum:=by
   intro q
   induction q with
   |nil=>exact ez0 _
   |cons b q ih=>
    have hc:Lib.joinTail sep (b::q)=(sep++b)++Lib.joinTail sep q:=rfl;rw[hc,ex8,ex8,fa1,List.sum_cons];omega
  have:=key r;rw[fa1,List.sum_cons];omega
theorem cn2(x:Ex):(opT x).length≤(txE x).length+2:=by
 unfold opT
 cases cl7 x.op<;>simp only[cond_true,cond_false,ex8,ex9,ey5]<;>omega
theorem cn3:∀e:Ex,alE smN e→(txE e).length+4≤1000*nd e:=by
 refine bv4 (P:=fun e=>alE smN e→(txE e).length+4≤1000*nd e) fun op v nm ds ks ih h=>?_
 obtain⟨⟨⟨h1,h2,h3,h4⟩,h5,h6⟩,-⟩:=h.1,h.2;have hk:=cm5 h.2;have hnl:nm.data.toList.length≤200:=by simpa[Ex.nm]using h5
 have hsum:(ks.map fun x=>(txE x).length+4).sum≤1000*ndL ks:=by
  clear h h1 h2 h3 h4 h5 h6
  induction ks with
  |nil=>exact ez6 _
  |cons a r ihr=>
   have:=ih a Oc (hk a Oc);have:=ihr (fun x hx=>ih x (by simp[hx])) (fun x hx=>hk x (by simp[hx]));rw[fa1,List.sum_cons,ndL];omega
 have hj:(Lib.join (txL ks) [44,32]).length≤1000*ndL ks:=by
  refine fb4 (cn1 [44,32] Oc _) (fb4 ?_ hsum);rw[cm3];clear h h1 h2 h3 h4 h5 h6 hsum ih hk
  induction ks with
  |nil=>exact ez0 _
  |cons a r ihr=>simp only[fa1,List.sum_cons];omega
 have hgt:∀j,((txL ks).getD j []).length≤1000*ndL ks:=by
  intro j;rw[cm3,fb6,ey3]
  cases hx:ks[j]? with
  |none=>simp
  |some x=>
   have hm:=ey0 hx;have h1:=ih x hm (hk x hm);have h2:=cd9 hm;simp only[fa6,fd0];omega
 have h01:((opL ks).getD 0 []).length+((opL ks).getD 1 []).length≤1000*ndL ks:=by
  rw[cm4]
  match ks,ih,hk with
  |[],_,_=>simp
  |[a],ih,hk=>
   have:=ih a Oc (hk a Oc);have:=cn2 a;simp[ndL];omega
  |a::b::r,ih,hk=>
   have:=ih a Oc (hk a Oc);have:=ih b Oc (hk b Oc);have:=cn2 a;have:=cn2 b;simp[ndL];omega
 have hcst:op=1→(cl6 v).length≤202:=fun e=>cl9 (h4 e) h6
 have hsg:=cm2 op;have ht0:=hgt 0;rw[nd,txE,txN]
 repeat'(rw[fc3];split)
 all_goals(try simp only[ex8,ex9,ey5])
 all_goals first|omega|(have:=hcst (by simpa using ‹(op==1)=true›);omega)
end Go.Proofs.YtndgolmgaenlfaaGreatDoor
namespace Go.Proofs.YtndgolmgaenlfaaGreatDoor
set_option maxRecDepth 4000
open Go Go.Abs Go.Val Go.RowKit Go.Proofs.Tryz
attribute [local irreducible] go SGo an1 Ev au7 EvO EvS
theorem cn4{l:List Ex}{i:Nat}{x:Ex}(h:l[i]? =some x):by3 ((l.take (i+1)).map txE)=by3 ((l.take i).map txE)++ [.str (bs (txE x))]:=by
 have hi:=(ey1.1 h).1;rw[fh0 hi];rw[ex6 hi]at h
 cases h
 simp only[by3,ff2,fa1,fe4]
structure STe(l:List Ex) where
 i:Nat
 hi:i≤l.length
theorem cn5(l:List Ex)(hT:∀x∈l,Ev E 231 [bu5 x] (.d (.str (bs (txE x)))))(hn:l.length≤1000000)(hlen:(Lib.join (l.map txE) [44,32]).length≤1073741824):
  Ev E 290 [.sl (bu4 l)] (.d (.str (bs (Lib.join (l.map txE) [44,32])))):=by
 have hle:(bu4 l).length=l.length:=bv1 l;have e1:(l.map fun x=>bs (txE x)).map D.str=by3 (l.map txE):=by simp[by3]
 have e2:(l.map fun x=>bs (txE x)).map (·.data.toList)=l.map txE:=by simp[bw9]
 have hj:=by2 (l.map fun x=>bs (txE x)) (bs [44,32]) Og (by rw[e2,bw9];omega);rw[e1,e2,bw9]at hj;refine ye1 func290 ntmps290 fun _ _ _=>?_
 repeat'(first|refine yz ?_|refine yx ?_|(refine yy ?_ ?_<;>intro _)|exact zD|exact zL)
 refine ac7 (α:=STe l) (fun p=>⟨[(3,aw5 (by3 ((l.take p.i).map txE))),(6,.d (.sl (bu4 l))),(7,.d (.int (bu4 l).length)),(8,.d (.int p.i))],aw6 9 1 (by3 ((l.take p.i).map txE))⟩) (fun p=>l.length-p.i) ⟨0,by omega⟩ (by rw[fc7];exact(zle 0)) ?_;rintro⟨i,hi⟩;dsimp only;rcases ex7 i l.length with hlt|hge
 ·have g1:decide ((i:Int)<((bu4 l).length:Int))=true:=by rw[hle];simpa using hlt
  have hx0:=ex6 hlt;generalize l[i]=x at hx0;have hx:(bu4 l)[(i:Int).toNat]? =some (bu5 x):=bu9 (by rw[fb2];exact hx0);have ht:=hT x (ey0 hx0);have hta:=cn4 hx0;have hll:(by3 ((l.take i).map txE)).length≤i:=by simp[by3];omega
  generalize by3 ((l.take i).map txE)=out at*
  match out,hll with
  |[],hll=>
   dsimp only[aw5,aw6]
   repeat'(first|refine yz ?_|refine yi (bu5 x) hx ?_|refine yp bp7 ht ?_|(refine qS rfl ⟨by simp,by simp[D.cells];rfl,by(show(0+1)*16≤140737488355328;omega),by(show 0+1≤9223372036854775807;omega)⟩ ?_)|refine yx ?_|(refine yy ?_ ?_<;>intro _)|exact zD|exact zL)
   refine ac1 ?_;refine⟨⟨i+1,by omega⟩,by dsimp only;omega,?_⟩;dsimp only;rw[hta];exact(bg8 [1])
  |a::q,hll=>
   dsimp only[aw5,aw6]
   repeat'(first|refine yz ?_|refine yi (bu5 x) hx ?_|refine yp bp7 ht ?_|(refine qS rfl ⟨by simp,by simp[D.cells];rfl,by(show((a::q).length+1)*16≤140737488355328;omega),by(show(a::q).length+1≤9223372036854775807;omega)⟩ ?_)|refine yx ?_|(refine yy ?_ ?_<;>intro _)|exact zD|exact zL)
   refine ac1 ?_;refine⟨⟨i+1,by omega⟩,by dsimp only;omega,?_⟩;dsimp only;rw[hta];exact(bg8 [2])
 ·have g1:decide ((i:Int)<((bu4 l).length:Int))=false:=by rw[hle];simp;omega
  rw[ez9 hge];generalize by3 (l.map txE)=out at*
  match out,hj with
  |[],hj=>
   dsimp only[aw5,aw6]
   repeat'(first|refine yz ?_|refine yp b84 hj ?_|refine yx ?_|(refine yy ?_ ?_<;>intro _)|exact zD|exact zL)
  |a::q,hj=>
   dsimp only[aw5,aw6];refine qA ?_;refine au1 0 rfl ?_
   repeat'(first|refine yz ?_|refine yp b84 hj ?_|refine yx ?_|(refine yy ?_ ?_<;>intro _)|exact zD|exact zL)
theorem cn6(x:Ex)(hl:(txE x).length≤1073741824)(h1:Ev E 231 [bu5 x] (.d (.str (bs (txE x))))):Ev E 289 [bu5 x] (.d (.str (bs (opT x)))):=by
 have z1:(bs (txE x)).size=(txE x).length:=bw8 _;have z2:(⟨#[40]⟩:ByteArray).size=1:=rfl;have z3:(⟨#[41]⟩:ByteArray).size=1:=rfl;refine ye1 func289 ntmps289 fun _ _ _=>?_
 repeat'(first|refine yz ?_|refine yp bp7 h1 ?_|refine yx ?_|(refine yy ?_ ?_<;>intro _)|(refine qV rfl ?_ ?_<;>intro _)|exact zD|exact zL)
 all_goals(refine congrArg D.str ?_;simp_all [opT,cl7,fc3];first|done|rfl|(rw[if_neg Oa];first|done|rfl))
set_option maxHeartbeats 4000000 in
theorem cn7:∀e:Ex,alE smN e→nd e≤1000→Ev E 231 [bu5 e] (.d (.str (bs (txE e)))):=by
 refine bv4 (P:=fun e=>alE smN e→nd e≤1000→Ev E 231 [bu5 e] (.d (.str (bs (txE e))))) fun op v nm ds ks ih h hn=>?_
 obtain⟨⟨⟨h1,h2,h3,h4⟩,h5,h6⟩,-⟩:=h.1,h.2;have hk:=cm5 h.2;rw[nd]at hn;have hT:∀x∈ks,Ev E 231 [bu5 x] (.d (.str (bs (txE x)))):=fun x hx=>ih x hx (hk x hx) (by have:=cd9 hx;omega)
 have hZ:∀x∈ks,(txE x).length≤1000000:=fun x hx=>by
  have:=cn3 x (hk x hx);have:=cd9 hx;omega
 have hO:∀x∈ks,Ev E 289 [bu5 x] (.d (.str (bs (opT x)))):=fun x hx=>cn6 x (by have:=hZ x hx;omega) (hT x hx)
 have hOz:∀x∈ks,(bs (opT x)).size≤1000002:=fun x hx=>by
  rw[bw8];have:=cn2 x;have:=hZ x hx;omega
 simp only[Ex.op]at h1 h2;have h5':=h5;replace h5:nm.size≤200:=h5;have hnm:bs nm.data.toList=nm:=bw7 nm;have hkl:kn0 (.mk op v nm ds ks)=(ks.length:Int):=by unfold kn0;rw[bv0];rfl
 have hle:=bv0 (.mk op v nm ds ks);have hks:(Ex.mk op v nm ds ks).ks=ks:=rfl;unfold cd1 at h3;rw[hkl]at h3;simp only[Ex.op,Ex.nm,Ex.ds]at h3;clear h hk ih hkl
 have hnn:ks.length≤ndL ks:=by
  have key:∀l:List Ex,l.length≤ndL l:=by
   intro l
   induction l with
   |nil=>exact ez6 _
   |cons a r ihr=>rw[ndL,ex9,cd8];omega
  exact key ks
 have hJ:(Lib.join (ks.map txE) [44,32]).length≤1073741824:=by
  refine fb4 (cn1 [44,32] Oc _) ?_
  have key:∀l:List Ex,(∀x∈l,(txE x).length≤1000000)→((l.map txE).map fun x=>x.length+2).sum≤1000002*l.length:=by
   intro l
   induction l with
   |nil=>intro _;exact ez6 _
   |cons a r ihr=>
    intro hl;have:=hl a Oc;have:=ihr fun x hx=>hl x (by simp[hx])
    simp only[fa1,List.sum_cons,ex9];omega
  have:=key ks hZ;omega
 have q1:(⟨#[46]⟩:ByteArray).size=1:=rfl;have q2:(⟨#[58]⟩:ByteArray).size=1:=rfl;have q3:(⟨#[78,79,84,32]⟩:ByteArray).size=4:=rfl;have q4:(⟨#[45]⟩:ByteArray).size=1:=rfl;have q5:(⟨#[32,73,83,32,78,85,76,76]⟩:ByteArray).size=8:=rfl;have q6:(⟨#[91]⟩:ByteArray).size=1:=rfl;have q7:(⟨#[93]⟩:ByteArray).size=1:=rfl;have q8:(⟨#[40]⟩:ByteArray).size=1:=rfl;have q9:(⟨#[41]⟩:ByteArray).size=1:=rfl;have q10:(⟨#[40,42,41]⟩:ByteArray).size=3:=rfl;have q11:(⟨#[40,68,73,83,84,73,78,67,84,32]⟩:ByteArray).size=10:=rfl;have q12:(⟨#[32]⟩:ByteArray).size=1:=rfl;have hcase:op=1∨op=2∨op=3∨op=4∨op=5∨op=6∨op=21∨op=22∨op=23∨op=24∨(7≤op∧op≤20):=Oa
 rcases hcase with rfl|rfl|rfl|rfl|rfl|rfl|rfl|rfl|rfl|rfl|hop
 ·have hc:=cm0 v (h4 rfl);rw[txE];refine ye1 func231 ntmps231 fun _ _ _=>?_
  repeat'(first|refine yz ?_|refine yp b288 hc ?_|refine yx ?_|(refine yy ?_ ?_<;>intro _)|exact zD|exact zL)
 ·rw[txE,show txN 2 v nm.data.toList ds (txL ks) (opL ks)=nm.data.toList from rfl,hnm];refine ye1 func231 ntmps231 fun _ _ _=>?_
  exact Ok
 ·have hks2:∃x,ks=[x]:=by
   have:ks.length=1:=by
    have:((ks.length:Int)==1)=true:=h3;simp at this;omega
   match ks,this with
   |[x],_=>exact⟨x,rfl⟩
  obtain⟨x,rfl⟩:=hks2;have hx:(bu3 (.mk 3 v nm ds [x]))[(0:Int).toNat]? =some (bu5 x):=rfl;have hl1:(bu3 (.mk 3 v nm ds [x])).length=1:=rfl;have a1:=hO x Oc;have z1:=hOz x Oc;rw[txE,show txN 3 v nm.data.toList ds (txL [x]) (opL [x])=opT x++ [46]++nm.data.toList from rfl,←bw6,←bw6,hnm];refine ye1 func231 ntmps231 fun _ _ _=>?_
  repeat'(first|refine yz ?_|refine yi (bu5 x) hx ?_|refine yp bq1 a1 ?_|refine yx ?_|(refine yy ?_ ?_<;>intro _)|exact zD|exact zL)
 ·have hks2:∃x,ks=[x]:=by
   have:ks.length=1:=by
    have:((ks.length:Int)==1)=true:=h3;simp at this;omega
   match ks,this with
   |[x],_=>exact⟨x,rfl⟩
  obtain⟨x,rfl⟩:=hks2;have hx:(bu3 (.mk 4 v nm ds [x]))[(0:Int).toNat]? =some (bu5 x):=rfl;have hl1:(bu3 (.mk 4 v nm ds [x])).length=1:=rfl;have a1:=hO x Oc;have z1:=hOz x Oc;rw[txE,show txN 4 v nm.data.toList ds (txL [x]) (opL [x])=opT x++ [58]++nm.data.toList from rfl,←bw6,←bw6,hnm];refine ye1 func231 ntmps231 fun _ _ _=>?_
  repeat'(first|refine yz ?_|refine yi (bu5 x) hx ?_|refine yp bq1 a1 ?_|refine yx ?_|(refine yy ?_ ?_<;>intro _)|exact zD|exact zL)
 ·have hks2:∃x,ks=[x]:=by
   have:ks.length=1:=by
    have:((ks.length:Int)==1)=true:=h3;simp at this;omega
   match ks,this with
   |[x],_=>exact⟨x,rfl⟩
  obtain⟨x,rfl⟩:=hks2;have hx:(bu3 (.mk 5 v nm ds [x]))[(0:Int).toNat]? =some (bu5 x):=rfl;have hl1:(bu3 (.mk 5 v nm ds [x])).length=1:=rfl;have a1:=hO x Oc;have z1:=hOz x Oc;rw[txE,show txN 5 v nm.data.toList ds (txL [x]) (opL [x])=[78,79,84,32]++opT x from rfl,←bw6];refine ye1 func231 ntmps231 fun _ _ _=>?_
  repeat'(first|refine yz ?_|refine yi (bu5 x) hx ?_|refine yp bq1 a1 ?_|refine yx ?_|(refine yy ?_ ?_<;>intro _)|exact zD|exact zL)
 ·have hks2:∃x,ks=[x]:=by
   have:ks.length=1:=by
    have:((ks.length:Int)==1)=true:=h3;simp at this;omega
   match ks,this with
   |[x],_=>exact⟨x,rfl⟩
  obtain⟨x,rfl⟩:=hks2;have hx:(bu3 (.mk 6 v nm ds [x]))[(0:Int).toNat]? =some (bu5 x):=rfl;have hl1:(bu3 (.mk 6 v nm ds [x])).length=1:=rfl;have a1:=hO x Oc;have z1:=hOz x Oc;rw[txE,show txN 6 v nm.data.toList ds (txL [x]) (opL [x])=[45]++opT x from rfl,←bw6];refine ye1 func231 ntmps231 fun _ _ _=>?_
  repeat'(first|refine yz ?_|refine yi (bu5 x) hx ?_|refine yp bq1 a1 ?_|refine yx ?_|(refine yy ?_ ?_<;>intro _)|exact zD|exact zL)
 ·have hks2:∃x,ks=[x]:=by
   have:ks.length=1:=by
    have:((ks.length:Int)==1)=true:=h3;simp at this;omega
   match ks,this with
   |[x],_=>exact⟨x,rfl⟩
  obtain⟨x,rfl⟩:=hks2;have hx:(bu3 (.mk 21 v nm ds [x]))[(0:Int).toNat]? =some (bu5 x):=rfl;have hl1:(bu3 (.mk 21 v nm ds [x])).length=1:=rfl;have a1:=hO x Oc;have z1:=hOz x Oc;rw[txE,show txN 21 v nm.data.toList ds (txL [x]) (opL [x])=opT x++ [32,73,83,32,78,85,76,76]from rfl,←bw6];refine ye1 func231 ntmps231 fun _ _ _=>?_
  repeat'(first|refine yz ?_|refine yi (bu5 x) hx ?_|refine yp bq1 a1 ?_|refine yx ?_|(refine yy ?_ ?_<;>intro _)|exact zD|exact zL)
 ·have hj:Ev E 290 [.sl (bu3 (.mk 22 v nm ds ks))] (.d (.str (bs (Lib.join (ks.map txE) [44,32])))):=cn5 ks hT Oa hJ;rw[txE,cm3,show txN 22 v nm.data.toList ds (ks.map txE) (opL ks)=[91]++Lib.join (ks.map txE) [44,32]++ [93]from rfl,←bw6,←bw6];have z1:(bs (Lib.join (ks.map txE) [44,32])).size≤1073741824:=by rw[bw8];exact hJ
  refine ye1 func231 ntmps231 fun _ _ _=>?_
  repeat'(first|refine yz ?_|refine yp b290 hj ?_|refine yx ?_|(refine yy ?_ ?_<;>intro _)|exact zD|exact zL)
 ·have hj:Ev E 290 [.sl (bu3 (.mk 23 v nm ds ks))] (.d (.str (bs (Lib.join (ks.map txE) [44,32])))):=cn5 ks hT Oa hJ;rw[txE,cm3,show txN 23 v nm.data.toList ds (ks.map txE) (opL ks)=nm.data.toList++ [40]++Lib.join (ks.map txE) [44,32]++ [41]from rfl,←bw6,←bw6,←bw6,hnm];have z1:(bs (Lib.join (ks.map txE) [44,32])).size≤1073741824:=by rw[bw8];exact hJ
  refine ye1 func231 ntmps231 fun _ _ _=>?_
  repeat'(first|refine yz ?_|refine yp b290 hj ?_|refine yx ?_|(refine yy ?_ ?_<;>intro _)|exact zD|exact zL)
 ·have hks2:ks=[]∨∃x,ks=[x]:=by
   have:ks.length=1∨ks.length=0:=by
    have:((ks.length:Int)==1||((ks.length:Int)==0&&(isS nm ⟨#[99,111,117,110,116]⟩ && !ds)))=true:=h3;simp at this;rcases this with h|h
    ·left;omega
    ·right;exact List.length_eq_zero_iff.2 h.1
   match ks,this with
   |[],_=>exact .inl rfl
   |[x],_=>exact .inr ⟨x,rfl⟩
  rcases hks2 with rfl|⟨x,rfl⟩
  ·rw[txE,show txN 24 v nm.data.toList ds (txL []) (opL [])=nm.data.toList++ [40,42,41]from rfl,←bw6,hnm];refine ye1 func231 ntmps231 fun _ _ _=>?_
   exact Ok
  ·have hx:(bu3 (.mk 24 v nm ds [x]))[(0:Int).toNat]? =some (bu5 x):=rfl;have ht:=hT x Oc;have z1:(bs (txE x)).size≤1000000:=by rw[bw8];exact hZ x Oc
   skip
   cases ds with
   |true=>
    rw[txE,show txN 24 v nm.data.toList true (txL [x]) (opL [x])=nm.data.toList++ [40,68,73,83,84,73,78,67,84,32]++txE x++ [41] by simp[txN,txL],←bw6,←bw6,←bw6,hnm];refine ye1 func231 ntmps231 fun _ _ _=>?_
    repeat'(first|refine yz ?_|refine yi (bu5 x) hx ?_|refine yp bp7 ht ?_|refine yx ?_|(refine yy ?_ ?_<;>intro _)|exact zD|exact zL)
   |false=>
    rw[txE,show txN 24 v nm.data.toList false (txL [x]) (opL [x])=nm.data.toList++ [40]++txE x++ [41] by simp[txN,txL],←bw6,←bw6,←bw6,hnm];refine ye1 func231 ntmps231 fun _ _ _=>?_
    repeat'(first|refine yz ?_|refine yi (bu5 x) hx ?_|refine yp bp7 ht ?_|refine yx ?_|(refine yy ?_ ?_<;>intro _)|exact zD|exact zL)
 ·have n1:(op==1)=false:=by simp;omega
  have n2:(op==2)=false:=Og
  have n3:(op==3)=false:=Og
  have n4:(op==4)=false:=Og
  have n5:(op==5)=false:=Og
  have n6:(op==6)=false:=Og
  have n21:(op==21)=false:=Og
  have n22:(op==22)=false:=Og
  have n23:(op==23)=false:=Og
  have n24:(op==24)=false:=Og
  have hks2:∃x y,ks=[x,y]:=by
   rw[n1,n2,n3,n4,n5,n6,n21,n22,n23,n24]at h3;have:ks.length=2:=by simp at h3;omega
   match ks,this with
   |[x,y],_=>exact⟨x,y,rfl⟩
  obtain⟨x,y,rfl⟩:=hks2;have hx:(bu3 (.mk op v nm ds [x,y]))[(0:Int).toNat]? =some (bu5 x):=rfl;have hy:(bu3 (.mk op v nm ds [x,y]))[(1:Int).toNat]? =some (bu5 y):=rfl;have hl2:(bu3 (.mk op v nm ds [x,y])).length=2:=rfl;have a1:=hO x Oc;have a2:=hO y Oc;have z1:=hOz x Oc;have z2:=hOz y Oc;have a3:=cm1 op;have z3:(bs (sgT op)).size≤3:=by rw[bw8];exact cm2 op
  rw[txE,show txN op v nm.data.toList ds (txL [x,y]) (opL [x,y])=opT x++ [32]++sgT op++ [32]++opT y by simp[txN,opL,opT,n1,n2,n3,n4,n5,n6,n21,n22,n23,n24],←bw6,←bw6,←bw6,←bw6];refine ye1 func231 ntmps231 fun _ _ _=>?_
  repeat'(first|refine yz ?_|refine yi (bu5 x) hx ?_|refine yi (bu5 y) hy ?_|refine yp bq1 a1 ?_|refine yp bq1 a2 ?_|refine yp b291 a3 ?_|refine yx ?_|(refine yy ?_ ?_<;>intro _)|exact zD|exact zL)
theorem cn8{α:Type}{l:List α}{i:Nat}{x:α}(h:l[i]? =some x):l.drop i=x::l.drop (i+1):=by
 obtain⟨hi,rfl⟩:=ey1.1 h;exact List.drop_eq_getElem_cons hi
theorem cn9{α:Type}{f:α→D}{l:List α}{i:Nat}{x:α}(h:l[i]? =some x):(l.map f)[((i:Nat):Int).toNat]? =some (f x):=by
 rw[show((i:Nat):Int).toNat=i by omega,ey3,h];rfl
theorem co0{α:Type}{f:α→D}{l:List α}(h:Fit (.sl (l.map f))):l.length≤9223372036854775807∧∀x∈l,Fit (f x):=by
 obtain⟨h1,h2⟩:=h.sls;exact⟨by simpa using h1,fun x hx=>h2 _ (ey6.2 ⟨x,hx,rfl⟩)⟩
def co1:Option Nat→Int|some i=>(i:Int)|none=> -1
theorem co2{α:Type}{l:List α}{f:α→Bool}{i:Nat}{x:α}(hx:l[i]? =some x)(hc:f x=true)(h:∀j,j<i→∀y,l[j]? =some y→f y=false):l.findIdx? f=some i:=by
 have hi:=(ey1.1 hx).1;rw[fh7];refine⟨hi,?_,fun j hj=>?_⟩
 ·rw[ex6 hi]at hx
  cases hx
  exact hc
 ·have:=h j hj _ (ex6 Oa);simpa using this
theorem co3{α:Type}{l:List α}{f:α→Bool}(h:∀j,j<l.length→∀y,l[j]? =some y→f y=false):l.findIdx? f=none:=by
 rw[fh8];intro x hx;obtain⟨j,hj⟩:=ez7 hx;exact h j (ey1.1 hj).1 x hj
theorem co4{α:Type}{l:List α}{f:α→Bool}:decide (co1 (l.findIdx? f)≥0)=l.any f:=by
 cases h:l.findIdx? f with
 |none=>
  rw[fh8]at h;have:l.any f=false:=by rw[fc2];intro x hx;simpa using h x hx
  rw[this];rfl
 |some i=>
  obtain⟨hi,h1,-⟩:=fh7.1 h;have:l.any f=true:=fg7.2 ⟨_,fd6 hi,h1⟩;rw[this];simp[co1]
structure SFc{α:Type}(l:List α)(f:α→Bool) where
 i:Nat
 hi:i≤l.length
 ok:∀j,j<i→∀y,l[j]? =some y→f y=false
theorem SFc.next{α:Type}{l:List α}{f:α→Bool}{i:Nat}{x:α}(hx:l[i]? =some x)(hc:f x=false)(h:∀j,j<i→∀y,l[j]? =some y→f y=false):∀j,j<i+1→∀y,l[j]? =some y→f y=false:=by
 intro j hj y hy;rcases Nat.lt_succ_iff_lt_or_eq.1 hj with h1|rfl
 ·exact h j h1 y hy
 ·rw[hx]at hy;cases hy;exact hc
theorem co5(fn:FuncId)(hb:an1 E fn)(f:ByteArray→Bool)(l:List (ByteArray))(hf:∀x∈l,Ev E fn [D.str x] (.d (.bool (f x)))):Ev E 187 [.sl (l.map D.str),.imm (.func (.func fn) #[] #[])] (.d (.int (co1 (l.findIdx? f)))):=Ev.fit fun hfit=>by
 have hmax:=(co0 (hfit (.sl (l.map D.str)) Oc)).1;have hle:(l.map D.str).length=l.length:=Oc
 refine ye2 func187 ntmps187 fun _ _ _=>?_
 repeat'(refine yz ?_)
 refine ac7 (α:=SFc l f) (fun p=>⟨[(0,.d (.sl (l.map D.str))),(1,.d (.imm (.func (.func fn) #[] #[]))),(7,.d (.int (l.map D.str).length)),(8,.d (.int p.i))],[]⟩) (fun p=>l.length-p.i) ⟨0,by omega,fun j hj=>absurd hj Oa⟩ (zle 0) ?_;rintro⟨i,hi,ok⟩;dsimp only;rcases ex7 i l.length with hlt|hge
 ·have g1:decide ((i:Int)<((l.map D.str).length:Int))=true:=by rw[hle];simpa using hlt
  have hx0:=ex6 hlt;generalize l[i]=y at hx0;have hx:=cn9 (f:=D.str) hx0;have h:=hf y (ey0 hx0)
  cases hc:f y with
  |true=>
   rw[hc]at h;rw[co2 hx0 hc ok]
   repeat'(first|refine yz ?_|refine yi (D.str y) hx ?_|refine yp hb h ?_|exact zD)
  |false=>
   rw[hc]at h
   repeat'(first|refine yz ?_|refine yi (D.str y) hx ?_|refine yp hb h ?_)
   refine ac1 ?_;exact⟨⟨i+1,by omega,SFc.next hx0 hc ok⟩,by dsimp only;omega,(zle 0)⟩
 ·have g1:decide ((i:Int)<((l.map D.str).length:Int))=false:=by rw[hle];simp;omega
  rw[co3 fun j hj=>ok j Oa]
  exact Ok
theorem co6(fn:FuncId)(hb:an1 E fn)(f:ByteArray→Bool)(l:List (ByteArray))(hf:∀x∈l,Ev E fn [D.str x] (.d (.bool (f x)))):Ev E 120 [.sl (l.map D.str),.imm (.func (.func fn) #[] #[])] (.d (.bool (l.any f))):=by
 have h:=co5 fn hb f l hf;rw[←co4];refine ye2 func120 ntmps120 fun _ _ _=>?_
 repeat'(first|refine yz ?_|refine yp b187 h ?_|exact zD)
theorem co7(fn:FuncId)(hb:an1 E fn)(f:Ex→Bool)(l:List (Ex))(hf:∀x∈l,Ev E fn [bu5 x] (.d (.bool (f x)))):Ev E 130 [.sl (l.map bu5),.imm (.func (.func fn) #[] #[])] (.d (.int (co1 (l.findIdx? f)))):=Ev.fit fun hfit=>by
 have hmax:=(co0 (hfit (.sl (l.map bu5)) Oc)).1;have hle:(l.map bu5).length=l.length:=Oc
 refine ye2 func130 ntmps130 fun _ _ _=>?_
 repeat'(refine yz ?_)
 refine ac7 (α:=SFc l f) (fun p=>⟨[(0,.d (.sl (l.map bu5))),(1,.d (.imm (.func (.func fn) #[] #[]))),(7,.d (.int (l.map bu5).length)),(8,.d (.int p.i))],[]⟩) (fun p=>l.length-p.i) ⟨0,by omega,fun j hj=>absurd hj Oa⟩ (zle 0) ?_;rintro⟨i,hi,ok⟩;dsimp only;rcases ex7 i l.length with hlt|hge
 ·have g1:decide ((i:Int)<((l.map bu5).length:Int))=true:=by rw[hle];simpa using hlt
  have hx0:=ex6 hlt;generalize l[i]=y at hx0;have hx:=cn9 (f:=bu5) hx0;have h:=hf y (ey0 hx0)
  cases hc:f y with
  |true=>
   rw[hc]at h;rw[co2 hx0 hc ok]
   repeat'(first|refine yz ?_|refine yi (bu5 y) hx ?_|refine yp hb h ?_|exact zD)
  |false=>
   rw[hc]at h
   repeat'(first|refine yz ?_|refine yi (bu5 y) hx ?_|refine yp hb h ?_)
   refine ac1 ?_;exact⟨⟨i+1,by omega,SFc.next hx0 hc ok⟩,by dsimp only;omega,(zle 0)⟩
 ·have g1:decide ((i:Int)<((l.map bu5).length:Int))=false:=by rw[hle];simp;omega
  rw[co3 fun j hj=>ok j Oa]
  exact Ok
theorem co8(fn:FuncId)(hb:an1 E fn)(f:Ex→Bool)(l:List (Ex))(hf:∀x∈l,Ev E fn [bu5 x] (.d (.bool (f x)))):Ev E 67 [.sl (l.map bu5),.imm (.func (.func fn) #[] #[])] (.d (.bool (l.any f))):=by
 have h:=co7 fn hb f l hf;rw[←co4];refine ye2 func67 ntmps67 fun _ _ _=>?_
 repeat'(first|refine yz ?_|refine yp b130 h ?_|exact zD)
theorem co9(fn:FuncId)(hb:an1 E fn)(f:EP→Bool)(l:List (EP))(hf:∀x∈l,Ev E fn [ci7 x] (.d (.bool (f x)))):Ev E 266 [.sl (l.map ci7),.imm (.func (.func fn) #[] #[])] (.d (.int (co1 (l.findIdx? f)))):=Ev.fit fun hfit=>by
 have hmax:=(co0 (hfit (.sl (l.map ci7)) Oc)).1;have hle:(l.map ci7).length=l.length:=Oc
 refine ye2 func266 ntmps266 fun _ _ _=>?_
 repeat'(refine yz ?_)
 refine ac7 (α:=SFc l f) (fun p=>⟨[(0,.d (.sl (l.map ci7))),(1,.d (.imm (.func (.func fn) #[] #[]))),(7,.d (.int (l.map ci7).length)),(8,.d (.int p.i))],[]⟩) (fun p=>l.length-p.i) ⟨0,by omega,fun j hj=>absurd hj Oa⟩ (zle 0) ?_;rintro⟨i,hi,ok⟩;dsimp only;rcases ex7 i l.length with hlt|hge
 ·have g1:decide ((i:Int)<((l.map ci7).length:Int))=true:=by rw[hle];simpa using hlt
  have hx0:=ex6 hlt;generalize l[i]=y at hx0;have hx:=cn9 (f:=ci7) hx0;have h:=hf y (ey0 hx0)
  cases hc:f y with
  |true=>
   rw[hc]at h;rw[co2 hx0 hc ok]
   repeat'(first|refine yz ?_|refine yi (ci7 y) hx ?_|refine yp hb h ?_|exact zD)
  |false=>
   rw[hc]at h
   repeat'(first|refine yz ?_|refine yi (ci7 y) hx ?_|refine yp hb h ?_)
   refine ac1 ?_;exact⟨⟨i+1,by omega,SFc.next hx0 hc ok⟩,by dsimp only;omega,(zle 0)⟩
 ·have g1:decide ((i:Int)<((l.map ci7).length:Int))=false:=by rw[hle];simp;omega
  rw[co3 fun j hj=>ok j Oa]
  exact Ok
theorem cp0(fn:FuncId)(hb:an1 E fn)(f:EP→Bool)(l:List (EP))(hf:∀x∈l,Ev E fn [ci7 x] (.d (.bool (f x)))):Ev E 196 [.sl (l.map ci7),.imm (.func (.func fn) #[] #[])] (.d (.bool (l.any f))):=by
 have h:=co9 fn hb f l hf;rw[←co4];refine ye2 func196 ntmps196 fun _ _ _=>?_
 repeat'(first|refine yz ?_|refine yp b266 h ?_|exact zD)
theorem cp1:∀a b:List UInt8,(Op.bytesLess a b=true∧Op.bytesLess b a=false∧a≠b)∨(Op.bytesLess a b=false∧Op.bytesLess b a=true∧a≠b)∨(Op.bytesLess a b=false∧Op.bytesLess b a=false∧a=b)
 |[],[]=>.inr (.inr ⟨rfl,rfl,rfl⟩)
 |[],_::_=>.inl ⟨rfl,rfl,by simp⟩
 |_::_,[]=>.inr (.inl ⟨rfl,rfl,by simp⟩)
 |x::a,y::b=>by
  have ih:=cp1 a b;simp only[Op.bytesLess];rcases Nat.lt_trichotomy x.toNat y.toNat with h|h|h
  ·have h1:x<y:=h;have h2: ¬ y<x:=fun h'=>Nat.lt_asymm h h'
   have h3:x≠y:=fun e=>by subst e;omega
   have h4:(y==x)=false:=by rw[beq_eq_false_iff_ne];exact fun e=>h3 e.symm
   left;refine⟨by simp[h1],by simp[h2,h4],fun e=>h3 (List.cons.inj e).1⟩
  ·have e:x=y:=UInt8.toNat_inj.1 h;subst e;have h2: ¬ x<x:=fun h'=>ff6 _ h'
   simp only[h2,decide_false,beq_self_eq_true,fc1,fc8];rcases ih with⟨i1,i2,i3⟩|⟨i1,i2,i3⟩|⟨i1,i2,i3⟩
   ·exact .inl ⟨i1,i2,fun e=>i3 (List.cons.inj e).2⟩
   ·exact .inr (.inl ⟨i1,i2,fun e=>i3 (List.cons.inj e).2⟩)
   ·exact .inr (.inr ⟨i1,i2,by rw[i3]⟩)
  ·have h1:y<x:=h;have h2: ¬ x<y:=fun h'=>Nat.lt_asymm h h'
   have h3:x≠y:=fun e=>by subst e;omega
   have h4:(x==y)=false:=by rw[beq_eq_false_iff_ne];exact h3
   right;left;refine⟨by simp[h2,h4],by simp[h1],fun e=>h3 (List.cons.inj e).1⟩
theorem cp2(a b:ByteArray):(Op.bytesLess b.toList a.toList||b.toList==a.toList)= !Op.bytesLess a.toList b.toList:=by
 rcases cp1 a.toList b.toList with⟨h1,h2,h3⟩|⟨h1,h2,h3⟩|⟨h1,h2,h3⟩
 ·rw[h1,h2,show(b.toList==a.toList)=false by rw[beq_eq_false_iff_ne];exact fun e=>h3 e.symm];rfl
 ·rw[h1,h2];rfl
 ·rw[h1,h2,h3];simp
structure SRc(l:List ByteArray) where
 i:Nat
 hi:i+1≤l.length
 ok:cj5 l=cj5 (l.drop i)
theorem cp3{l:List ByteArray}{i:Nat}{a b:ByteArray}(ha:l[i]? =some a)(hb:l[i+1]? =some b):cj5 (l.drop i)=(Op.bytesLess a.toList b.toList&&cj5 (l.drop (i+1))):=by
 rw[cn8 ha,cn8 hb];rfl
theorem cp4{l:List ByteArray}{i:Nat}(h:i+1=l.length):cj5 (l.drop i)=true:=by
 obtain⟨a,ha⟩:∃a,l[i]? =some a:=⟨_,ex6 Oa⟩;rw[cn8 ha,ez5 Oa];rfl
theorem cp5(l:List ByteArray):Ev E 203 [.sl (l.map .str)] (.d (.bool (cj5 l))):=Ev.fit fun hfit=>by
 have hmax:=(co0 (hfit (.sl (l.map .str)) Oc)).1;have hle:(l.map D.str).length=l.length:=Oc
 by_cases h0:l=[]
 ·subst h0;refine ye1 func203 ntmps203 fun _ _ _=>?_
  repeat'(refine yz ?_)
  refine ac7 (α:=Unit) (fun p=>⟨[(0,.d (.sl [])),(3,.d (.int 1))],[]⟩) (fun p=>0) () (zle 0) ?_;rintro-;have g1:decide ((1:Int)<(([]:List D).length:Int))=false:=rfl
  exact Ok
 have hp:=List.length_pos_iff.2 h0;refine ye1 func203 ntmps203 fun _ _ _=>?_
 repeat'(refine yz ?_)
 refine ac7 (α:=SRc l) (fun p=>⟨[(0,.d (.sl (l.map .str))),(3,.d (.int ((p.i+1:Nat):Int)))],[]⟩) (fun p=>l.length-p.i) ⟨0,by omega,rfl⟩ (zle 0) ?_;rintro⟨i,hi,ok⟩;dsimp only;rcases ex7 (i+1) l.length with hlt|hge
 ·have g1:decide (((i+1:Nat):Int)<((l.map D.str).length:Int))=true:=by rw[hle];simp;omega
  have ha0:=ex6 (show i<l.length by omega);have hb0:=ex6 hlt;generalize l[i]=a at ha0;generalize l[i+1]=b at hb0;have hb:=cn9 (f:=D.str) hb0
  have ha:(l.map D.str)[(((i+1:Nat):Int) -1).toNat]? =some (.str a):=by
   rw[show(((i+1:Nat):Int) -1)=(i:Int) by omega];exact cn9 (f:=D.str) ha0
  have g2:=cp2 a b;rw[ok,cp3 ha0 hb0]
  cases hc:Op.bytesLess a.toList b.toList with
  |true=>
   have hcn:(!Op.bytesLess a.toList b.toList)=false:=by rw[hc];rfl
   rw[hc]at g2
   repeat'(first|refine yz ?_|refine yi (.str b) hb ?_|refine yi (.str a) ha ?_)
   refine ac1 ?_;exact⟨⟨i+1,hlt,by rw[ok,cp3 ha0 hb0,hc];rfl⟩,by dsimp only;omega,(zle 0)⟩
  |false=>
   have hcn:(!Op.bytesLess a.toList b.toList)=true:=by rw[hc];rfl
   rw[hc]at g2
   repeat'(first|refine yz ?_|refine yi (.str b) hb ?_|refine yi (.str a) ha ?_|exact zD)
 ·have g1:decide (((i+1:Nat):Int)<((l.map D.str).length:Int))=false:=by rw[hle];simp;omega
  rw[ok,cp4 Oa]
  exact Ok
theorem cp6(s:ByteArray):Ev E 268 [.str s] (.d (.bool (!ch2 s))):=by
 have h:=ch4 s;refine ye1 func268 ntmps268 fun _ _ _=>?_
 repeat'(first|refine yz ?_|refine yp bp5 h ?_|exact zD)
theorem cp7(l:List ByteArray):Ev E 201 [.sl (l.map .str)] (.d (.bool (l.all ch2))):=by
 have h:=co6 268 b268 (fun s=> !ch2 s) l fun s _=>cp6 s
 have e:(!(l.any fun s=> !ch2 s))=l.all ch2:=by rw[List.not_any_eq_all_not];simp
 rw[←e];refine ye1 func201 ntmps201 fun _ _ _=>?_
 repeat'(first|refine yz ?_|refine yp b120 h ?_|exact zD)
theorem cp8(e:Ex):bu3 e=e.ks.map bu5:=by
 obtain⟨op,v,nm,ds,ks⟩:=e;show bu4 ks=ks.map bu5
 induction ks with
 |nil=>rfl
 |cons x r ih=>simp only[bu4,fa1,ih];rfl
theorem cp9(op:Int)(v:V)(nm:ByteArray)(ds:Bool)(ks:List Ex):cj3 (.mk op v nm ds ks)=(op==24||ks.any cj3):=by
 have:hagL ks=ks.any cj3:=by
  induction ks with
  |nil=>rfl
  |cons x r ih=>rw[hagL,ih];rfl
 rw[cj3,this]
theorem cq0(e:Ex):Ev E 63 [bu5 e] (.d (.bool (cj3 e))):=by
 refine bv4 (P:=fun e=>Ev E 63 [bu5 e] (.d (.bool (cj3 e)))) (fun op v nm ds ks ih=>?_) e;have h:=co8 63 b63 cj3 ks ih;have hk:=cp8 (.mk op v nm ds ks);simp only[Ex.ks]at hk;rw[←hk]at h;rw[cp9]
 cases c1:op==24 with
 |true=>
  refine ye1 func63 ntmps63 fun _ _ _=>?_
  exact Ok
 |false=>
  refine ye1 func63 ntmps63 fun _ _ _=>?_
  repeat'(first|refine yz ?_|refine yp b67 h ?_|refine yx ?_|exact zD)
theorem cq1(e:EP):Ev E 198 [ci7 e] (.d (.bool (cj8 e))):=by
 obtain⟨vr,ty,dir,mode,mn,mx,ps⟩:=e;refine ye1 func198 ntmps198 fun _ _ _=>?_
 repeat'(first|refine yz ?_|(refine yy ?_ ?_<;>intro _)|(refine qV rfl ?_ ?_<;>intro _))
 all_goals(refine congrArg D.bool ?_;simp_all [cj8,fc3])
 all_goals first|omega|(rw[fa4];simp;omega)
theorem cq2(e:EP):Ev E 205 [ci7 e] (.d (.bool (cj9 e))):=by
 obtain⟨vr,ty,dir,mode,mn,mx,ps⟩:=e;have hl:(ty.map D.str).length=ty.length:=Oc
 refine ye1 func205 ntmps205 fun _ _ _=>?_
 repeat'(first|refine yz ?_|(refine yy ?_ ?_<;>intro _))
 all_goals(refine congrArg D.bool ?_;simp_all [cj9])
 all_goals first|omega|(rw[fa4];simp;omega)
theorem cq3(e:EP):Ev E 197 [ci7 e] (.d (.bool (!cj8 e))):=by
 have h:=cq1 e;refine ye1 func197 ntmps197 fun _ _ _=>?_
 repeat'(first|refine yz ?_|refine yp b198 h ?_|exact zD)
theorem cq4(e:EP):Ev E 204 [ci7 e] (.d (.bool (!cj9 e))):=by
 have h:=cq2 e;refine ye1 func204 ntmps204 fun _ _ _=>?_
 repeat'(first|refine yz ?_|refine yp b205 h ?_|exact zD)
structure SKy(l:List PP) where
 i:Nat
 hi:i≤l.length
theorem cq5{l:List PP}{i:Nat}{x:PP}(h:l[i]? =some x):(cj4 (l.take (i+1))).map D.str=(cj4 (l.take i)).map D.str++ [.str x.key]:=by
 rw[fc0,h];simp[cj4]
theorem cq6(l:List PP)(hl:l.length≤1000000):Ev E 202 [.sl (l.map ci5)] (.d (.sl ((cj4 l).map .str))):=by
 have hle:(l.map ci5).length=l.length:=Oc
 refine ye1 func202 ntmps202 fun _ _ _=>?_
 repeat'(refine yz ?_)
 refine ac7 (α:=SKy l) (fun p=>⟨[(3,bf7 0 ((cj4 (l.take p.i)).map .str)),(6,.d (.sl (l.map ci5))),(7,.d (.int (l.map ci5).length)),(8,.d (.int p.i))],aw6 9 1 ((cj4 (l.take p.i)).map .str)⟩) (fun p=>l.length-p.i) ⟨0,by omega⟩ (zle 0) ?_;rintro⟨i,hi⟩;dsimp only;have hol:((cj4 (l.take i)).map D.str).length≤1000000:=by simp[cj4];omega
 rcases ex7 i l.length with hlt|hge
 ·have g1:decide ((i:Int)<((l.map ci5).length:Int))=true:=by rw[hle];simpa using hlt
  have hx0:=ex6 hlt;generalize l[i]=x at hx0;have hx:=cn9 (f:=ci5) hx0;have hnx:=cq5 hx0;generalize(cj4 (l.take i)).map D.str=o at*
  match o,hol with
  |[],hol=>
   dsimp only[bf7,aw6]
   repeat'(first|refine yz ?_|refine yi (ci5 x) hx ?_|(refine qS rfl ⟨by simp,fun d hd=>by(obtain rfl:=ez3.1 hd;rfl),by(show(0+1)*16≤140737488355328;omega),by(show 0+1≤9223372036854775807;omega)⟩ ?_))
   refine ac1 ?_;refine⟨⟨i+1,by omega⟩,by dsimp only;omega,?_⟩;dsimp only;rw[hnx];exact(bg8 [1])
  |a::q,hol=>
   dsimp only[bf7,aw6]
   repeat'(first|refine yz ?_|refine yi (ci5 x) hx ?_|(refine qS rfl ⟨by simp,fun d hd=>by(obtain rfl:=ez3.1 hd;rfl),by(show((a::q).length+1)*16≤140737488355328;omega),by(show(a::q).length+1≤9223372036854775807;omega)⟩ ?_))
   refine ac1 ?_;refine⟨⟨i+1,by omega⟩,by dsimp only;omega,?_⟩;dsimp only;rw[hnx];exact(bg8 [2])
 ·have g1:decide ((i:Int)<((l.map ci5).length:Int))=false:=by rw[hle];simp;omega
  rw[ez9 hge];generalize(cj4 l).map D.str=o at*
  match o with
  |[]=>
   dsimp only[bf7,aw6]
   exact Ok
  |a::q=>
   dsimp only[bf7,aw6];refine qA ?_;refine au1 0 rfl ?_
   exact Ok
structure SLo(l:List EP) where
 i:Nat
 n:Int
 hi:i≤l.length
 h0:0≤n
 h1:n≤13*i
 ok:hopS l=(l.drop i).foldl (fun n e=>n+cj6 e) n
theorem cq7(e:EP):0≤cj6 e∧cj6 e≤13:=by
 unfold cj6
 cases e.mode==0<;>simp<;>omega
theorem cq8(p:PA):Ev E 195 [ci8 p] (.d (.bool (cj7 p))):=Ev.fit fun hfit=>by
 obtain⟨vr,ns,es⟩:=p;have hft:=hfit (ci8 ⟨vr,ns,es⟩) Oc;have hmn:=(co0 (hft.aggs (.sl (ns.map ci6)) Oc)).1;have hme:=(co0 (hft.aggs (.sl (es.map ci7)) Oc)).1;have hln:(ns.map ci6).length=ns.length:=Oc
 have hle:(es.map ci7).length=es.length:=Oc
 unfold cj7;dsimp only
 cases c1:ns.length==0 with
 |true=>
  have g1:(((ns.map ci6).length:Int)==0)=true:=by rw[hln];simp at c1 ⊢;omega
  refine ye1 func195 ntmps195 fun _ _ _=>?_
  exact Ok
 |false=>
  have g1:(((ns.map ci6).length:Int)==0)=false:=by rw[hln];simp at c1 ⊢;omega
  cases c2:decide (es.length>6)with
  |true=>
   have g2:decide (((es.map ci7).length:Int)>6)=true:=by rw[hle];simp at c2 ⊢;omega
   refine ye1 func195 ntmps195 fun _ _ _=>?_
   exact Ok
  |false=>
   have g2:decide (((es.map ci7).length:Int)>6)=false:=by rw[hle];simp at c2 ⊢;omega
   have h6:es.length≤6:=by simp at c2;omega
   rw[fc8,fc8];refine ye1 func195 ntmps195 fun _ _ _=>?_
   repeat'(first|refine yz ?_|refine yx ?_)
   refine ac7 (α:=SLo es) (fun p=>⟨[(3,.d (.int p.n)),(17,.d (.sl (es.map ci7))),(18,.d (.int (es.map ci7).length)),(19,.d (.int p.i))],[]⟩) (fun p=>es.length-p.i) ⟨0,0,by omega,by omega,by omega,rfl⟩ (zle 0) ?_;rintro⟨i,n,hi,h0,h1,ok⟩;dsimp only at ok ⊢;rcases ex7 i es.length with hlt|hge
   ·have g3:decide ((i:Int)<((es.map ci7).length:Int))=true:=by rw[hle];simpa using hlt
    have hx0:=ex6 hlt;generalize es[i]=e at hx0;have hx:=cn9 (f:=ci7) hx0;have hr:=cq7 e;rw[cn8 hx0,fb7]at ok
    cases c3:e.mode==0 with
    |true=>
     have hn:cj6 e=1:=by unfold cj6;rw[c3];rfl
     rw[hn]at ok
     repeat'(first|refine yz ?_|refine yi (ci7 e) hx ?_)
     refine ac1 ?_;exact⟨⟨i+1,n+1,by omega,by omega,by omega,ok⟩,by dsimp only;omega,(zle 0)⟩
    |false=>
     have hn:cj6 e=min (max e.mx 0) 13:=by unfold cj6;rw[c3];rfl
     rw[hn]at ok hr;have hin:inR .i64 (n+min (max e.mx 0) 13):=by simp only[inR];omega
     repeat'(first|refine yz ?_|refine yi (ci7 e) hx ?_)
     refine ac1 ?_;exact⟨⟨i+1,n+min (max e.mx 0) 13,by omega,by omega,by omega,ok⟩,by dsimp only;omega,(zle 0)⟩
   ·have g3:decide ((i:Int)<((es.map ci7).length:Int))=false:=by rw[hle];simp;omega
    have hn:hopS es=n:=by rw[ok,ez5 hge];rfl
    rw[hn]
    exact Ok
end Go.Proofs.YtndgolmgaenlfaaGreatDoor
namespace Go.Proofs.YtndgolmgaenlfaaGreatDoor
set_option maxRecDepth 4000
open Go Go.Abs Go.Val Go.RowKit Go.Proofs.Tryz
def ltP(a b:ByteArray):Bool:=Op.bytesLess a.toList b.toList
theorem cq9:∀a b c:List UInt8,Op.bytesLess a b=true→Op.bytesLess b c=true→Op.bytesLess a c=true
 |_,[],_,h,_=>by rename_i a _ _;cases a<;>simp[Op.bytesLess]at h
 |_,_::_,[],_,h=>by simp[Op.bytesLess]at h
 |[],_::_,_::_,_,_=>rfl
 |x::a,y::b,z::c,h1,h2=>by
  simp only[Op.bytesLess,fa2,ey9,decide_eq_true_eq,beq_iff_eq]at h1 h2 ⊢;rcases h1 with p|⟨p,p'⟩
  ·have p0:x.toNat<y.toNat:=p;rcases h2 with q|⟨q,-⟩
   ·have q0:y.toNat<z.toNat:=q;exact .inl (show x.toNat<z.toNat by omega)
   ·subst q;exact .inl p
  ·subst p;rcases h2 with q|⟨q,q'⟩
   ·exact .inl q
   ·exact .inr ⟨q,cq9 a b c p' q'⟩
theorem cr0{a b:ByteArray}(h:a.toList=b.toList):a=b:=by
 rw[ByteArray.toList_eq,ByteArray.toList_eq]at h;exact ByteArray.ext (Array.toList_inj.1 h)
theorem cr1(a b:ByteArray):(a.toList==b.toList)=decide (a=b):=by
 rw[fa4,beq_iff_eq,decide_eq_true_eq];exact⟨cr0,fun h=>by rw[h]⟩
theorem cr2{a b c:ByteArray}(h1:ltP a b=true)(h2:ltP b c=true):ltP a c=true:=cq9 _ _ _ h1 h2
theorem cr3(a:ByteArray):ltP a a=false:=by
 unfold ltP;rcases cp1 a.toList a.toList with⟨-,-,h⟩|⟨-,-,h⟩|⟨h,-,-⟩
 ·exact absurd rfl h
 ·exact absurd rfl h
 ·exact h
theorem cr4(a b:ByteArray):ltP a b=true∨a=b∨ltP b a=true:=by
 unfold ltP;rcases cp1 a.toList b.toList with⟨h,-,-⟩|⟨-,h,-⟩|⟨-,-,h⟩
 ·exact .inl h
 ·exact .inr (.inr h)
 ·exact .inr (.inl (cr0 h))
theorem cr5{a b:ByteArray}(h:ltP a b=true):a≠b:=fun e=>by rw[e,cr3]at h;cases h
theorem cr6{a b:ByteArray}(h:ltP a b=true):ltP b a=false:=by
 cases h2:ltP b a with
 |false=>rfl
 |true=>rw[←cr3 a];exact(cr2 h h2).symm
abbrev cr7(l:List ByteArray):Prop:=l.Pairwise fun a b=>ltP a b=true
def cr8(s:ByteArray):List ByteArray→List ByteArray
 |[]=>[s]
 |x::r=>bif ltP x s then x::cr8 s r else bif x.toList==s.toList then x::r else s::x::r
theorem cr9{s y:ByteArray}:∀{l:List ByteArray},y∈cr8 s l↔y=s∨y∈l
 |[]=>by simp[cr8]
 |x::r=>by
  have ih:=cr9 (s:=s) (y:=y) (l:=r);unfold cr8
  cases h1:ltP x s with
  |true=>rw[cond_true,ey2,ih,ey2];exact or_left_comm
  |false=>
   rw[cond_false]
   cases h2:x.toList==s.toList with
   |true=>
    obtain rfl:=cr0 (by simpa using h2:x.toList=s.toList);rw[cond_true,ey2];exact⟨.inr,fun h=>h.elim .inl id⟩
   |false=>rw[cond_false,ey2]
theorem cs0{s:ByteArray}:∀{l:List ByteArray},cr7 l→cr7 (cr8 s l)
 |[],_=>List.pairwise_singleton _ _
 |x::r,h=>by
  rw[cr7,fh3]at h;unfold cr8
  cases h1:ltP x s with
  |true=>
   rw[cond_true,cr7,fh3];refine⟨fun y hy=>?_,cs0 h.2⟩;rcases cr9.1 hy with rfl|hy
   ·exact h1
   ·exact h.1 y hy
  |false=>
   rw[cond_false]
   cases h2:x.toList==s.toList with
   |true=>rw[cond_true];exact fh3.2 h
   |false=>
    have h3:ltP s x=true:=by
     rcases cr4 x s with h|h|h
     ·rw[h]at h1;cases h1
     ·rw[h,beq_self_eq_true]at h2;cases h2
     ·exact h
    rw[cond_false,cr7,fh3];refine⟨fun y hy=>?_,fh3.2 h⟩;rcases ey2.1 hy with rfl|hy
    ·exact h3
    ·exact cr2 h3 (h.1 y hy)
theorem cs1:∀{a b:List ByteArray},cr7 a→cr7 b→(∀x,x∈a↔x∈b)→a=b
 |[],[],_,_,_=>rfl
 |[],y::q,_,_,h=>absurd ((h y).2 Oc) Oc
 |x::r,[],_,_,h=>absurd ((h x).1 Oc) Oc
 |x::r,y::q,ha,hb,h=>by
  rw[cr7,fh3]at ha hb
  have e:x=y:=by
   rcases ey2.1 ((h x).1 Oc)with e|hx
   ·exact e
   ·rcases ey2.1 ((h y).2 Oc)with e|hy
    ·exact e.symm
    ·have h1:=hb.1 x hx;have h2:=ha.1 y hy;rw[cr6 h1]at h2
     cases h2
  subst e;refine congrArg (x:: ·) (cs1 ha.2 hb.2 fun z=>?_);constructor
  ·intro hz;rcases ey2.1 ((h z).1 (by simp[hz]))with e|h'
   ·exact absurd e.symm (cr5 (ha.1 z hz))
   ·exact h'
  ·intro hz;rcases ey2.1 ((h z).2 (by simp[hz]))with e|h'
   ·exact absurd e.symm (cr5 (hb.1 z hz))
   ·exact h'
def cs2(acc l:List ByteArray):List ByteArray:=l.foldl (fun a s=>cr8 s a) acc
theorem cs3{y:ByteArray}:∀{l acc:List ByteArray},y∈cs2 acc l↔y∈acc∨y∈l
 |[],acc=>by simp[cs2]
 |s::r,acc=>by
  have ih:=cs3 (y:=y) (l:=r) (acc:=cr8 s acc);show y∈cs2 (cr8 s acc) r↔_;rw[ih,cr9,ey2];constructor
  ·rintro((h|h)|h)
   ·exact .inr (.inl h)
   ·exact .inl h
   ·exact .inr (.inr h)
  ·rintro(h|h|h)
   ·exact .inl (.inr h)
   ·exact .inl (.inl h)
   ·exact .inr h
theorem cs4:∀{l acc:List ByteArray},cr7 acc→cr7 (cs2 acc l)
 |[],_,h=>h
 |s::r,acc,h=>cs4 (l:=r) (cs0 (s:=s) h)
mutual
def usX:Ex→List ByteArray
 |.mk op _ nm _ ks=>(bif op==2 then [nm]else [])++cs5 ks
def cs5:List Ex→List ByteArray
 |[]=>[]
 |x::r=>usX x++cs5 r
end
def cs6(e:Ex):List ByteArray:=cs2 [] (usX e)
theorem cs7(e:Ex):cr7 (cs6 e):=cs4 List.Pairwise.nil
theorem cs8{e:Ex}{s:ByteArray}:s∈cs6 e↔s∈usX e:=by unfold cs6;rw[cs3];simp
theorem cs9:∀l:List Ex,cs5 l=l.flatMap usX
 |[]=>rfl
 |x::r=>by rw[cs5,fa8,cs9 r]
theorem ct0(e:Ex):(usX e).length≤nd e:=by
 refine bv4 (P:=fun e=>(usX e).length≤nd e) (fun op v nm ds ks ih=>?_) e;rw[usX,cd8];show _≤ndL ks+1
 have key:∀l:List Ex,(∀x∈l,(usX x).length≤nd x)→(cs5 l).length≤ndL l:=by
  intro l
  induction l with
  |nil=>intro _;exact ez0 _
  |cons a r ihr=>
   intro h;have h1:=h a Oc;have h2:=ihr fun x hx=>h x (by simp[hx])
   simp only[cs5,ex8,ndL];omega
 have hk:=key ks ih;rw[ex8]
 cases op==2 with
 |true=>rw[cond_true];simp;omega
 |false=>rw[cond_false];simp;omega
theorem ct1(s:ByteArray):∀l:List ByteArray,(cr8 s l).length≤l.length+1
 |[]=>by simp[cr8]
 |x::r=>by
  have:=ct1 s r;unfold cr8
  cases ltP x s with
  |true=>rw[cond_true];simp;omega
  |false=>
   rw[cond_false]
   cases x.toList==s.toList with
   |true=>rw[cond_true];simp
   |false=>rw[cond_false];simp
theorem ct2:∀(l acc:List ByteArray),(cs2 acc l).length≤acc.length+l.length
 |[],acc=>by simp[cs2]
 |s::r,acc=>by
  have h1:=ct2 r (cr8 s acc);have h2:=ct1 s acc;show(cs2 (cr8 s acc) r).length≤_;simp only[ex9];omega
theorem ct3(e:Ex):(cs6 e).length≤nd e:=by
 have h1:=ct2 (usX e) [];have h2:=ct0 e;unfold cs6;simp only[ey5]at h1;omega
def ct4(ks:List ByteArray)(s:ByteArray):List ByteArray:=bif ks.any (fun x=>x.toList==s.toList)then ks else ks++ [s]
theorem ct5{ks:List ByteArray}{s:ByteArray}:(ks.any fun x=>x.toList==s.toList)=true↔s∈ks:=by
 rw[fg7];constructor
 ·rintro⟨x,hx,h⟩;obtain rfl:=cr0 (by simpa using h:x.toList=s.toList);exact hx
 ·intro h;exact⟨s,h,by simp⟩
theorem ct6{ks:List ByteArray}{s:ByteArray}:(ks.any fun x=>x.toList==s.toList)=false↔s ∉ ks:=by rw[←fe5,ct5]
theorem ct7{ks:List ByteArray}{s y:ByteArray}:y∈ct4 ks s↔y=s∨y∈ks:=by
 unfold ct4
 cases h:ks.any fun x=>x.toList==s.toList with
 |true=>
  have h:=ct5.1 h;rw[cond_true];exact⟨.inr,fun h'=>h'.elim (fun e=>e ▸ h) id⟩
 |false=>
  rw[cond_false,fa0,ez3];exact or_comm
theorem ct8{ks:List ByteArray}{s:ByteArray}(hn:ks.Nodup):(ct4 ks s).Nodup:=by
 unfold ct4
 cases h:ks.any fun x=>x.toList==s.toList with
 |true=>rw[cond_true];exact hn
 |false=>
  have h:=ct6.1 h;rw[cond_false];refine List.nodup_append.2 ⟨hn,List.nodup_cons.2 ⟨by simp,List.nodup_nil⟩,fun a ha b hb=>?_⟩;rw[ez3]at hb;subst hb;rintro rfl;exact h ha
theorem ct9(ks:List ByteArray)(s:ByteArray):(ct4 ks s).length≤ks.length+1:=by
 unfold ct4
 cases ks.any fun x=>x.toList==s.toList with
 |true=>rw[cond_true];omega
 |false=>rw[cond_false];simp
def cu0(ks l:List ByteArray):List ByteArray:=l.foldl ct4 ks
theorem cu1{y:ByteArray}:∀{l ks:List ByteArray},y∈cu0 ks l↔y∈ks∨y∈l
 |[],ks=>by simp[cu0]
 |s::r,ks=>by
  show y∈cu0 (ct4 ks s) r↔_;rw[cu1,ct7,ey2];constructor
  ·rintro((h|h)|h)
   ·exact .inr (.inl h)
   ·exact .inl h
   ·exact .inr (.inr h)
  ·rintro(h|h|h)
   ·exact .inl (.inr h)
   ·exact .inl (.inl h)
   ·exact .inr h
theorem cu2:∀{l ks:List ByteArray},ks.Nodup→(cu0 ks l).Nodup
 |[],_,h=>h
 |s::r,ks,h=>cu2 (l:=r) (ct8 (s:=s) h)
theorem cu3:∀(l ks:List ByteArray),(cu0 ks l).length≤ks.length+l.length
 |[],ks=>by simp[cu0]
 |s::r,ks=>by
  have h1:=cu3 r (ct4 ks s);have h2:=ct9 ks s;show(cu0 (ct4 ks s) r).length≤_;simp only[ex9];omega
theorem cu4{ks a b:List ByteArray}:cu0 ks (a++b)=cu0 (cu0 ks a) b:=by unfold cu0;rw[List.foldl_append]
end Go.Proofs.YtndgolmgaenlfaaGreatDoor
namespace Go.Proofs.YtndgolmgaenlfaaGreatDoor
set_option maxRecDepth 4000
open Go Go.Abs Go.Val Go.RowKit Go.Maps Go.Sort Go.Shelf Go.Proofs Go.Proofs.Tryz
theorem cu5(m:Nat):AnyZ.SortsIn Tryz.prog Tryz.sortedU_ren Fence.wide m:=
 ⟨fun blk off cap ss W hH hblk hsz=>callsIn_wide.2 (AnyM.slices_Sort_string Tryz.sortU blk off cap ss W hH hblk hsz),fun p cap W=>callsIn_wide.2 (AnyM.slices_Sort_string_none Tryz.sortU p cap W)⟩
set_option maxHeartbeats 1000000 in
theorem cu6{H:Type}(w:World)(Bm b nn:Nat)(D0:DataW H)(R:Value→Option (DataW H × List MemPlace))(hBm:Bm<w.heap.size)(hm:w.cell? ⟨Bm,0,none⟩=some (.map (some b)))(hown:w.ownsMap Tryz.prog 9 R b nn D0)(hmax:Maps.size D0≤maxLen)(hbytes:Maps.size D0*16≤140737488355328):
  Calls Tryz.prog 109 #[.func (.func 264) #[] #[.pointer (some ⟨Bm,0,none⟩)]] w fun e w'=>∃(v:Value) (ss:List (List UInt8)),e=.returned v∧ss.Perm (strKeys D0)∧
   w'.ownsRow w.heap.size 9 1 v ss.length ((ss.mergeSort (fun x y=>decide (x≤y))).map encStr)∧(v=.slice none 0 0↔ss=[])∧Below w.heap.size w w':=by
 have hseq:SeqGives Fence.wide 2 Tryz.prog 264 #[.pointer (some ⟨Bm,0,none⟩)] encStr (fun ss=>ss.Perm (strKeys D0)) (Maps.size D0) w:=
  AnyZ.keys_gives (ρ:=Tryz.keysU_ren) {Tryz.keysU with} Fence.wide _ trivial rfl Oa Bm b nn D0 _ hBm hm hown
 exact callsIn_wide.1 (AnyZ.sorted_in Tryz.sortedU Fence.wide 5 trivial trivial trivial trivial rfl Oa (cu5 _) (enters_of func177 Ob rfl) 264 _ trivial (enters_of func264 Ob rfl) _ _ hmax hbytes _ hseq)
def mpU(ks:List ByteArray):List (Value × D):=ks.map fun s=>(.string s,.bool true)
theorem cu7(s:ByteArray):∀ks:List ByteArray,bi6 (.string s) (mpU ks)=ks.findIdx? fun x=>x.toList==s.toList
 |[]=>rfl
 |x::r=>by
  have ih:=cu7 s r
  have e:vEq (.string s) (.string x)=(x.toList==s.toList):=by
   show(s==x)=_;rw[cr1,fa4,decide_eq_true_eq];rw[MapKept.bytes_beq];exact⟨fun h=>h.symm,fun h=>h.symm⟩
  show(bif vEq (.string s) (.string x)then some 0 else(bi6 (.string s) (mpU r)).map (· +1))=_;rw[e,ih,List.findIdx?_cons]
  cases x.toList==s.toList<;>rfl
theorem cu8(s:ByteArray)(ks:List ByteArray):bi7 (.string s) (.bool true) (mpU ks)=mpU (ct4 ks s):=by
 unfold bi7 ct4;rw[cu7]
 cases h:ks.findIdx? fun x=>x.toList==s.toList with
 |none=>
  rw[fh8]at h
  have:(ks.any fun x=>x.toList==s.toList)=false:=by
   rw[←fe5,fg7];rintro⟨x,hx,he⟩;rw[h x hx]at he;cases he
  rw[this,cond_false];simp[mpU]
 |some i=>
  obtain⟨hi,he,-⟩:=fh7.1 h;have:(ks.any fun x=>x.toList==s.toList)=true:=fg7.2 ⟨_,fd6 hi,he⟩;rw[this,cond_true];have hx:ks[i]=s:=cr0 (by simpa using he);show(mpU ks).set i (.string s,.bool true)=mpU ks;apply ff3;intro j;rw[fc4];split
  ·rename_i hj
   subst hj;have hl:i<(mpU ks).length:=by simp[mpU,hi]
   rw[if_pos hl];simp[mpU,ex6 hi,hx]
  ·rfl
theorem le_lt{x y:List UInt8}(h:x≤y)(hn:x≠y):Op.bytesLess x y=true:=by
 rcases cp1 x y with⟨h1,-,-⟩|⟨-,h2,-⟩|⟨-,-,h3⟩
 ·exact h1
 ·rw[bytesLess_eq,decide_eq_true_eq]at h2;exact absurd h2 (List.not_lt.2 h)
 ·exact absurd h3 hn
def toB(l:List (List UInt8)):List ByteArray:=l.map fun b=>⟨b.toArray⟩
theorem cu9{ks:List ByteArray}{ss:List (List UInt8)}(hp:ss.Perm (ca7 ks))(hn:ks.Nodup):toB (ss.mergeSort fun x y=>decide (x≤y))=cs2 [] ks:=by
 have hsl:(ss.mergeSort fun x y=>decide (x≤y)).Pairwise fun x y=>x≤y:=by
  have:=List.pairwise_mergeSort (le:=fun x y:List UInt8=>decide (x≤y)) (fun a b c h1 h2=>by simp only[decide_eq_true_eq]at*;exact List.le_trans h1 h2) (fun a b=>by simp only[fa2,decide_eq_true_eq];exact List.le_total a b) ss;exact this.imp fun h=>by simpa using h
 have hbn:(ca7 ks).Nodup:=by
  unfold ca7;refine List.pairwise_map.2 (hn.imp fun{a b} h e=>h ?_);exact ByteArray.ext (Array.toList_inj.1 e)
 have hpm:(ss.mergeSort fun x y=>decide (x≤y)).Perm (ca7 ks):=(List.mergeSort_perm _ _).trans hp;have hnd:(ss.mergeSort fun x y=>decide (x≤y)).Nodup:=hpm.nodup_iff.2 hbn;generalize(ss.mergeSort fun x y=>decide (x≤y))=T at*;refine cs1 ?_ (cs4 List.Pairwise.nil) fun x=>?_
 ·unfold toB;refine List.pairwise_map.2 ((hsl.and hnd).imp fun{a b} h=>?_);unfold ltP;rw[ByteArray.toList_eq,ByteArray.toList_eq];exact le_lt h.1 h.2
 ·rw[cs3];unfold toB;rw[ey6];constructor
  ·rintro⟨b,hb,rfl⟩;obtain⟨s,hs,rfl⟩:=ey6.1 (hpm.mem_iff.1 hb);exact .inr hs
  ·rintro(h|h)
   ·cases h
   ·exact⟨x.data.toList,hpm.mem_iff.2 (ey6.2 ⟨x,h,rfl⟩),rfl⟩
theorem cv0(mt:TypeId)(ks:List ByteArray)(hs:∀s∈ks,s.size≤maxLen)(hn:ks.Nodup)(hsz:ks.length≤1000000000):
  EvS E 109 [.clo 264 [.ptr 0 0]] [.var mt (.w (.mp 1)),.map .string (mpU ks)] (.d (.sl ((cs2 [] ks).map .str))) [.var mt (.w (.mp 1)),.map .string (mpU ks)]:=by
 intro w F σ vs hi hl hr
 match vs,hl with
 |[v0],_=>
  obtain⟨us,rfl,ul,ur⟩:=hr 0 _ _ rfl rfl
  match us,ul with
  |[u0],_=>
   obtain⟨b,c,n,e1,rfl⟩:=ur 0 _ _ rfl rfl;obtain⟨cs,g1,g2,g3,g4,g5,g6⟩:=hi.obs 0 _ _ rfl e1
   match cs,g2 with
   |[sv],_=>
    obtain⟨b1,c1,n1,f1,rfl⟩:=g4 0 (.mp 1) sv rfl rfl;obtain⟨es,k1,k2,k3,k4,k5,k6⟩:=hi.obs 1 _ _ rfl f1;have hml:(mpU ks).length=ks.length:=by simp[mpU]
    have hus:Tryz.prog.underlying 9=some .string:=Ob
    have hbl:b<w.heap.size:=(ff8.1 g1).1
    have hkey:∀(i:Nat) e,es[i]? =some e→∃s,ks[i]? =some s∧e.key=.string s∧e.born=i:=by
     intro i e he;have hil:i<ks.length:=by have:=(ff8.1 he).1;omega
     obtain⟨⟨q1,q2⟩,-⟩:=k3 i e (.string ks[i],.bool true) he (by simp[mpU,ex6 hil]);exact⟨ks[i],ex6 hil,q1,q2⟩
    let R:Value→Option (DataW Unit × List MemPlace):=fun _=>some (.lit (.bool true),[])
    have hrd:∀(i:Nat) e s,es[i]? =some e→ks[i]? =some s→WideElems.rd Tryz.prog 9 R e=some (.string s.data.toList,.lit (.bool true)):=by
     intro i e s he hk;obtain⟨s',h1,h2,-⟩:=hkey i e he;rw[hk]at h1
     cases h1
     unfold WideElems.rd;rw[h2,WideMaps.keyOf_string_mk hus (hs s (ey0 hk))];rfl
    have hrg:es.toList.map (WideElems.rg Tryz.prog 9 R)=ks.map fun s=>(Lit.string s.data.toList,(DataW.lit (.bool true):DataW Unit)):=by
     apply ff3;intro j;rw[ey3,ey3];rcases ex7 j ks.length with hj|hj
     ·obtain⟨e,he⟩:∃e,es[j]? =some e:=⟨es[j]'Oa,by simp⟩;have hk:=ex6 hj;rw[fg3,he,hk];simp only[fa6];unfold WideElems.rg;rw[hrd j e _ he hk];rfl
     ·rw[fa7 (l:=es.toList) (by rw[ff7];omega),fa7 hj];rfl
    have hfit:WideElems.Fit Tryz.prog 9 R es es.size:=by
     refine⟨by rw[k2,hml];unfold maxLen;omega,⟨?_,?_,?_⟩,?_⟩
     ·intro x hx;obtain⟨i,hi'⟩:=ez7 hx;rw[fg3]at hi';obtain⟨-,-,-,hb⟩:=hkey i x hi';have:=(ff8.1 hi').1;omega
     ·have:es.toList.map (·.born)=List.range es.size:=by
       apply ff3;intro j;rw[ey3,fg3];rcases ex7 j es.size with hj|hj
       ·obtain⟨e,he⟩:∃e,es[j]? =some e:=⟨es[j]'hj,by simp⟩;obtain⟨-,-,-,hb⟩:=hkey j e he;rw[he,fe3 hj,←hb];rfl
       ·rw[ff9 hj,fa7 (by simpa using hj)];rfl
      rw[this];exact List.nodup_range
     ·have:es.toList.map (·.key)=ks.map Value.string:=by
       apply ff3;intro j;rw[ey3,fg3,ey3];rcases ex7 j es.size with hj|hj
       ·obtain⟨e,he⟩:∃e,es[j]? =some e:=⟨es[j]'hj,by simp⟩;obtain⟨s,h1,h2,-⟩:=hkey j e he;rw[he,h1];exact congrArg some h2
       ·rw[ff9 hj,fa7 Oa];rfl
      rw[this];exact List.pairwise_map.2 (hn.imp fun{a b} h e=>h (by cases e;rfl))
     ·intro x hx;obtain⟨i,hi'⟩:=ez7 hx;rw[fg3]at hi';obtain⟨s,h1,-,-⟩:=hkey i x hi';exact⟨_,hrd i x s hi' h1⟩
    obtain⟨D0,hD0⟩:∃D0:DataW Unit,D0=.map ((es.toList.map (WideElems.rg Tryz.prog 9 R)).foldr DataW.insert []):=⟨_,rfl⟩;have hperm:=WideShapes.sorted_perm (es.toList.map (WideElems.rg Tryz.prog 9 R))
    have hDs:Maps.size D0=ks.length:=by
     rw[hD0];show(List.foldr DataW.insert [] _).length=_;rw[hperm.length_eq,hrg,ey4]
    have hDk:(strKeys D0).Perm (ca7 ks):=by
     rw[hD0];refine(hperm.map _).trans ?_;rw[hrg,List.map_map];exact List.Perm.refl _
    have hown:w.ownsMap Tryz.prog 9 R b1 es.size D0:=⟨es,es.size,k1,hfit,ez0 _,hD0⟩;have hmx:maxLen=9223372036854775807:=rfl;refine(cu6 w b b1 es.size D0 R hbl ?_ hown (by rw[hDs];omega) (by rw[hDs];omega)).mono ?_
    ·simp only[World.cell?,g1];simp
    ·rintro e w' ⟨v,ss,rfl,hp,hrow,hnil,hb⟩;have hsi:=cu9 (hp.trans hDk) hn;have hsl:ss.length=ks.length:=by rw[(hp.trans hDk).length_eq];simp[ca7]
     have hin:∀z∈ss.mergeSort (fun x y=>decide (x≤y)),z.length≤maxLen:=by
      intro z hz;have hz':z∈ca7 ks:=(hp.trans hDk).mem_iff.1 ((List.mergeSort_perm _ _).mem_iff.1 hz);obtain⟨s,h1,rfl⟩:=ey6.1 hz';rw[ff7];exact hs s h1
     have hD:(cs2 [] ks).map D.str=ca8 (ss.mergeSort fun x y=>decide (x≤y)):=by
      rw[←hsi];simp[toB,ca8]
     have hml2:(ss.mergeSort fun x y=>decide (x≤y)).length=ss.length:=List.length_mergeSort _;rw[hD];generalize ss.mergeSort (fun x y=>decide (x≤y))=T at*
     by_cases h0:ss=[]
     ·have hT:T=[]:=fh9 (by rw[hml2,h0];rfl);subst hT;obtain rfl:=hnil.2 h0;exact⟨_,F,σ,rfl,aa7.of_below hb fun k hk=>hk.1,fun _ h=>h,fun _ h=>.inl h,fun i p _ hp=>hp,(ab2.lend hi).ext (Ext.of_below hb hi.flt),Rd.slnil⟩
     ·have hv:v≠ .slice none 0 0:=fun h=>h0 (hnil.1 h)
      have hblk:∀k,v.ownBlock=some k→w.heap.size≤k:=fun k hk=>(hrow.lt k hk).1
      obtain⟨zc1,zc2⟩:=cb0 T
      obtain⟨g,cp,rfl,hob⟩:=aq0 (F:=F) (σ:=σ) (B:=fun _=>False) (xs:=ca8 T) (ownsRow_base_a hrow (ez6 _)) (fun k hk hh=>hh) hv (by simp[ca8,hml2]) zc1 zc2 (cb1 hin)
       (fun k hk hf=>by have:=hblk k hk;have:=hi.flt k hf;omega)
      have hge:=hblk g rfl;obtain⟨vs',q1,q2,q3,q4,q5,q6,q7,q8,-,q10⟩:=hob;have hgl:g<w'.heap.size:=(ff8.1 q1).1;have hE:Ext w F w' (fun k=>F k∨k=g):=⟨hb,fun _ h=>.inl h,fun k hk=>by rcases hk with h|rfl;exact .inl h;exact .inr hge,fun k hk=>by rcases hk with h|rfl;exact fg5 (hi.flt k h) hb.size;exact hgl⟩;refine⟨_,fun k=>F k∨k=g,σ,rfl,aa7.of_below hb fun k hk=>hk.1,fun _ h=>.inl h,fun k hk=>?_,fun i p _ hp=>hp,(ab2.lend hi).ext hE,?_⟩
      ·rcases hk with h|rfl
       ·exact .inl h
       ·exact .inr fun hh=>by have:=hh.1;omega
      ·have hex:∀i j,∃u,∀x cd,(ca8 T)[i]? =some x→x.cells[j]? =some cd→vs'[i*1+j]? =some u∧Rd w' F cd u:=by
        intro i j
        cases hx:(ca8 T)[i]? with
        |none=>exact⟨undef,fun x cd h=>by cases h⟩
        |some x=>
         cases hc:x.cells[j]? with
         |none=>exact⟨undef,fun x' cd h h'=>by cases h;rw[hc]at h';cases h'⟩
         |some cd=>
          obtain⟨u,r1,r2⟩:=q8 i x j cd hx hc;exact⟨u,fun x' cd' h h'=>by cases h;rw[hc]at h';cases h';exact⟨r1,r2⟩⟩
       show Rd w' (fun k=>F k∨k=g) (.sl (ca8 T)) (.slice (some ⟨g,0,none⟩) ss.length cp);rw[q3];refine .sl 1 (ca8 T) ⟨g,0,none⟩ cp (fun i j=>Classical.choose (hex i j)) Oa q5 (fun _=>.inr rfl) q6 q7 (fun i x j cd hx hc=>?_) (fun i x j cd hx hc=>?_)
       ·rw[aa2,aj1 q1,fb9];exact(Classical.choose_spec (hex i j) x cd hx hc).1
       ·exact(Classical.choose_spec (hex i j) x cd hx hc).2.mono (fun _ h=>.inl h) fun _ _=>rfl
end Go.Proofs.YtndgolmgaenlfaaGreatDoor
namespace Go.Proofs.YtndgolmgaenlfaaGreatDoor
set_option maxRecDepth 4000
open Go Go.Abs Go.Val Go.RowKit Go.Proofs.Tryz
attribute [local irreducible] go SGo an1 Ev au7 EvO EvS
theorem cv1(v:V):bg3 (enc v)=5+v.s.size+bg4 (kids v):=by
 simp only[enc,bg3,bg4];omega
theorem cv2(e:Ex):bg3 (bu5 e)=4+bg3 (enc e.v)+e.nm.size+bg4 (bu3 e):=by
 rw[cv1];simp only[bu5,bg3,bg4];omega
theorem cv3(e:Ex):9*nd e≤bg3 (bu5 e):=by
 refine bv4 (P:=fun e=>9*nd e≤bg3 (bu5 e)) (fun op v nm ds ks ih=>?_) e;rw[cv2,cv1,cd8]
 have key:∀l:List Ex,(∀x∈l,9*nd x≤bg3 (bu5 x))→9*ndL l≤bg4 (bu4 l):=by
  intro l
  induction l with
  |nil=>intro _;simp[ndL]
  |cons a r ihr=>
   intro h;have h1:=h a Oc;have h2:=ihr fun x hx=>h x (by simp[hx])
   simp only[ndL,bu4];rw[bg4];have e:bg3 (.agg [.int a.op,.int a.v.k,.int a.v.n,.int a.v.d,.str a.v.s,.sl (kids a.v),.str a.nm,.bool a.ds,.sl (bu3 a)])=bg3 (bu5 a):=rfl;omega
 have:=key ks ih;show 9*(ndL ks+1)≤4+(5+v.s.size+bg4 (kids v))+nm.size+bg4 (bu4 ks);omega
theorem cv4(e:Ex):dp e≤nd e:=by
 refine bv4 (P:=fun e=>dp e≤nd e) (fun op v nm ds ks ih=>?_) e;rw[ce3,cd8];show dpL ks+1≤ndL ks+1
 have key:∀l:List Ex,(∀x∈l,dp x≤nd x)→dpL l≤ndL l:=by
  intro l
  induction l with
  |nil=>intro _;simp[dpL]
  |cons a r ihr=>
   intro h;have h1:=h a Oc;have h2:=ihr fun x hx=>h x (by simp[hx])
   simp only[dpL,ndL];omega
 have:=key ks ih;omega
theorem cv5(e:Ex):1≤nd e:=by rw[cd8];omega
theorem cv6{e:Ex}{w:Bool}(h:ch7 e w=0):ch6 e w=0:=by
 cases hc:ch6 e w !=0 with
 |true=>have:=ci1 rfl hc;rw[h]at this;rw[this]at hc;cases hc
 |false=>simpa using hc
theorem cv7{e:Ex}(h:ci3 e=0):ch7 e false=0:=by
 unfold ci3 at h
 cases h1:decide (dp e>24)with
 |true=>rw[h1]at h;simp at h
 |false=>
  rw[h1,cond_false]at h
  cases h2:decide (nd e>300)with
  |true=>rw[h2]at h;simp at h
  |false=>rw[h2,cond_false]at h;exact h
theorem cv8{e:Ex}(h:ci3 e=0):dp e≤24∧nd e≤300∧ch7 e false=0:=by
 have hv:=cv7 h;unfold ci3 at h
 cases h1:decide (dp e>24)with
 |true=>rw[h1]at h;simp at h
 |false=>
  rw[h1,cond_false]at h
  cases h2:decide (nd e>300)with
  |true=>rw[h2]at h;simp at h
  |false=>
   have:=of_decide_eq_false h1;have:=of_decide_eq_false h2;exact⟨by omega,by omega,hv⟩
theorem cv9{e:Ex}(h1:dp e≤24)(h2:nd e≤300)(h3:ch7 e false=0):ci3 e=0:=by
 unfold ci3;rw[show decide (dp e>24)=false by simp;omega,show decide (nd e>300)=false by simp;omega,h3];rfl
theorem cw0{op:Int}{v:V}{nm:ByteArray}{ds:Bool}{ks:List Ex}{w:Bool}(h:ch7 (.mk op v nm ds ks) w=0):∀x∈ks,ch7 x (w||op==24)=0:=by
 have h0:=cv6 h;have h1:=ci0 (e:=.mk op v nm ds ks) (w:=w) h0;rw[h]at h1;exact cm9 h1.symm
def cstX(v:V):Ex:=.mk 1 v ⟨#[]⟩ false []
theorem cw1{e:Ex}(h:ch6 e true=0):ch6 e false=0∧e.op≠24:=by
 unfold ch6 at h ⊢
 cases c1:(decide (e.op<1)||decide (e.op>24))||(!cd1 e|| !cd4 e)with
 |true=>rw[c1]at h;simp at h
 |false=>
 cases c2:(e.op==1&& !cd6 e.v)with
 |true=>rw[c1,c2]at h;simp at h
 |false=>
 cases c3:nlF e with
 |true=>rw[c1,c2,c3]at h;simp at h
 |false=>
 cases c4:e.op==24 with
 |true=>rw[c1,c2,c3,c4]at h;simp at h
 |false=>exact⟨rfl,by simpa using c4⟩
theorem cw2{w:Bool}:∀{l:List Ex},(∀x∈l,ch7 x w=0)→ch8 l w=0
 |[],_=>rfl
 |x::r,h=>by
  rw[ch8,h x Oc];exact cw2 fun y hy=>h y (by simp[hy])
theorem cw3(e:Ex):ch7 e true=0→ch7 e false=0:=by
 refine bv4 (P:=fun e=>ch7 e true=0→ch7 e false=0) (fun op v nm ds ks ih h=>?_) e;obtain⟨h1,h2⟩:=cw1 (cv6 h);have h3:=cw0 h;rw[ci0 h1,show(false||(Ex.mk op v nm ds ks).op==24)=false by simpa using h2];exact cw2 fun x hx=>ih x hx (by simpa using h3 x hx)
theorem cw4{e:Ex}{w:Bool}(h:ch7 e w=0):ch7 e false=0:=by
 cases w with
 |true=>exact cw3 e h
 |false=>exact h
theorem cw5{op:Int}{v:V}{nm:ByteArray}{ds:Bool}{ks:List Ex}(h:ci3 (.mk op v nm ds ks)=0):∀x∈ks,ci3 x=0:=by
 obtain⟨h1,h2,h3⟩:=cv8 h;intro x hx;have d1:=ce4 hx;have d2:=cd9 hx;rw[ce3]at h1;rw[cd8]at h2;have h1:dpL ks+1≤24:=h1;have h2:ndL ks+1≤300:=h2;exact cv9 Oa Oa (cw4 (cw0 h3 x hx))
abbrev oXU(e:D):aa5:=.var 33 (.w (.d e))
theorem cw6:∀l:List Ex,l.length≤ndL l
 |[]=>ez0 _
 |a::r=>by
  have h1:=cv5 a;have h2:=cw6 r;simp only[ex9,ndL];omega
attribute [local irreducible] RGo
abbrev cw7(m:Nat):aa5:=.var 198 (.w (.mp m))
abbrev cw8(a b:Nat):aa5:=.var 199 (.w (.clo 188 [.ptr a 0,.ptr b 0]))
abbrev cw9(ks:List ByteArray):aa5:=.map .string (mpU ks)
theorem cx0(ks:List ByteArray):EvS E 189 [.mp 0] [cw9 ks] (.clo 264 [.ptr 1 0]) [cw9 ks,cw7 0]:=by
 refine yn func189 ntmps189 fun _ _ _ _=>?_
 repeat'(first|refine yz ?_|refine ba4 rfl rfl rfl rfl rfl ?_|refine bb0 [0,1] rfl rfl rfl rfl rfl ?_)
 all_goals rfl
structure SVst(n:Nat) where
 i:Nat
 hi:i≤n
theorem cx1{ks:List Ex}{i:Nat}{x:Ex}(h:ks[i]? =some x)(K:List ByteArray):cu0 K (cs5 (ks.take (i+1)))=cu0 (cu0 K (cs5 (ks.take i))) (usX x):=by
 rw[cs9,cs9,fc0,h,fg4,cu4];simp
theorem cx2{e:Ex}:Fit (bu5 e)→∀s∈usX e,s.size≤maxLen:=by
 refine bv4 (P:=fun e=>Fit (bu5 e)→∀s∈usX e,s.size≤maxLen) (fun op v nm ds ks ih hf s hs=>?_) e;obtain⟨-,-,h1,-,h2⟩:=bv2 hf;rw[usX,fa0]at hs;rcases hs with hs|hs
 ·cases h:op==2 with
  |true=>
   rw[h,cond_true,ez3]at hs;subst hs;exact h1
  |false=>rw[h]at hs;cases hs
 ·rw[cs9,ff1]at hs;obtain⟨x,hx,hs⟩:=hs;exact ih x hx (h2 x hx) s hs
set_option maxHeartbeats 1000000 in
theorem cx3(e:Ex):nd e≤1000000→∀K:List ByteArray,EvS E 188 [.d (bu5 e),.ptr 0 0,.ptr 1 0] [cw7 2,cw8 0 1,cw9 K] (.tup []) [cw7 2,cw8 0 1,cw9 (cu0 K (usX e))]:=by
 refine bv4 (P:=fun e=>nd e≤1000000→∀K:List ByteArray,EvS E 188 [.d (bu5 e),.ptr 0 0,.ptr 1 0] [cw7 2,cw8 0 1,cw9 K] (.tup []) [cw7 2,cw8 0 1,cw9 (cu0 K (usX e))]) (fun op v nm ds ks ih hn K=>?_) e;rw[cd8]at hn;have hn':ndL ks+1≤1000000:=hn;have hle:(bu4 ks).length=ks.length:=bv1 ks;have hkl:=cw6 ks;obtain⟨vk,vn,vd,vS,vl⟩:=v;rw[usX,cu4];show EvS E 188 [.d (.agg [.int op,.int vk,.int vn,.int vd,.str vS,.sl (bm8 vl),.str nm,.bool ds,.sl (bu4 ks)]),.ptr 0 0,.ptr 1 0] _ _ _;generalize bm8 vl=VL;obtain⟨K1,hK1⟩:∃K1,K1=cu0 K (bif op==2 then [nm]else []):=⟨_,rfl⟩;rw[←hK1]
 cases c1:op==2 with
 |true=>
  rw[c1,cond_true]at hK1;have hK1:K1=ct4 K nm:=hK1;have hput:bi7 (.string nm) (.bool true) (mpU K)=mpU K1:=by rw[cu8,hK1]
  refine yn func188 ntmps188 fun _ _ _ _=>?_
  repeat'(first|refine yz ?_|refine bk1 ?_)
  rw[hput];refine ac7 (α:=SVst ks.length) (fun p=>⟨[(1,.ptr 0 0),(2,.ptr 1 0),(3,.ptr 3 0),(13,.d (.sl (bu4 ks))),(14,.d (.int (bu4 ks).length)),(15,.d (.int p.i))],[cw7 2,cw8 0 1,cw9 (cu0 K1 (cs5 (ks.take p.i))),oXU (.agg [.int op,.int vk,.int vn,.int vd,.str vS,.sl VL,.str nm,.bool ds,.sl (bu4 ks)])]⟩) (fun p=>ks.length-p.i) ⟨0,by omega⟩ (zle 4) ?_;rintro⟨i,hi⟩;dsimp only;rcases ex7 i ks.length with hlt|hge
  ·have g1:decide ((i:Int)<((bu4 ks).length:Int))=true:=by rw[hle];simpa using hlt
   have hx0:=ex6 hlt;generalize ks[i]=x at hx0;have hx:(bu4 ks)[(i:Int).toNat]? =some (bu5 x):=bu9 (by rw[fb2];exact hx0);have hm:=ey0 hx0;have hcx:=ih x hm (by have:=cd9 hm;omega) (cu0 K1 (cs5 (ks.take i)));rw[←cx1 hx0]at hcx
   repeat'(first|refine yz ?_|refine yi (bu5 x) hx ?_|refine ba5 [0,1,2] rfl rfl rfl rfl (FnX.clo _ _) b188 (hcx) rfl rfl rfl rfl rfl ?_)
   refine ac1 ?_;exact⟨⟨i+1,by omega⟩,by dsimp only;omega,(zle 4)⟩
  ·have g1:decide ((i:Int)<((bu4 ks).length:Int))=false:=by rw[hle];simp;omega
   rw[ez9 hge]
   repeat'(first|refine yz ?_|refine yo [0,1,2])
 |false=>
  rw[c1,cond_false]at hK1;have hK1:K1=K:=hK1;subst hK1;refine yn func188 ntmps188 fun _ _ _ _=>?_
  repeat'(refine yz ?_)
  refine ac7 (α:=SVst ks.length) (fun p=>⟨[(1,.ptr 0 0),(2,.ptr 1 0),(3,.ptr 3 0),(13,.d (.sl (bu4 ks))),(14,.d (.int (bu4 ks).length)),(15,.d (.int p.i))],[cw7 2,cw8 0 1,cw9 (cu0 K1 (cs5 (ks.take p.i))),oXU (.agg [.int op,.int vk,.int vn,.int vd,.str vS,.sl VL,.str nm,.bool ds,.sl (bu4 ks)])]⟩) (fun p=>ks.length-p.i) ⟨0,by omega⟩ (zle 4) ?_;rintro⟨i,hi⟩;dsimp only;rcases ex7 i ks.length with hlt|hge
  ·have g1:decide ((i:Int)<((bu4 ks).length:Int))=true:=by rw[hle];simpa using hlt
   have hx0:=ex6 hlt;generalize ks[i]=x at hx0;have hx:(bu4 ks)[(i:Int).toNat]? =some (bu5 x):=bu9 (by rw[fb2];exact hx0);have hm:=ey0 hx0;have hcx:=ih x hm (by have:=cd9 hm;omega) (cu0 K1 (cs5 (ks.take i)));rw[←cx1 hx0]at hcx
   repeat'(first|refine yz ?_|refine yi (bu5 x) hx ?_|refine ba5 [0,1,2] rfl rfl rfl rfl (FnX.clo _ _) b188 (hcx) rfl rfl rfl rfl rfl ?_)
   refine ac1 ?_;exact⟨⟨i+1,by omega⟩,by dsimp only;omega,(zle 4)⟩
  ·have g1:decide ((i:Int)<((bu4 ks).length:Int))=false:=by rw[hle];simp;omega
   rw[ez9 hge]
   repeat'(first|refine yz ?_|refine yo [0,1,2])
theorem cx4(e:Ex)(hn:nd e≤1000000):Ev E 121 [bu5 e] (.d (.sl ((cs6 e).map .str))):=Ev.fit fun hfit=>by
 have hv:=cx3 e hn [];have hl:=ct0 e;have hal:=cu3 (usX e) []
 have hsz:∀s∈cu0 [] (usX e),s.size≤maxLen:=fun s hs=>by
  rw[cu1]at hs;rcases hs with h|h
  ·cases h
  ·exact cx2 (hfit (bu5 e) Oc) s h
 have hs:=cv0 198 (cu0 [] (usX e)) hsz (cu2 List.nodup_nil) (by simp only[ey5]at hal;omega)
 have hr:cs2 [] (cu0 [] (usX e))=cs6 e:=by
  refine cs1 (cs4 List.Pairwise.nil) (cs7 e) fun s=>?_
  rw[cs3,cs8,cu1];simp
 rw[hr]at hs;have hk:=cx0 (cu0 [] (usX e));refine ye1 func121 ntmps121 fun _ _ _=>?_
 repeat'(first|refine yz ?_|refine bj2 rfl rfl rfl rfl rfl rfl ?_|refine ba4 rfl rfl rfl rfl rfl ?_|refine ba5 [2,3,1] rfl rfl rfl rfl (FnX.clo _ _) b188 (hv) rfl rfl rfl rfl rfl ?_|refine yc [1] b189 (hk) ?_|refine yc [4,1] b109 (hs) ?_|exact zD)
attribute [local irreducible] PGo
def cx5(e:Ex)(cols:List ByteArray):Bool:=(cs6 e).all fun s=>bu0 cols s
def cx6(e:Ex)(cols:List ByteArray):Int:=bif ci3 e !=0 then ci3 e else bif !(cx5 e cols)then 6 else bif cj3 e then 9 else 0
theorem cx7(cols:List ByteArray)(s:ByteArray):EvS E 122 [.d (.str s),.ptr 0 0] [ca6 cols] (.d (.bool (!bu0 cols s))) [ca6 cols]:=by
 have h:=bw5 cols s;refine yn func122 ntmps122 fun _ _ _ _=>?_
 repeat'(first|refine yz ?_|refine yp b60 h ?_|refine bb0 [0] rfl rfl rfl rfl rfl ?_)
 all_goals rfl
theorem cx8(cols l:List ByteArray)(hmax:l.length≤9223372036854775807):EvS E 187 [.d (.sl (l.map D.str)),.clo 122 [.ptr 0 0]] [ca6 cols] (.d (.int (co1 (l.findIdx? fun s=> !bu0 cols s)))) [ca6 cols]:=by
 have hle:(l.map D.str).length=l.length:=Oc
 refine yn func187 ntmps187 fun _ _ _ _=>?_
 repeat'(refine yz ?_)
 refine ac7 (α:=SFc l fun s=> !bu0 cols s) (fun p=>⟨[(0,.d (.sl (l.map D.str))),(1,.clo 122 [.ptr 0 0]),(7,.d (.int (l.map D.str).length)),(8,.d (.int p.i))],[ca6 cols]⟩) (fun p=>l.length-p.i) ⟨0,by omega,fun j hj=>absurd hj Oa⟩ (zle 1) ?_;rintro⟨i,hi,ok⟩;dsimp only;rcases ex7 i l.length with hlt|hge
 ·have g1:decide ((i:Int)<((l.map D.str).length:Int))=true:=by rw[hle];simpa using hlt
  have hx0:=ex6 hlt;generalize l[i]=y at hx0;have hx:(l.map D.str)[((i:Nat):Int).toNat]? =some (.str y):=cn9 (f:=D.str) hx0;have h1:=cx7 cols y
  cases hc:bu0 cols y with
  |false=>
   rw[hc]at h1;rw[co2 hx0 (show(!bu0 cols y)=true by rw[hc];rfl) ok]
   repeat'(first|refine yz ?_|refine yi (.str y) hx ?_|refine ba5 [0] rfl rfl rfl rfl (FnX.clo _ _) b122 (h1) rfl rfl rfl rfl rfl ?_|refine bb0 [0] rfl rfl rfl rfl rfl ?_)
   all_goals rfl
  |true=>
   rw[hc]at h1
   repeat'(first|refine yz ?_|refine yi (.str y) hx ?_|refine ba5 [0] rfl rfl rfl rfl (FnX.clo _ _) b122 (h1) rfl rfl rfl rfl rfl ?_)
   refine ac1 ?_;exact⟨⟨i+1,by omega,SFc.next hx0 (show(!bu0 cols y)=false by rw[hc];rfl) ok⟩,by dsimp only;omega,(zle 1)⟩
 ·have g1:decide ((i:Int)<((l.map D.str).length:Int))=false:=by rw[hle];simp;omega
  rw[co3 fun j hj=>ok j Oa]
  repeat'(first|refine yz ?_|refine bb0 [0] rfl rfl rfl rfl rfl ?_)
  all_goals rfl
theorem cx9(cols l:List ByteArray)(hmax:l.length≤9223372036854775807):EvS E 120 [.d (.sl (l.map D.str)),.clo 122 [.ptr 0 0]] [ca6 cols] (.d (.bool (l.any fun s=> !bu0 cols s))) [ca6 cols]:=by
 have h:=cx8 cols l hmax;rw[←co4];refine yn func120 ntmps120 fun _ _ _ _=>?_
 repeat'(first|refine yz ?_|refine yc [0] b187 (h) ?_|refine bb0 [0] rfl rfl rfl rfl rfl ?_)
 all_goals rfl
theorem cy0(cols l:List ByteArray):(!(l.any fun s=> !bu0 cols s))=l.all fun s=>bu0 cols s:=by
 induction l with
 |nil=>rfl
 |cons x r ih=>rw[fd2,fd8,←ih];cases bu0 cols x<;>simp
theorem cy1(e:Ex)(cols:List ByteArray)(hn:nd e≤1000000):Ev E 62 [bu5 e,.sl (cols.map .str)] (.d (.bool (cx5 e cols))):=by
 have hu:=cx4 e hn;have hul:=ct3 e;have h:=cx9 cols (cs6 e) Oa;unfold cx5;rw[←cy0];refine ye2 func62 ntmps62 fun _ _ _=>?_
 repeat'(first|refine yz ?_|refine yp b121 hu ?_|refine ba4 rfl rfl rfl rfl rfl ?_|refine yc [1] b120 (h) ?_|exact zD)
theorem cy2(e:Ex)(cols:List ByteArray)(hd:dp e≤1000000)(hn:nd e≤1000000):Ev E 42 [bu5 e,.sl (cols.map .str)] (.d (.int (cx6 e cols))):=by
 have hk:=ci4 e hd hn;have h1:=cy1 e cols hn;have h2:=cq0 e;unfold cx6;generalize cx5 e cols=kn at*;generalize cj3 e=ha at*
 cases hc:ci3 e !=0 with
 |true=>
  rw[cond_true];generalize ci3 e=z at*;refine ye2 func42 ntmps42 fun _ _ _=>?_
  repeat'(first|refine yz ?_|refine yp b61 hk ?_|exact zD)
 |false=>
  rw[cond_false];have h0:ci3 e=0:=by simpa using hc
  rw[h0]at hk
  cases kn with
  |false=>
   refine ye2 func42 ntmps42 fun _ _ _=>?_
   repeat'(first|refine yz ?_|refine yp b61 hk ?_|refine yp b62 h1 ?_|exact zD)
  |true=>
   cases ha with
   |true=>
    refine ye2 func42 ntmps42 fun _ _ _=>?_
    repeat'(first|refine yz ?_|refine yp b61 hk ?_|refine yp b62 h1 ?_|refine yp b63 h2 ?_|exact zD)
   |false=>
    refine ye2 func42 ntmps42 fun _ _ _=>?_
    repeat'(first|refine yz ?_|refine yp b61 hk ?_|refine yp b62 h1 ?_|refine yp b63 h2 ?_|exact zD)
end Go.Proofs.YtndgolmgaenlfaaGreatDoor
namespace Go.Proofs.YtndgolmgaenlfaaGreatDoor
set_option maxRecDepth 4000
open Go Go.Abs Go.Val Go.RowKit Go.Proofs.Tryz
attribute [local irreducible] go SGo an1 Ev au7 EvO
def cy3(a _b:V):Int:=bif !(Val.okV a)then 1 else bif a.k==0 then 0 else 1
theorem cy4{a:V}(h:Val.okV a=true)(hk:a.k=0):a=bn9:=by
 obtain⟨k,n,d,s,l⟩:=a;obtain rfl:k=0:=hk;unfold Val.okV at h;rw[br9 8 0 n d s l Od Od]at h;simp[bo1,s0,V.k,V.n,V.d,V.s,V.l]at h;obtain⟨⟨⟨h2,h3⟩,h4⟩,h1⟩:=h;subst h1 h2 h4
 have hs:s=⟨#[]⟩:=by
  apply ByteArray.ext;apply Array.toList_inj.1;have:=ByteArray.toList_eq s;rw[h3]at this;exact this.symm
 rw[hs];rfl
theorem cy5(a:ByteArray):Ev E 305 [.str a] (.d (.bool false)):=by
 have h:(!(a.toList==a.toList))=false:=Oc
 rw[←h];refine ye1 func305 ntmps305 fun _ _ _=>?_
 exact Ok
theorem cy6:Ev E 254 [.str ⟨#[]⟩,.str ⟨#[]⟩] (.d (.int 0)):=by
 have h1:Op.bytesLess (⟨#[]⟩:ByteArray).toList (⟨#[]⟩:ByteArray).toList=false:=Ob
 have h2:((⟨#[]⟩:ByteArray).toList==(⟨#[]⟩:ByteArray).toList)=true:=beq_self_eq_true _;have g2:(!(Op.bytesLess (⟨#[]⟩:ByteArray).toList (⟨#[]⟩:ByteArray).toList||(⟨#[]⟩:ByteArray).toList==(⟨#[]⟩:ByteArray).toList))=false:=by rw[h1,h2];rfl
 refine ye2 func254 ntmps254 fun _ _ _=>?_
 repeat'(first|refine yz ?_|refine yp b305 (cy5 _) ?_|refine yx ?_|(refine yy ?_ ?_<;>intro _)|exact zD|exact zL)
structure SN0(n:Nat) where
 i:Nat
 hi:i≤n
theorem cy7:Ev E 252 [.sl [.int 0,.int 0,.int 0]] (.d (.int 0)):=by
 refine ye1 func252 ntmps252 fun _ _ _=>?_
 repeat'(first|refine yz ?_|refine yx ?_|(refine yy ?_ ?_<;>intro _)|exact zD|exact zL)
 refine ac7 (α:=SN0 3) (fun p=>⟨[(3,.d (.int 0)),(6,.d (.sl [.int 0,.int 0,.int 0])),(7,.d (.int (([.int 0,.int 0,.int 0]:List D).length:Int))),(8,.d (.int p.i))],[]⟩) (fun p=>3-p.i) ⟨0,by omega⟩ (zle 0) ?_;rintro⟨i,hi⟩;dsimp only;rcases ex7 i 3 with hlt|hge
 ·have g1:=yT ((i:Int)<(([.int 0,.int 0,.int 0]:List D).length:Int)) (show(i:Int)<3 by omega)
  have hx:([.int 0,.int 0,.int 0]:List D)[(i:Int).toNat]? =some (.int 0):=by
   rw[fb2]
   match i,hlt with
   |0,_=>rfl
   |1,_=>rfl
   |2,_=>rfl
  have g2:((0:Int) !=0)=false:=rfl
  repeat'(first|refine yz ?_|refine yi (.int 0) hx ?_|refine yx ?_|(refine yy ?_ ?_<;>intro _)|exact zD|exact zL)
  refine ac1 ?_;exact⟨⟨i+1,by omega⟩,by dsimp only;omega,(zle 0)⟩
 ·have g1:=yF ((i:Int)<(([.int 0,.int 0,.int 0]:List D).length:Int)) (show ¬ (i:Int)<3 by omega)
  exact Ok
theorem cy8:Ev E 255 [.sl [],.sl [],.imm (.func (.func 251) #[] #[])] (.d (.int 0)):=by
 have g1:decide (((0:Nat):Int)<(([]:List D).length:Int))=false:=rfl;have g2:decide ((([]:List D).length:Int)<(([]:List D).length:Int))=false:=rfl;refine ye3 func255 ntmps255 fun _ _ _=>?_
 repeat'(first|refine yz ?_|refine yx ?_|(refine yy ?_ ?_<;>intro _)|exact zD|exact zL)
 refine ac7 (α:=Unit) (fun _=>⟨[(0,.d (.sl [])),(1,.d (.sl [])),(2,.d (.imm (.func (.func 251) #[] #[]))),(11,.d (.sl [])),(12,.d (.int (([]:List D).length:Int))),(13,.d (.int ((0:Nat):Int)))],[]⟩) (fun _=>0) () (zle 0) ?_;rintro-
 exact Ok
def cy9(k:Int):Int:=bif k==3 then 2 else bif k==7 then 9 else k
theorem cz0(v:V):Ev E 301 [enc v] (.d (.int (cy9 v.k))):=by
 unfold cy9
 cases h1:v.k==3 with
 |true=>
  refine ye1 func301 ntmps301 fun _ _ _=>?_
  exact Ok
 |false=>
 cases h2:v.k==7 with
 |true=>
  refine ye1 func301 ntmps301 fun _ _ _=>?_
  exact Ok
 |false=>
  refine ye1 func301 ntmps301 fun _ _ _=>?_
  exact Ok
theorem cz1:Ev E 251 [enc bn9,enc bn9] (.d (.int 0)):=by
 have ca:=cz0 bn9;have hcc:=bt1 (cy9 0) (cy9 0);have hcn:=bt1 0 0;have hcs:=cy6;have hcf:=cy8;have hor:=cy7;have h0:Lib.compareInt (cy9 0) (cy9 0)=0:=Od
 have h00:Lib.compareInt 0 0=0:=Od
 rw[h0]at hcc;rw[h00]at hcn;have h1:((0:Int) !=0)=false:=rfl;have h2:(cy9 0==2)=false:=Od
 have ca:Ev E 301 [enc bn9] (.d (.int (cy9 0))):=ca;refine ye2 func251 ntmps251 fun _ _ _=>?_
 repeat'(first|refine yz ?_|refine qP (d:=11) rfl rfl rfl rfl rfl rfl bq2 (ca) ?_|refine qP (d:=19) rfl rfl rfl rfl rfl rfl bq2 (ca) ?_|refine yp bq2 ca ?_|refine qP (d:=14) rfl rfl rfl rfl rfl rfl b253 (hcc) ?_|refine yp b253 hcn ?_|refine yp b254 hcs ?_|refine yp b255 hcf ?_|refine yp b252 hor ?_|refine yx ?_|(refine yy ?_ ?_<;>intro _)|exact zD|exact zL)
theorem cz2(a:V)(h:Val.okV a=true)(hk:(a.k==0)=false):Ev E 251 [enc a,enc bn9] (.d (.int 1)):=by
 have ca:=cz0 a;have cb:Ev E 301 [enc bn9] (.d (.int (cy9 0))):=cz0 bn9;have hcc:=bt1 (cy9 a.k) (cy9 0)
 have h0:Lib.compareInt (cy9 a.k) (cy9 0)=1:=by
  have hk':a.k≠0:=by simpa using hk
  rcases by0 h with e|e|e|e|e|e|e|e|e
  ·exact absurd e hk'
  all_goals(rw[e];decide)
 rw[h0]at hcc;have h1:((1:Int) !=0)=true:=rfl;refine ye2 func251 ntmps251 fun _ _ _=>?_
 repeat'(first|refine yz ?_|refine qP (d:=11) rfl rfl rfl rfl rfl rfl bq2 (ca) ?_|refine yp bq2 cb ?_|refine yp b253 hcc ?_|refine yx ?_|(refine yy ?_ ?_<;>intro _)|exact zD|exact zL)
theorem cz3(a b:V)(hb:b=bn9:=by rfl):Ev E 175 [enc a,enc b] (.d (.int (cy3 a b))):=by
 subst hb;have va:=bs4 bt7 a;have vb:=bs4 bt7 bn9;rw[show Val.okV bn9=true by decide+kernel]at vb;unfold cy3
 cases h1:Val.okV a with
 |true=>
  rw[h1]at va
  cases h2:a.k==0 with
  |true=>
   obtain rfl:=cy4 h1 (by simpa using h2);have ho:=cz1;refine ye2 func175 ntmps175 fun _ _ _=>?_
   repeat'(first|refine yz ?_|refine yp bp6 vb ?_|refine yp b251 ho ?_|refine yx ?_|(refine yy ?_ ?_<;>intro _)|exact zD|exact zL)
  |false=>
   have ho:=cz2 a h1 h2;refine ye2 func175 ntmps175 fun _ _ _=>?_
   repeat'(first|refine yz ?_|refine qP (d:=8) rfl rfl rfl rfl rfl rfl bp6 (va) ?_|refine yp bp6 vb ?_|refine yp b251 ho ?_|refine yx ?_|(refine yy ?_ ?_<;>intro _)|exact zD|exact zL)
 |false=>
  rw[h1]at va;refine ye2 func175 ntmps175 fun _ _ _=>?_
  repeat'(first|refine yz ?_|refine qP (d:=8) rfl rfl rfl rfl rfl rfl bp6 (va) ?_|refine yp bp6 vb ?_|refine yx ?_|(refine yy ?_ ?_<;>intro _)|exact zD|exact zL)
end Go.Proofs.YtndgolmgaenlfaaGreatDoor
namespace Go.Proofs.YtndgolmgaenlfaaGreatDoor
set_option maxRecDepth 4000
open Go Go.Abs Go.Val Go.Proofs.Tryz
attribute [local irreducible] go SGo an1 Ev au7 EvO EvS PGo RGo cy3
theorem cz4(l:List ByteArray):EvS E 110 [.d (.sl (l.map .str))] [] (.clo 178 [.ptr 0 0]) [ca6 l]:=by
 refine yn func110 ntmps110 fun _ _ _ _=>?_
 repeat'(first|refine yz ?_|refine ba4 rfl rfl rfl rfl rfl ?_|refine bb0 [0] rfl rfl rfl rfl rfl ?_)
 rfl
def cz5(k:Int):Nat:=bif k==1 then 1 else bif k==2 then 1 else bif k==4 then 1 else bif k==3 then 3 else 0
theorem cz6(k:Int):Ev E 172 [.int k] (.d (.int (cz5 k))):=by
 unfold cz5;rcases ca5 k with rfl|rfl|rfl|rfl|⟨h1,h2,h3,h4⟩
 ·refine ye1 func172 ntmps172 fun _ _ _=>?_
  exact Ok
 ·refine ye1 func172 ntmps172 fun _ _ _=>?_
  exact Ok
 ·refine ye1 func172 ntmps172 fun _ _ _=>?_
  exact Ok
 ·refine ye1 func172 ntmps172 fun _ _ _=>?_
  exact Ok
 ·rw[h1,h2,h3,h4];refine ye1 func172 ntmps172 fun _ _ _=>?_
  exact Ok
structure SMm(f:Int→Int→Int)(x:Int)(r:List Int) where
 i:Nat
 m:Int
 hi:i≤r.length
 hm:inR .i64 m
 ok:r.foldl f x=(r.drop i).foldl f m
theorem cz7(x:Int)(r:List Int):Ev E 173 [.sl (iL (x::r))] (.d (.int (r.foldl min x))):=Ev.fit fun hfit=>by
 obtain⟨hmax,hel⟩:=bt9 (hfit (.sl (iL (x::r))) Oc);have hxr:=(hel x Oc).int;have hle:=ca3 (x::r);simp only[ex9]at hmax hle;have g0:decide (((iL (x::r)).length:Int)<1)=false:=by rw[hle];simp;omega
 have h0:(iL (x::r))[(0:Int).toNat]? =some (.int x):=rfl;refine ye1 func173 ntmps173 fun _ _ _=>?_
 repeat'(first|refine yz ?_|refine yi (.int x) h0 ?_)
 refine ac7 (α:=SMm min x r) (fun p=>⟨[(0,.d (.sl (iL (x::r)))),(3,.d (.int p.m)),(4,.d (.int ((p.i+1:Nat):Int)))],[]⟩) (fun p=>r.length-p.i) ⟨0,x,by omega,hxr,rfl⟩ (zle 0) ?_;rintro⟨i,m,hi,hm,ok⟩;dsimp only;rcases ex7 i r.length with hlt|hge
 ·have g1:decide (((i+1:Nat):Int)<((iL (x::r)).length:Int))=true:=by rw[hle];simp;omega
  have hx0:=ex6 hlt;generalize r[i]=y at hx0;have hx:(iL (x::r))[((i+1:Nat):Int).toNat]? =some (.int y):=ca4 (by simpa using hx0);have hyr:=(hel y (by simp[ey0 hx0])).int
  repeat'(first|refine yz ?_|refine yi (.int y) hx ?_)
  refine ac1 ?_;refine⟨⟨i+1,min m y,hlt,?_,by rw[ok,br5 hx0,fb7]⟩,by dsimp only;omega,(zle 0)⟩;simp only[inR,Int.min_def]at hm hyr ⊢;split<;>assumption
 ·have g1:decide (((i+1:Nat):Int)<((iL (x::r)).length:Int))=false:=by rw[hle];simp;omega
  rw[ok,ez5 hge]
  exact Ok
theorem cz8(x:Int)(r:List Int):Ev E 108 [.sl (iL (x::r))] (.d (.int (r.foldl max x))):=Ev.fit fun hfit=>by
 obtain⟨hmax,hel⟩:=bt9 (hfit (.sl (iL (x::r))) Oc);have hxr:=(hel x Oc).int;have hle:=ca3 (x::r);simp only[ex9]at hmax hle;have g0:decide (((iL (x::r)).length:Int)<1)=false:=by rw[hle];simp;omega
 have h0:(iL (x::r))[(0:Int).toNat]? =some (.int x):=rfl;refine ye1 func108 ntmps108 fun _ _ _=>?_
 repeat'(first|refine yz ?_|refine yi (.int x) h0 ?_)
 refine ac7 (α:=SMm max x r) (fun p=>⟨[(0,.d (.sl (iL (x::r)))),(3,.d (.int p.m)),(4,.d (.int ((p.i+1:Nat):Int)))],[]⟩) (fun p=>r.length-p.i) ⟨0,x,by omega,hxr,rfl⟩ (zle 0) ?_;rintro⟨i,m,hi,hm,ok⟩;dsimp only;rcases ex7 i r.length with hlt|hge
 ·have g1:decide (((i+1:Nat):Int)<((iL (x::r)).length:Int))=true:=by rw[hle];simp;omega
  have hx0:=ex6 hlt;generalize r[i]=y at hx0;have hx:(iL (x::r))[((i+1:Nat):Int).toNat]? =some (.int y):=ca4 (by simpa using hx0);have hyr:=(hel y (by simp[ey0 hx0])).int
  repeat'(first|refine yz ?_|refine yi (.int y) hx ?_)
  refine ac1 ?_;refine⟨⟨i+1,max m y,hlt,?_,by rw[ok,br5 hx0,fb7]⟩,by dsimp only;omega,(zle 0)⟩;simp only[inR,Int.max_def]at hm hyr ⊢;split<;>assumption
 ·have g1:decide (((i+1:Nat):Int)<((iL (x::r)).length:Int))=false:=by rw[hle];simp;omega
  rw[ok,ez5 hge]
  exact Ok
theorem cz9:∀(r:List Int) (x:Int),decide (r.foldl min x<0)=(x::r).any fun v=>decide (v<0)
 |[],x=>by simp only[fe1,fd2,List.any_nil,fe0];(try rfl)
 |y::r,x=>by
  rw[fb7,cz9 r (min x y),fd2,fd2,fd2,←Bool.or_assoc];congr 1;rw[fa4];simp only[decide_eq_true_eq,fa2];omega
theorem da0(n:Int):∀(r:List Int) (x:Int),decide (r.foldl max x≥n)=(x::r).any fun v=>decide (v≥n)
 |[],x=>by simp only[fe1,fd2,List.any_nil,fe0];(try rfl)
 |y::r,x=>by
  rw[fb7,da0 n r (max x y),fd2,fd2,fd2,←Bool.or_assoc];congr 1;rw[fa4];simp only[decide_eq_true_eq,fa2];omega
def da1:List ByteArray→Bool
 |[]=>true
 |[_]=>true
 |a::b::r=>Op.bytesLess a.toList b.toList&&da1 (b::r)
theorem da2{l:List ByteArray}{i:Nat}{a b:ByteArray}(ha:l[i]? =some a)(hb:l[i+1]? =some b):da1 (l.drop i)=(Op.bytesLess a.toList b.toList&&da1 (l.drop (i+1))):=by
 rw[br5 ha,br5 hb];rfl
theorem da3{l:List ByteArray}{i:Nat}(h:i+1=l.length):da1 (l.drop i)=true:=by
 obtain⟨a,ha⟩:∃a,l[i]? =some a:=⟨_,ex6 Oa⟩;rw[br5 ha,ez5 Oa];rfl
def nmE(s:ByteArray):Bool:=s.toList==(⟨#[]⟩:ByteArray).toList
def da4(a:AT):Bool:=
 bif cz5 a.k==0||a.vs.length !=cz5 a.k then false else
 bif a.vs.any fun v=>decide (v<0)then false else
 bif (a.k !=3&&decide (a.ty.length>0))||((a.k !=1&&a.k !=2) && !nmE a.nm)then false else
 bif a.k==2 then bo5 a.v else da1 a.ty&&cy3 a.v bn9==0
abbrev oAT(a:AT):aa5:=.var 60 (.w (.d (by8 a)))
structure SRt(l:List ByteArray) where
 i:Nat
 hi:i+1≤l.length∨l=[]
 ok:da1 l=da1 (l.drop i)
theorem da5(a:AT):Ev E 107 [by8 a] (.d (.bool (da4 a))):=Ev.fit fun hfit=>by
 obtain⟨k,vs,nm,ty,v⟩:=a;have hft:=hfit (by8 ⟨k,vs,nm,ty,v⟩) Oc;have hmax:=(bt9 (hft.aggs (.sl (ty.map .str)) Oc)).1;have hle:=ca3 vs;have hlt:(ty.map D.str).length=ty.length:=Oc
 have hpl:=bs5 bt7 v;have hor:=cz3 v bn9;have hna:=cz6 k;rcases ca5 k with rfl|rfl|rfl|rfl|hk
 ·cases hl:vs.length==3 with
  |false=>
   have g1:(((iL vs).length:Int) !=3)=true:=by rw[hle];simp at hl ⊢;omega
   have ea:da4 ⟨3,vs,nm,ty,v⟩=false:=by unfold da4;simp[cz5,bne,hl]
   rw[ea];refine ye1 func107 ntmps107 fun _ _ _=>?_
   repeat'(first|refine yz ?_|refine yp bp0 hna ?_|refine yx ?_|exact zD)
  |true=>
   have hl':vs.length=3:=by simpa using hl
   obtain⟨x,r,rfl⟩:=fh2 (fun h:vs=[]=>by rw[h]at hl';simp at hl');have g1:(((iL (x::r)).length:Int) !=3)=false:=by rw[hle,hl'];rfl
   have hmin:=cz7 x r;have hmn:=cz9 r x
   cases hm:decide (r.foldl min x<0)with
   |true=>
    have ea:da4 ⟨3,x::r,nm,ty,v⟩=false:=by unfold da4;rw[hm]at hmn;dsimp only;rw[←hmn,hl'];rfl
    rw[ea];refine ye1 func107 ntmps107 fun _ _ _=>?_
    repeat'(first|refine yz ?_|refine yp bp0 hna ?_|refine yp bp1 hmin ?_|refine yx ?_|exact zD)
   |false=>
    rw[hm]at hmn
    cases hn:nmE nm with
    |false=>
     have g3:(nm.toList==(⟨#[]⟩:ByteArray).toList)=false:=hn;have g3n:(!(nm.toList==(⟨#[]⟩:ByteArray).toList))=true:=by rw[g3];rfl
     have ea:da4 ⟨3,x::r,nm,ty,v⟩=false:=by unfold da4;dsimp only;rw[←hmn,hl',hn];rfl
     rw[ea];refine ye1 func107 ntmps107 fun _ _ _=>?_
     repeat'(first|refine yz ?_|refine yp bp0 hna ?_|refine yp bp1 hmin ?_|refine yx ?_|exact zD)
    |true=>
     have g3:(nm.toList==(⟨#[]⟩:ByteArray).toList)=true:=hn;have g3n:(!(nm.toList==(⟨#[]⟩:ByteArray).toList))=false:=by rw[g3];rfl
     have ea:da4 ⟨3,x::r,nm,ty,v⟩=(da1 ty&&cy3 v bn9==0):=by unfold da4;dsimp only;rw[←hmn,hl',hn];rfl
     rw[ea];refine ye1 func107 ntmps107 fun _ _ _=>?_
     repeat'(first|refine yz ?_|refine yp bp0 hna ?_|refine yp bp1 hmin ?_|refine yx ?_)
     refine ac7 (α:=SRt ty) (fun p=>⟨[(1,.ptr 0 0),(4,.d (.int ((p.i+1:Nat):Int)))],[oAT ⟨3,x::r,nm,ty,v⟩]⟩) (fun p=>ty.length-p.i) ⟨0,(by cases ty with|nil=>exact .inr rfl|cons _ _=>left;simp),rfl⟩ (zle 1) ?_;rintro⟨i,hi,ok⟩;dsimp only;rcases ex7 (i+1) ty.length with hlt2|hge
     ·have g4:decide (((i+1:Nat):Int)<((ty.map D.str).length:Int))=true:=by rw[hlt];simp;omega
      have ha0:=ex6 (show i<ty.length by omega);have hb0:=ex6 hlt2;generalize ty[i]=a at ha0;generalize ty[i+1]=b at hb0;have hb:=bt8 (f:=D.str) hb0
      have ha:(ty.map D.str)[(((i+1:Nat):Int) -1).toNat]? =some (.str a):=by
       rw[show(((i+1:Nat):Int) -1)=(i:Int) by omega];exact bt8 (f:=D.str) ha0
      have hnx:=da2 ha0 hb0
      cases hc:Op.bytesLess a.toList b.toList with
      |true=>
       have hcn:(!Op.bytesLess a.toList b.toList)=false:=by rw[hc];rfl
       rw[hc,fc1]at hnx
       repeat'(first|refine yz ?_|refine yi (.str b) hb ?_|refine yi (.str a) ha ?_)
       refine ac1 ?_;exact⟨⟨i+1,.inl Oa,ok.trans hnx⟩,by dsimp only;omega,(zle 1)⟩
      |false=>
       have hcn:(!Op.bytesLess a.toList b.toList)=true:=by rw[hc];rfl
       rw[hc,fe6]at hnx;rw[ok,hnx]
       repeat'(first|refine yz ?_|refine yi (.str b) hb ?_|refine yi (.str a) ha ?_|exact zD)
     ·have g4:decide (((i+1:Nat):Int)<((ty.map D.str).length:Int))=false:=by rw[hlt];simp;omega
      have he:da1 (ty.drop i)=true:=by
       rcases hi with hi|hi
       ·exact da3 Oa
       ·rw[hi];simp[da1]
      rw[ok,he,fc1]
      repeat'(first|refine yz ?_|refine yp b175 hor ?_|exact zD)
 ·cases hl:vs.length==1 with
  |false=>
   have g1:(((iL vs).length:Int) !=1)=true:=by rw[hle];simp at hl ⊢;omega
   have ea:da4 ⟨1,vs,nm,ty,v⟩=false:=by unfold da4;simp[cz5,bne,hl]
   rw[ea];refine ye1 func107 ntmps107 fun _ _ _=>?_
   repeat'(first|refine yz ?_|refine yp bp0 hna ?_|refine yx ?_|exact zD)
  |true=>
   have hl':vs.length=1:=by simpa using hl
   obtain⟨x,r,rfl⟩:=fh2 (fun h:vs=[]=>by rw[h]at hl';simp at hl');have g1:(((iL (x::r)).length:Int) !=1)=false:=by rw[hle,hl'];rfl
   have hmin:=cz7 x r;have hmn:=cz9 r x
   cases hm:decide (r.foldl min x<0)with
   |true=>
    have ea:da4 ⟨1,x::r,nm,ty,v⟩=false:=by unfold da4;rw[hm]at hmn;dsimp only;rw[←hmn,hl'];rfl
    rw[ea];refine ye1 func107 ntmps107 fun _ _ _=>?_
    repeat'(first|refine yz ?_|refine yp bp0 hna ?_|refine yp bp1 hmin ?_|refine yx ?_|exact zD)
   |false=>
    rw[hm]at hmn
    cases hty:decide (ty.length>0)with
    |true=>
     have g2:decide (((ty.map D.str).length:Int)>0)=true:=by rw[hlt];simpa using hty
     have ea:da4 ⟨1,x::r,nm,ty,v⟩=false:=by unfold da4;dsimp only;rw[←hmn,hl',hty];rfl
     rw[ea];refine ye1 func107 ntmps107 fun _ _ _=>?_
     repeat'(first|refine yz ?_|refine yp bp0 hna ?_|refine yp bp1 hmin ?_|refine yx ?_|exact zD)
    |false=>
     have g2:decide (((ty.map D.str).length:Int)>0)=false:=by rw[hlt];simpa using hty
     have hty0:ty=[]:=by simpa using hty
     subst hty0;have ea:da4 ⟨1,x::r,nm,[],v⟩=(da1 [] &&cy3 v bn9==0):=by unfold da4;dsimp only;rw[←hmn,hl'];rfl
     rw[ea];refine ye1 func107 ntmps107 fun _ _ _=>?_
     repeat'(first|refine yz ?_|refine yp bp0 hna ?_|refine yp bp1 hmin ?_|refine yx ?_)
     refine ac7 (α:=Unit) (fun p=>⟨[(1,.ptr 0 0),(4,.d (.int 1))],[oAT ⟨1,x::r,nm,[],v⟩]⟩) (fun p=>0) () (zle 1) ?_;rintro-;have g4:decide ((1:Int)<(([]:List D).length:Int))=false:=rfl
     repeat'(first|refine yz ?_|refine yp b175 hor ?_|exact zD)
 ·cases hl:vs.length==1 with
  |false=>
   have g1:(((iL vs).length:Int) !=1)=true:=by rw[hle];simp at hl ⊢;omega
   have ea:da4 ⟨2,vs,nm,ty,v⟩=false:=by unfold da4;simp[cz5,bne,hl]
   rw[ea];refine ye1 func107 ntmps107 fun _ _ _=>?_
   repeat'(first|refine yz ?_|refine yp bp0 hna ?_|refine yx ?_|exact zD)
  |true=>
   have hl':vs.length=1:=by simpa using hl
   obtain⟨x,r,rfl⟩:=fh2 (fun h:vs=[]=>by rw[h]at hl';simp at hl');have g1:(((iL (x::r)).length:Int) !=1)=false:=by rw[hle,hl'];rfl
   have hmin:=cz7 x r;have hmn:=cz9 r x
   cases hm:decide (r.foldl min x<0)with
   |true=>
    have ea:da4 ⟨2,x::r,nm,ty,v⟩=false:=by unfold da4;rw[hm]at hmn;dsimp only;rw[←hmn,hl'];rfl
    rw[ea];refine ye1 func107 ntmps107 fun _ _ _=>?_
    repeat'(first|refine yz ?_|refine yp bp0 hna ?_|refine yp bp1 hmin ?_|refine yx ?_|exact zD)
   |false=>
    rw[hm]at hmn
    cases hty:decide (ty.length>0)with
    |true=>
     have g2:decide (((ty.map D.str).length:Int)>0)=true:=by rw[hlt];simpa using hty
     have ea:da4 ⟨2,x::r,nm,ty,v⟩=false:=by unfold da4;dsimp only;rw[←hmn,hl',hty];rfl
     rw[ea];refine ye1 func107 ntmps107 fun _ _ _=>?_
     repeat'(first|refine yz ?_|refine yp bp0 hna ?_|refine yp bp1 hmin ?_|refine yx ?_|exact zD)
    |false=>
     have g2:decide (((ty.map D.str).length:Int)>0)=false:=by rw[hlt];simpa using hty
     have hty0:ty=[]:=by simpa using hty
     subst hty0;have ea:da4 ⟨2,x::r,nm,[],v⟩=bo5 v:=by unfold da4;dsimp only;rw[←hmn,hl'];rfl
     rw[ea];refine ye1 func107 ntmps107 fun _ _ _=>?_
     repeat'(first|refine yz ?_|refine yp bp0 hna ?_|refine yp bp1 hmin ?_|refine yp b174 hpl ?_|refine yx ?_|exact zD)
 ·cases hl:vs.length==1 with
  |false=>
   have g1:(((iL vs).length:Int) !=1)=true:=by rw[hle];simp at hl ⊢;omega
   have ea:da4 ⟨4,vs,nm,ty,v⟩=false:=by unfold da4;simp[cz5,bne,hl]
   rw[ea];refine ye1 func107 ntmps107 fun _ _ _=>?_
   repeat'(first|refine yz ?_|refine yp bp0 hna ?_|refine yx ?_|exact zD)
  |true=>
   have hl':vs.length=1:=by simpa using hl
   obtain⟨x,r,rfl⟩:=fh2 (fun h:vs=[]=>by rw[h]at hl';simp at hl');have g1:(((iL (x::r)).length:Int) !=1)=false:=by rw[hle,hl'];rfl
   have hmin:=cz7 x r;have hmn:=cz9 r x
   cases hm:decide (r.foldl min x<0)with
   |true=>
    have ea:da4 ⟨4,x::r,nm,ty,v⟩=false:=by unfold da4;rw[hm]at hmn;dsimp only;rw[←hmn,hl'];rfl
    rw[ea];refine ye1 func107 ntmps107 fun _ _ _=>?_
    repeat'(first|refine yz ?_|refine yp bp0 hna ?_|refine yp bp1 hmin ?_|refine yx ?_|exact zD)
   |false=>
    rw[hm]at hmn
    cases hty:decide (ty.length>0)with
    |true=>
     have g2:decide (((ty.map D.str).length:Int)>0)=true:=by rw[hlt];simpa using hty
     have ea:da4 ⟨4,x::r,nm,ty,v⟩=false:=by unfold da4;dsimp only;rw[←hmn,hl',hty];rfl
     rw[ea];refine ye1 func107 ntmps107 fun _ _ _=>?_
     repeat'(first|refine yz ?_|refine yp bp0 hna ?_|refine yp bp1 hmin ?_|refine yx ?_|exact zD)
    |false=>
     have g2:decide (((ty.map D.str).length:Int)>0)=false:=by rw[hlt];simpa using hty
     have hty0:ty=[]:=by simpa using hty
     subst hty0
     cases hn:nmE nm with
     |false=>
      have g3:(nm.toList==(⟨#[]⟩:ByteArray).toList)=false:=hn;have g3n:(!(nm.toList==(⟨#[]⟩:ByteArray).toList))=true:=by rw[g3];rfl
      have ea:da4 ⟨4,x::r,nm,[],v⟩=false:=by unfold da4;dsimp only;rw[←hmn,hl',hn];rfl
      rw[ea];refine ye1 func107 ntmps107 fun _ _ _=>?_
      repeat'(first|refine yz ?_|refine yp bp0 hna ?_|refine yp bp1 hmin ?_|refine yx ?_|exact zD)
     |true=>
      have g3:(nm.toList==(⟨#[]⟩:ByteArray).toList)=true:=hn;have g3n:(!(nm.toList==(⟨#[]⟩:ByteArray).toList))=false:=by rw[g3];rfl
      have ea:da4 ⟨4,x::r,nm,[],v⟩=(da1 [] &&cy3 v bn9==0):=by unfold da4;dsimp only;rw[←hmn,hl',hn];rfl
      rw[ea];refine ye1 func107 ntmps107 fun _ _ _=>?_
      repeat'(first|refine yz ?_|refine yp bp0 hna ?_|refine yp bp1 hmin ?_|refine yx ?_)
      refine ac7 (α:=Unit) (fun p=>⟨[(1,.ptr 0 0),(4,.d (.int 1))],[oAT ⟨4,x::r,nm,[],v⟩]⟩) (fun p=>0) () (zle 1) ?_;rintro-;have g4:decide ((1:Int)<(([]:List D).length:Int))=false:=rfl
      repeat'(first|refine yz ?_|refine yp b175 hor ?_|exact zD)
 ·obtain⟨h3,h1,h2,h4⟩:=hk;have e0:cz5 k=0:=by unfold cz5;rw[h1,h2,h4,h3];rfl
  have ea:da4 ⟨k,vs,nm,ty,v⟩=false:=by unfold da4;dsimp only;rw[e0];rfl
  rw[e0]at hna;rw[ea];refine ye1 func107 ntmps107 fun _ _ _=>?_
  repeat'(first|refine yz ?_|refine yp bp0 hna ?_|exact zD)
theorem da6(s:ByteArray):Ev E 180 [.str s] (.d (.bool (!bv6 s))):=by
 have h:=bw0 s;refine ye1 func180 ntmps180 fun _ _ _=>?_
 repeat'(first|refine yz ?_|refine yp b179 h ?_|exact zD)
theorem da7{α:Type}{l:List α}{f:α→Bool}{i:Nat}{x:α}(hx:l[i]? =some x)(hc:f x=true)(h:∀j,j<i→∀y,l[j]? =some y→f y=false):l.findIdx? f=some i:=by
 have hi:=(ey1.1 hx).1;rw[fh7];refine⟨hi,?_,fun j hj=>?_⟩
 ·rw[ex6 hi]at hx
  cases hx
  exact hc
 ·have:=h j hj _ (ex6 Oa);simpa using this
theorem da8{α:Type}{l:List α}{f:α→Bool}(h:∀j,j<l.length→∀y,l[j]? =some y→f y=false):l.findIdx? f=none:=by
 rw[fh8];intro x hx;obtain⟨j,hj⟩:=ez7 hx;exact h j (ey1.1 hj).1 x hj
theorem da9{α:Type}{l:List α}{f:α→Bool}:decide (optI (l.findIdx? f)≥0)=l.any f:=by
 cases h:l.findIdx? f with
 |none=>
  rw[fh8]at h;have:l.any f=false:=by rw[fc2];intro x hx;simpa using h x hx
  rw[this];rfl
 |some i=>
  obtain⟨hi,h1,-⟩:=fh7.1 h;have:l.any f=true:=fg7.2 ⟨_,fd6 hi,h1⟩;rw[this];simp[optI]
structure SFi{α:Type}(l:List α)(f:α→Bool) where
 i:Nat
 hi:i≤l.length
 ok:∀j,j<i→∀y,l[j]? =some y→f y=false
theorem SFi.next{α:Type}{l:List α}{f:α→Bool}{i:Nat}{x:α}(hx:l[i]? =some x)(hc:f x=false)(h:∀j,j<i→∀y,l[j]? =some y→f y=false):∀j,j<i+1→∀y,l[j]? =some y→f y=false:=by
 intro j hj y hy;rcases Nat.lt_succ_iff_lt_or_eq.1 hj with h1|rfl
 ·exact h j h1 y hy
 ·rw[hx]at hy;cases hy;exact hc
theorem db0(fn:FuncId)(hb:an1 E fn)(f:ByteArray→Bool)(l:List ByteArray)(hf:∀x∈l,Ev E fn [.str x] (.d (.bool (f x)))):Ev E 187 [.sl (l.map .str),.imm (.func (.func fn) #[] #[])] (.d (.int (optI (l.findIdx? f)))):=Ev.fit fun hfit=>by
 have hmax:=(bt9 (hfit (.sl (l.map .str)) Oc)).1;have hle:(l.map D.str).length=l.length:=Oc
 refine ye2 func187 ntmps187 fun _ _ _=>?_
 repeat'(refine yz ?_)
 refine ac7 (α:=SFi l f) (fun p=>⟨[(0,.d (.sl (l.map .str))),(1,.d (.imm (.func (.func fn) #[] #[]))),(7,.d (.int (l.map D.str).length)),(8,.d (.int p.i))],[]⟩) (fun p=>l.length-p.i) ⟨0,by omega,fun j hj=>absurd hj Oa⟩ (zle 0) ?_;rintro⟨i,hi,ok⟩;dsimp only;rcases ex7 i l.length with hlt|hge
 ·have g1:decide ((i:Int)<((l.map D.str).length:Int))=true:=by rw[hle];simpa using hlt
  have hx0:=ex6 hlt;generalize l[i]=y at hx0;have hx:=bt8 (f:=D.str) hx0;have h:=hf y (ey0 hx0)
  cases hc:f y with
  |true=>
   rw[hc]at h;rw[da7 hx0 hc ok]
   repeat'(first|refine yz ?_|refine yi (.str y) hx ?_|refine yp hb h ?_|exact zD)
  |false=>
   rw[hc]at h
   repeat'(first|refine yz ?_|refine yi (.str y) hx ?_|refine yp hb h ?_)
   refine ac1 ?_;exact⟨⟨i+1,by omega,SFi.next hx0 hc ok⟩,by dsimp only;omega,(zle 0)⟩
 ·have g1:decide ((i:Int)<((l.map D.str).length:Int))=false:=by rw[hle];simp;omega
  rw[da8 fun j hj=>ok j Oa]
  exact Ok
theorem db1(fn:FuncId)(hb:an1 E fn)(f:ByteArray→Bool)(l:List ByteArray)(hf:∀x∈l,Ev E fn [.str x] (.d (.bool (f x)))):Ev E 120 [.sl (l.map .str),.imm (.func (.func fn) #[] #[])] (.d (.bool (l.any f))):=by
 have h:=db0 fn hb f l hf;rw[←da9];refine ye2 func120 ntmps120 fun _ _ _=>?_
 repeat'(first|refine yz ?_|refine yp b187 h ?_|exact zD)
def db2(a:AT):Bool:= !((a.k==1||a.k==2) && !bv6 a.nm) && !(a.ty.any fun t=> !bv6 t)
theorem db3(a:AT):Ev E 112 [by8 a] (.d (.bool (db2 a))):=by
 obtain⟨k,vs,nm,ty,v⟩:=a;have h1:=bw0 nm;have h2:=db1 180 b180 (fun t=> !bv6 t) ty fun x _=>da6 x
 refine ye1 func112 ntmps112 fun _ _ _=>?_
 repeat'(first|refine yz ?_|refine yp b179 h1 ?_|refine yp b120 h2 ?_|(refine yy ?_ ?_<;>intro _)|(refine qV rfl ?_ ?_<;>intro _))
 all_goals(refine congrArg D.bool ?_;clear h1 h2;simp_all [db2])
def twF(l:List ByteArray):Bool:=(List.range l.length).any fun i=>(List.range i).any fun k=>match l[i]?,l[k]? with|some a,some b=>a.toList==b.toList|_,_=>false
def db4(l:List AT)(v:Int):Bool:=l.any fun a=>a.vs.any fun y=>y==v
structure SNo{α:Type}(l:List α)(f:α→Bool) where
 i:Nat
 hi:i≤l.length
 ok:l.any f=(l.drop i).any f
theorem db5{α:Type}{l:List α}{f:α→Bool}{i:Nat}{x:α}(h:l[i]? =some x):(l.drop i).any f=(f x||(l.drop (i+1)).any f):=by rw[br5 h,fd2]
def bL(l:List Bool):List D:=l.map D.bool
theorem db6(l:List Bool)(x:Bool):Ev E 181 [.sl (bL l),.bool x] (.d (.int (optI (l.findIdx? fun y=>x==y)))):=Ev.fit fun hfit=>by
 have hmax:=(bt9 (hfit (.sl (bL l)) Oc)).1;have hle:(bL l).length=l.length:=by simp[bL]
 refine ye2 func181 ntmps181 fun _ _ _=>?_
 repeat'(refine yz ?_)
 refine ac7 (α:=SFi l fun y=>x==y) (fun p=>⟨[(0,.d (.sl (bL l))),(1,.d (.bool x)),(7,.d (.int (bL l).length)),(8,.d (.int p.i))],[]⟩) (fun p=>l.length-p.i) ⟨0,by omega,fun j hj=>absurd hj Oa⟩ (zle 0) ?_;rintro⟨i,hi,ok⟩;dsimp only;rcases ex7 i l.length with hlt|hge
 ·have g1:decide ((i:Int)<((bL l).length:Int))=true:=by rw[hle];simpa using hlt
  have hx0:=ex6 hlt;generalize l[i]=y at hx0;have hx:(bL l)[(i:Int).toNat]? =some (.bool y):=bt8 (f:=D.bool) hx0
  cases hc:x==y with
  |true=>
   rw[da7 hx0 hc ok]
   repeat'(first|refine yz ?_|refine yi (.bool y) hx ?_|exact zD)
  |false=>
   repeat'(first|refine yz ?_|refine yi (.bool y) hx ?_)
   refine ac1 ?_;exact⟨⟨i+1,by omega,SFi.next hx0 hc ok⟩,by dsimp only;omega,(zle 0)⟩
 ·have g1:decide ((i:Int)<((bL l).length:Int))=false:=by rw[hle];simp;omega
  rw[da8 fun j hj=>ok j Oa]
  exact Ok
theorem db7(l:List Bool)(x:Bool):Ev E 113 [.sl (bL l),.bool x] (.d (.bool (l.any fun y=>x==y))):=by
 have h:=db6 l x;rw[←da9];refine ye2 func113 ntmps113 fun _ _ _=>?_
 repeat'(first|refine yz ?_|refine yp b181 h ?_|exact zD)
end Go.Proofs.YtndgolmgaenlfaaGreatDoor
namespace Go.Proofs.YtndgolmgaenlfaaGreatDoor
set_option maxRecDepth 4000
open Go Go.Abs Go.Val Go.RowKit Go.Sort Go.Proofs Go.Proofs.Tryz
theorem db8:EvS E 109 [.clo 178 [.ptr 0 0]] [ca6 []] .nilS [ca6 []]:=by
 intro w F σ vs hi hl hr
 match vs,hl with
 |[v0],_=>
  obtain⟨us,rfl,ul,ur⟩:=hr 0 _ _ rfl rfl
  match us,ul with
  |[u0],_=>
   obtain⟨b,c,n,e1,rfl⟩:=ur 0 _ _ rfl rfl;obtain⟨cs,g1,g2,g3,g4,g5,g6⟩:=hi.obs 0 _ _ rfl e1
   match cs,g2 with
   |[sv],_=>
    have hrd:Rd w F (.sl (([]:List ByteArray).map .str)) sv:=g4 0 (.d (.sl (([]:List ByteArray).map .str))) sv rfl rfl;have hbl:b<w.heap.size:=(ff8.1 g1).1
    obtain⟨p,cap,rfl⟩:∃p cap,sv=.slice p 0 cap:=by
     rcases Rd.sl_inv hrd with⟨-,rfl⟩|⟨size,ad,cap,rfl,-⟩
     ·exact⟨_,_,rfl⟩
     ·exact⟨_,_,rfl⟩
    have hG:bz5 2 b [] w:=bz8 (p:=p) (cap:=cap) hbl (by simp only[World.cell?,g1];simp);refine(ca2 b [] Od Od w hG).mono ?_;rintro e w' ⟨v,rfl,hrow,hnil,hb⟩;have hv:v=.slice none 0 0:=hnil.2 rfl;exact⟨_,F,σ,rfl,aa7.of_below hb fun k hk=>hk.1,fun _ h=>h,fun _ h=>.inl h,fun i p hi hp=>hp,(ab2.lend hi).ext (Ext.of_below hb hi.flt),hv⟩
theorem db9:Ev E 111 [.sl []] (.d (.sl [])):=by
 refine ye1 func111 ntmps111 fun _ _ _=>?_
 exact Ok
theorem dc0{α:Type}{p:α→Bool}:∀{l:List α},(l.filter p).length<l.length↔∃x∈l,p x=false
 |[]=>by simp
 |x::l=>by
  have ih:=dc0 (p:=p) (l:=l);have hle:=ff5 p l
  cases h:p x with
  |true=>
   rw[List.filter_cons_of_pos h,ex9,ex9,Nat.add_lt_add_iff_right,ih];constructor
   ·rintro⟨y,hy,hp⟩;exact⟨y,fe2 _ hy,hp⟩
   ·rintro⟨y,hy,hp⟩;rcases ey2.1 hy with rfl|hy
    ·rw[h]at hp;cases hp
    ·exact⟨y,hy,hp⟩
  |false=>
   rw[List.filter_cons_of_neg (by rw[h];decide),ex9];exact⟨fun _=>⟨x,fh1,h⟩,fun _=>by omega⟩
theorem dc1{zs:List (List UInt8)}(hs:zs.Pairwise fun x y=>x≤y):(∃j,j<zs.length∧Lib.keeps zs.toArray j=false)↔ ¬ zs.Nodup:=by
 have hg:∀j,j<zs.length→zs.toArray[j]! =zs[j]! :=fun j hj=>by simp
 constructor
 ·rintro⟨j,hj,hk⟩ hn;simp only[Lib.keeps,decide_eq_false_iff_not,not_or,Classical.not_not]at hk;obtain⟨h0,h1⟩:=hk;rw[hg j hj,hg (j-1) Oa,getElem!_pos zs j hj,getElem!_pos zs (j-1) Oa]at h1;rw[List.Nodup,List.pairwise_iff_getElem]at hn;exact hn (j-1) j Oa hj Oa h1.symm
 ·intro hn;rw[List.Nodup,List.pairwise_iff_getElem]at hn;simp only[Classical.not_forall]at hn;obtain⟨i,j,hi,hj,hij,he⟩:=hn;have he:zs[i]=zs[j]:=Classical.byContradiction fun h=>he h
  refine⟨i+1,by omega,?_⟩;simp only[Lib.keeps,decide_eq_false_iff_not,not_or];refine⟨by omega,fun h=>h ?_⟩;rw[hg (i+1) Oa,hg (i+1-1) Oa,getElem!_pos zs (i+1) Oa,getElem!_pos zs (i+1-1) Oa];have hp:=List.pairwise_iff_getElem.1 hs;have h1:zs[i+1-1]≤zs[i+1]:=hp _ _ _ _ Oa;refine List.le_antisymm ?_ h1
  have h2:zs[i+1]≤zs[j]:=by
   rcases ex7 (i+1) j with h|h
   ·exact hp _ _ _ _ h
   ·have:i+1=j:=by omega
    subst this;exact List.le_refl _
  show zs[i+1]≤zs[i];rw[he];exact h2
theorem dc2(l:List ByteArray):twF l=true↔ ¬ (ca7 l).Nodup:=by
 rw[List.Nodup,List.pairwise_iff_getElem];unfold twF;simp only[fg7,fb5];constructor
 ·rintro⟨i,hi,k,hk,h⟩ hn;rw[ex6 hi,ex6 (show k<l.length by omega)]at h;have hlen:(ca7 l).length=l.length:=by simp[ca7]
  refine hn k i Oa Oa hk ?_;have h':l[i].toList=l[k].toList:=by simpa using h
  simp only[ca7,List.getElem_map];rw[ByteArray.toList_eq,ByteArray.toList_eq]at h';exact h'.symm
 ·intro hn;simp only[Classical.not_forall]at hn;obtain⟨i,j,hi,hj,hij,he⟩:=hn;have he:(ca7 l)[i]=(ca7 l)[j]:=Classical.byContradiction fun h=>he h
  have hlen:(ca7 l).length=l.length:=by simp[ca7]
  refine⟨j,by omega,i,hij,?_⟩;rw[ex6 (show j<l.length by omega),ex6 (show i<l.length by omega)];simp only[ca7,List.getElem_map]at he;simp only[beq_iff_eq];rw[ByteArray.toList_eq,ByteArray.toList_eq];exact he.symm
theorem dc3(l:List ByteArray):decide (((ca8 (Lib.compact (sortU (ca7 l)))).length:Int)<((l.map D.str).length:Int))=twF l:=by
 have hlen:(sortU (ca7 l)).length=l.length:=by simp[sortU,ca7]
 have hsl:(sortU (ca7 l)).Pairwise fun x y=>x≤y:=by
  have:=List.pairwise_mergeSort (le:=fun x y:List UInt8=>decide (x≤y)) (fun a b c h1 h2=>by simp only[decide_eq_true_eq]at*;exact List.le_trans h1 h2) (fun a b=>by simp only[fa2,decide_eq_true_eq];exact List.le_total a b) (ca7 l);exact this.imp fun h=>by simpa using h
 have hnd:(sortU (ca7 l)).Nodup↔(ca7 l).Nodup:=(List.mergeSort_perm _ _).nodup_iff
 have hc:(Lib.compact (sortU (ca7 l))).length<l.length↔∃j,j<(sortU (ca7 l)).length∧Lib.keeps (sortU (ca7 l)).toArray j=false:=by
  unfold Lib.compact Lib.compactUpTo;rw[ey4];have:=dc0 (p:=Lib.keeps (sortU (ca7 l)).toArray) (l:=List.range (sortU (ca7 l)).length);rw[List.length_range,hlen]at this;rw[hlen];simpa[fb5]using this
 rw[fa4,decide_eq_true_eq,dc2,←hnd,←dc1 hsl,←hc];simp[ca8]
def dc4(n:Int)(a:AT):Bool:= !da4 a||a.vs.any fun v=>decide (v≥n)
def dc5(n:Nat)(f:Nat→Bool):List Bool:=(List.range n).map f
def dc6(c:CJ):Int:=
 bif decide (c.vs.length>24)||decide (c.as.length>12)then 4 else
 bif c.as.any (dc4 c.vs.length)then 1 else
 bif twF c.vs then 7 else
 bif c.as.any (fun a=> !db2 a)then 6 else
 bif (List.range c.vs.length).any (fun j=> !db4 c.as j)then 25 else 0
theorem dc7(n:Nat)(f:Nat→Bool)(v:Int)(h0:0≤v)(h1:v<n):(bL (dc5 n f)).set v.toNat (.bool true)=bL (dc5 n fun j=>f j||v==(j:Int)):=by
 unfold bL dc5;rw[←List.map_set];congr 1;apply List.ext_getElem
 ·simp
 ·intro i hi hj;simp only[List.length_set,ey4,List.length_range]at hi;rw[List.getElem_set];simp only[List.getElem_map,List.getElem_range];split
  ·rename_i h
   have:v=(i:Int):=Oa
   simp[this]
  ·rename_i h
   have:(v==(i:Int))=false:=by rw[beq_eq_false_iff_ne];omega
   rw[this,fe0]
theorem dc8(n:Nat)(f:Nat→Bool)(v:Int)(h0:0≤v)(h1:v<n):(bL (dc5 n f))[v.toNat]? =some (.bool (f v.toNat)):=by
 unfold bL dc5;rw[ey3,ey3,fe3 Oa];rfl
theorem dc9(n:Nat)(f:Nat→Bool):((dc5 n f).any fun y=>false==y)=(List.range n).any fun j=> !f j:=by
 unfold dc5;rw[List.any_map];congr 1
 funext j
 simp only[Function.comp]
 cases f j<;>rfl
theorem dd0(n:Nat):(List.replicate n (D.bool false))=bL (dc5 n fun _=>false):=by
 unfold bL dc5;apply List.ext_getElem
 ·simp
 ·intro i hi hj;simp
theorem dd1{l:List AT}{i:Nat}{a:AT}(h:l[i]? =some a)(v:Int):db4 (l.take (i+1)) v=(db4 (l.take i) v||a.vs.any fun y=>y==v):=by
 unfold db4;have hi:=(ey1.1 h);rw[fc0,h,Option.toList_some,List.any_append,fd2,List.any_nil,fe0]
theorem dd2{α:Type}{l:List α}{i:Nat}{x:α}{f:α→Bool}(h:l[i]? =some x):(l.take (i+1)).any f=((l.take i).any f||f x):=by
 rw[fc0,h,Option.toList_some,List.any_append,fd2,List.any_nil,fe0]
theorem dd3{a:AT}(h:da4 a=true):a.vs.length=cz5 a.k∧cz5 a.k≠0∧(a.vs.any fun v=>decide (v<0))=false:=by
 unfold da4 at h
 cases h1:(cz5 a.k==0||a.vs.length !=cz5 a.k)with
 |true=>rw[h1]at h;cases h
 |false=>
  rw[h1]at h
  cases h2:(a.vs.any fun v=>decide (v<0))with
  |true=>rw[h2]at h;cases h
  |false=>
   rw[fa9]at h1;refine⟨?_,?_,rfl⟩
   ·simpa using h1.2
   ·simpa using h1.1
end Go.Proofs.YtndgolmgaenlfaaGreatDoor
namespace Go.Proofs.YtndgolmgaenlfaaGreatDoor
set_option maxRecDepth 4000
open Go Go.Abs Go.Val Go.RowKit Go.Proofs.Tryz
structure PB where
 op:Int
 cj:CJ
 cl:CL
 e:Ex
 nm:ByteArray
 it:List IT
 od:List SK
 sk:Int
 lm:Int
inductive Pl where
 |mk (b:PB) (ks:List Pl)
def Pl.b:Pl→PB|.mk b _=>b
def Pl.ks:Pl→List Pl|.mk _ ks=>ks
theorem dd4{P:Pl→Prop}(h:∀b ks,(∀x∈ks,P x)→P (.mk b ks))(p:Pl):P p:=
 Pl.rec (motive_1:=P) (motive_2:=fun l=>∀x∈l,P x) (fun b ks ih=>h b ks ih) (fun x hx=>by cases hx)
  (fun a r ha hr x hx=>by rcases ey2.1 hx with rfl|hx;exact ha;exact hr x hx) p
def dd5(b:PB)(K:List D):D:=.agg [.int b.op,.sl K,.sl (b.cj.vs.map .str),.sl (b.cj.as.map by8),
 .int b.cl.k,.bool b.cl.opt,.bool b.cl.ds,.sl (b.cl.ps.map ci8),.sl (bu4 b.cl.wh),.int b.cl.e.op,.int b.cl.e.v.k,.int b.cl.e.v.n,.int b.cl.e.v.d,.str b.cl.e.v.s,.sl (kids b.cl.e.v),.str b.cl.e.nm,.bool b.cl.e.ds,.sl (bu3 b.cl.e),
 .str b.cl.nm,.sl (b.cl.it.map ci9),.sl (b.cl.od.map cj0),.int b.cl.sk,.int b.cl.lm,.sl (b.cl.st.map cj1),.sl (b.cl.ns.map .str),
 .int b.e.op,.int b.e.v.k,.int b.e.v.n,.int b.e.v.d,.str b.e.v.s,.sl (kids b.e.v),.str b.e.nm,.bool b.e.ds,.sl (bu3 b.e),
 .str b.nm,.sl (b.it.map ci9),.sl (b.od.map cj0),.int b.sk,.int b.lm]
mutual
def dd6:Pl→D
 |.mk b ks=>dd5 b (dd7 ks)
def dd7:List Pl→List D
 |[]=>[]
 |p::r=>dd6 p::dd7 r
end
theorem dd8:∀l:List Pl,dd7 l=l.map dd6
 |[]=>rfl
 |p::r=>by rw[dd7,fa1,dd8 r]
theorem dd9(b:PB)(ks:List Pl):dd6 (.mk b ks)=dd5 b (ks.map dd6):=by rw[dd6,dd8]
def de0(op:Int):Int:=bif op==1||op==2 then 0 else bif op==3||op==4 then 2 else bif decide (op≥5) &&decide (op≤11)then 1 else-1
def de1(c:CL):Bool:=c.k==0&&(!c.opt&&(!c.ds&&(c.ps.length==0&&(c.wh.length==0&&(ck8 c.e&&(s0B c.nm&&(c.it.length==0&&(c.od.length==0&&(c.sk==0&&(c.lm==0&&(c.st.length==0&&c.ns.length==0)))))))))))
def fldF(b:PB):Bool:=
 (b.op==2||b.cj.vs.length==0&&b.cj.as.length==0) &&((bif b.op==5 then b.cl.k==1 else de1 b.cl) &&((b.op==6||(b.op==11||ck8 b.e)) &&((b.op==11||s0B b.nm) &&(b.op==7||(b.op==8||b.it.length==0)))))
def endF(b:PB):Bool:=bif b.op==10 then decide (b.sk≥ -1) &&decide (b.lm≥ -1)else b.od.length==0&&(b.sk==0&&b.lm==0)
def de2(b:PB)(n:Nat):Bool:=de0 b.op==n&&(fldF b&&endF b)
theorem de3{l:List ByteArray}{s:ByteArray}:bu0 l s=true↔s∈l:=ct5
def de4(s:ByteArray):Bool:=match s.data.toList with
 |a::b::r=>a==95&&(b !=48&&(b::r).all fun c=>decide (48≤c) &&decide (c≤57))
 |_=>false
def de5(a b:List ByteArray):List ByteArray:=a++b.filter fun s=> !(bu0 a s)
def de6(l:List ByteArray)(s:ByteArray):List ByteArray:=bif s0B s||bu0 l s then l else l++ [s]
def de7:List NP→List EP→List ByteArray
 |[],es=>es.map EP.vr
 |n::r,[]=>n.vr::r.map NP.vr
 |n::r,e::q=>n.vr::e.vr::de7 r q
def de8(l:List PA):List ByteArray:=l.flatMap fun p=>de7 p.ns p.es++ [p.vr]
def de9(l:List PA):List ByteArray:=(de8 l).foldl de6 []
abbrev CR:=List ByteArray × Int
def erR(e:Int):CR:=([],e)
def df0(c:CJ):CR:=bif dc6 c !=0 then erR (dc6 c)else bif c.vs.all (fun s=>ch2 s||de4 s)then(c.vs,0)else erR 6
def df1(l:List PA):List Ex:=l.flatMap fun p=>(p.ns.flatMap fun n=>n.ps.map fun q=>q.e)++p.es.flatMap fun n=>n.ps.map fun q=>q.e
def df2(c:CL)(cols:List ByteArray):CR:=
 bif cl5 c !=0 then erR (cl5 c)else
 bif !((df1 c.ps).all fun e=>cx5 e cols)then erR 6 else
 bif !(c.wh.all fun e=>cx5 e (de5 cols (de9 c.ps)))then erR 6 else
 bif c.wh.any cj3 then erR 9 else(de5 cols (de9 c.ps),0)
def df3(grp:Bool)(x:IT)(cols out:List ByteArray):Int:=
 bif ci3 x.e !=0 then ci3 x.e else
 bif !(ch2 x.asn)|| !(cx5 x.e cols)then 6 else
 bif cj3 x.e&& !(grp&&x.e.op==24)then 9 else
 bif bu0 out x.asn then 7 else 0
def df4(grp:Bool)(cols:List ByteArray):List IT→List ByteArray→CR
 |[],out=>(out,0)
 |x::r,out=>bif df3 grp x cols out !=0 then erR (df3 grp x cols out)else df4 grp cols r (out++ [x.asn])
def df5(cols:List ByteArray):List SK→Int
 |[]=>0
 |x::r=>bif cx6 x.e cols !=0 then cx6 x.e cols else df5 cols r
def df6(b:PB)(cols:List ByteArray):Int:=
 bif ci3 b.e !=0 then ci3 b.e else
 bif !(ch2 b.nm)|| !(cx5 b.e cols)then 6 else
 bif cj3 b.e then 9 else
 bif bu0 cols b.nm then 7 else 0
def df7(e:Int)(cols:List ByteArray):CR:=bif e !=0 then erR e else(cols,0)
def df8(b:PB)(cols:List (List ByteArray)):CR:=
 bif !(de2 b cols.length)then erR 25 else
 bif b.op==1 then([],0)else
 bif b.op==2 then df0 b.cj else
 bif b.op==3||b.op==4 then(de5 (cols.getD 0 []) (cols.getD 1 []),0)else
 bif b.op==5 then df2 b.cl (cols.getD 0 [])else
 bif b.op==6 then df7 (cx6 b.e (cols.getD 0 [])) (cols.getD 0 [])else
 bif b.op==7||b.op==8 then(bif decide (b.it.length>24)then erR 4 else df4 (b.op==8) (cols.getD 0 []) b.it [])else
 bif b.op==9 then(cols.getD 0 [],0)else
 bif b.op==10 then df7 (df5 (cols.getD 0 []) b.od) (cols.getD 0 [])else df7 (df6 b (cols.getD 0 [])) (cols.getD 0 []++ [b.nm])
mutual
def df9:Pl→CR
 |.mk b ks=>bif (dg0 ks).2 !=0 then erR (dg0 ks).2 else df8 b (dg0 ks).1
def dg0:List Pl→List (List ByteArray) × Int
 |[]=>([],0)
 |p::r=>bif (df9 p).2 !=0 then([],(df9 p).2)else bif (dg0 r).2 !=0 then([],(dg0 r).2)else((df9 p).1::(dg0 r).1,0)
end
mutual
def dpP:Pl→Nat
 |.mk _ ks=>dg1 ks+1
def dg1:List Pl→Nat
 |[]=>0
 |p::r=>max (dpP p) (dg1 r)
end
mutual
def szP:Pl→Nat
 |.mk _ ks=>dg2 ks+1
def dg2:List Pl→Nat
 |[]=>0
 |p::r=>szP p+dg2 r
end
def dg3(p:Pl):CR:=bif decide (dpP p>200)then erR 5 else bif decide (szP p>2000)then erR 4 else df9 p
theorem dg4:∀{l:List Pl} {x:Pl},x∈l→szP x≤dg2 l
 |[],_,h=>by cases h
 |a::r,x,h=>by
  rw[dg2];rcases ey2.1 h with rfl|h
  ·omega
  ·have:=dg4 h;omega
theorem dg5:∀{l:List Pl} {x:Pl},x∈l→dpP x≤dg1 l
 |[],_,h=>by cases h
 |a::r,x,h=>by
  rw[dg1];rcases ey2.1 h with rfl|h
  ·omega
  ·have:=dg5 h;omega
theorem dg6:∀l:List Pl,l.length≤dg2 l
 |[]=>ez0 _
 |.mk b ks::r=>by
  have:=dg6 r;rw[dg2,szP,ex9];omega
end Go.Proofs.YtndgolmgaenlfaaGreatDoor
namespace Go.Proofs.YtndgolmgaenlfaaGreatDoor
set_option maxRecDepth 4000
open Go Go.Abs Go.Val Go.RowKit Go.Proofs.Tryz
def zeX:Ex:=.mk 0 bn9 ⟨#[]⟩ false []
def zCL:CL:=⟨0,false,false,[],[],zeX,⟨#[]⟩,[],[],0,0,[],[]⟩
theorem dg7:∀{ks:List Pl},(dg0 ks).2=0→(∀p∈ks,(df9 p).2=0)∧(dg0 ks).1=ks.map fun p=>(df9 p).1
 |[],_=>⟨fun _ h=>(by cases h),rfl⟩
 |p::r,h=>by
  rw[dg0]at h ⊢
  cases c1:(df9 p).2 !=0 with
  |true=>rw[c1,cond_true]at h;rw[show(df9 p).2=0 from h]at c1;cases c1
  |false=>
   rw[c1,cond_false]at h;rw[cond_false]
   cases c2:(dg0 r).2 !=0 with
   |true=>rw[c2,cond_true]at h;rw[show(dg0 r).2=0 from h]at c2;cases c2
   |false=>
    have ih:=dg7 (ks:=r) (by simpa using c2);rw[cond_false];refine⟨fun q hq=>?_,?_⟩
    ·rcases ey2.1 hq with rfl|hq
     ·simpa using c1
     ·exact ih.1 q hq
    ·rw[fa1,←ih.2]
theorem dg8{b:PB}{ks:List Pl}(h:(df9 (.mk b ks)).2=0):(∀p∈ks,(df9 p).2=0)∧df9 (.mk b ks)=df8 b (ks.map fun p=>(df9 p).1)∧de2 b ks.length=true:=by
 rw[df9]at h ⊢
 cases c1:(dg0 ks).2 !=0 with
 |true=>rw[c1,cond_true]at h;rw[show(dg0 ks).2=0 from h]at c1;cases c1
 |false=>
  have ih:=dg7 (ks:=ks) (by simpa using c1);rw[c1,cond_false,ih.2]at h;rw[cond_false,ih.2];refine⟨ih.1,rfl,?_⟩;unfold df8 at h;rw[ey4]at h
  cases c2:de2 b ks.length with
  |true=>rfl
  |false=>rw[c2]at h;exact absurd (show(25:Int)=0 from h) Od
theorem dg9{b:PB}{n:Nat}(h:de2 b n=true):de0 b.op=n:=by
 unfold de2 at h;simp only[ey9,beq_iff_eq]at h;exact h.1
theorem dh0{p:Pl}(h:(dg3 p).2=0):dpP p≤200∧szP p≤2000∧(df9 p).2=0∧dg3 p=df9 p:=by
 unfold dg3 at h ⊢
 cases c1:decide (dpP p>200)with
 |true=>rw[c1]at h;exact absurd (show(5:Int)=0 from h) Od
 |false=>
  cases c2:decide (szP p>2000)with
  |true=>rw[c1,c2]at h;exact absurd (show(4:Int)=0 from h) Od
  |false=>
   rw[c1,c2]at h;exact⟨by simpa using c1,by simpa using c2,h,rfl⟩
def opB(op:Int)(e:Ex)(nm:ByteArray):PB:=⟨op,⟨[],[]⟩,zCL,e,nm,[],[],0,0⟩
def jnQ(l:List Pl):Pl:=.mk (opB 3 zeX ⟨#[]⟩) l
theorem dh1{e:Ex}{c:List ByteArray}(h:cx6 e c=0):ci3 e=0∧cx5 e c=true∧cj3 e=false:=by
 unfold cx6 at h
 cases c1:ci3 e !=0 with
 |true=>rw[c1,cond_true]at h;rw[h]at c1;cases c1
 |false=>
  rw[c1,cond_false]at h
  cases c2:cx5 e c with
  |false=>rw[c2]at h;exact absurd (show(6:Int)=0 from h) Od
  |true=>
   rw[c2]at h
   cases c3:cj3 e with
   |true=>rw[c3]at h;exact absurd (show(9:Int)=0 from h) Od
   |false=>exact⟨by simpa using c1,rfl,rfl⟩
theorem dh2{l:List ByteArray}{s:ByteArray}(h:bu0 l s=false):s ∉ l:=fun hm=>by rw[de3.2 hm]at h;cases h
theorem dh3{l:List ByteArray}{s:ByteArray}(h:l.Nodup)(hs:bu0 l s=false):(l++ [s]).Nodup:=by
 refine List.nodup_append.2 ⟨h,List.nodup_cons.2 ⟨by simp,List.nodup_nil⟩,fun a ha b hb=>?_⟩;rw[ez3]at hb;subst hb;exact fun e=>dh2 hs (e ▸ ha)
theorem dh4{l:List ByteArray}{s:ByteArray}(h:l.Nodup):(de6 l s).Nodup:=by
 unfold de6
 cases c:s0B s||bu0 l s with
 |true=>exact h
 |false=>
  rw[fa9]at c;exact dh3 h c.2
theorem dh5:∀{ns l:List ByteArray},l.Nodup→(ns.foldl de6 l).Nodup
 |[],_,h=>h
 |s::r,l,h=>dh5 (ns:=r) (dh4 (s:=s) h)
theorem dh6(l:List PA):(de9 l).Nodup:=dh5 List.nodup_nil
theorem dh7{a b:List ByteArray}(ha:a.Nodup)(hb:b.Nodup):(de5 a b).Nodup:=by
 refine List.nodup_append.2 ⟨ha,hb.sublist List.filter_sublist,fun x hx y hy e=>?_⟩;subst e;have:=(fd5.1 hy).2;rw[de3.2 hx]at this
 cases this
theorem dh8(g:Bool)(cols:List ByteArray):∀(l:List IT) (out:List ByteArray),out.Nodup→(df4 g cols l out).2=0→(df4 g cols l out).1.Nodup
 |[],_,h,_=>h
 |x::r,out,h,h0=>by
  rw[df4]at h0 ⊢
  cases c:df3 g x cols out !=0 with
  |true=>rw[c,cond_true]at h0;rw[show df3 g x cols out=0 from h0]at c;cases c
  |false=>
   rw[c,cond_false]at h0;rw[cond_false];refine dh8 g cols r _ (dh3 h ?_) h0;have hi:df3 g x cols out=0:=by simpa using c
   unfold df3 at hi
   cases c1:ci3 x.e !=0 with
   |true=>rw[c1,cond_true]at hi;rw[hi]at c1;cases c1
   |false=>
   cases c2: !(ch2 x.asn)|| !(cx5 x.e cols)with
   |true=>rw[c1,c2]at hi;exact absurd (show(6:Int)=0 from hi) Od
   |false=>
   cases c3:cj3 x.e&& !(g&&x.e.op==24)with
   |true=>rw[c1,c2,c3]at hi;exact absurd (show(9:Int)=0 from hi) Od
   |false=>
   cases c4:bu0 out x.asn with
   |true=>rw[c1,c2,c3,c4]at hi;exact absurd (show(7:Int)=0 from hi) Od
   |false=>rfl
theorem dh9{cols:List (List ByteArray)}(h:∀c∈cols,c.Nodup)(i:Nat):(cols.getD i []).Nodup:=by
 rw[fb6]
 cases e:cols[i]? with
 |none=>exact List.nodup_nil
 |some x=>exact h x (ey0 e)
theorem di0{e:Int}{c:List ByteArray}(h:(df7 e c).2=0):e=0∧(df7 e c).1=c:=by
 unfold df7 at h ⊢
 cases c1:e !=0 with
 |true=>rw[c1,cond_true]at h;rw[show e=0 from h]at c1;cases c1
 |false=>exact⟨by simpa using c1,rfl⟩
theorem di1{c:CJ}(h:(df0 c).2=0):(df0 c).1.Nodup:=by
 unfold df0 at h ⊢
 cases c1:dc6 c !=0 with
 |true=>rw[c1,cond_true]at h;rw[show dc6 c=0 from h]at c1;cases c1
 |false=>
  cases c2:c.vs.all fun s=>ch2 s||de4 s with
  |false=>rw[c1,c2]at h;exact absurd (show(6:Int)=0 from h) Od
  |true=>
   have h0:dc6 c=0:=by simpa using c1
   unfold dc6 at h0
   cases d1:decide (c.vs.length>24)||decide (c.as.length>12)with
   |true=>rw[d1]at h0;exact absurd (show(4:Int)=0 from h0) Od
   |false=>
   cases d2:c.as.any (dc4 c.vs.length)with
   |true=>rw[d1,d2]at h0;exact absurd (show(1:Int)=0 from h0) Od
   |false=>
   cases d3:twF c.vs with
   |true=>rw[d1,d2,d3]at h0;exact absurd (show(7:Int)=0 from h0) Od
   |false=>
    have hn:(ca7 c.vs).Nodup:=by
     refine Classical.byContradiction fun hc=>?_
     rw[(dc2 c.vs).2 hc]at d3
     cases d3
    unfold ca7 at hn;exact(List.pairwise_map.1 hn).imp fun h e=>h (congrArg (fun s:ByteArray=>s.data.toList) e)
theorem di2{c:CL}{cols:List ByteArray}(hc:cols.Nodup)(h:(df2 c cols).2=0):(df2 c cols).1.Nodup:=by
 unfold df2 at h ⊢
 cases c1:cl5 c !=0 with
 |true=>rw[c1,cond_true]at h;rw[show cl5 c=0 from h]at c1;cases c1
 |false=>
 cases c2: !((df1 c.ps).all fun e=>cx5 e cols)with
 |true=>rw[c1,c2]at h;exact absurd (show(6:Int)=0 from h) Od
 |false=>
 cases c3: !(c.wh.all fun e=>cx5 e (de5 cols (de9 c.ps)))with
 |true=>rw[c1,c2,c3]at h;exact absurd (show(6:Int)=0 from h) Od
 |false=>
 cases c4:c.wh.any cj3 with
 |true=>rw[c1,c2,c3,c4]at h;exact absurd (show(9:Int)=0 from h) Od
 |false=>exact dh7 hc (dh6 c.ps)
theorem di3{b:PB}{cols:List ByteArray}(h:df6 b cols=0):bu0 cols b.nm=false:=by
 unfold df6 at h
 cases c1:ci3 b.e !=0 with
 |true=>rw[c1,cond_true]at h;rw[h]at c1;cases c1
 |false=>
 cases c2: !(ch2 b.nm)|| !(cx5 b.e cols)with
 |true=>rw[c1,c2]at h;exact absurd (show(6:Int)=0 from h) Od
 |false=>
 cases c3:cj3 b.e with
 |true=>rw[c1,c2,c3]at h;exact absurd (show(9:Int)=0 from h) Od
 |false=>
 cases c4:bu0 cols b.nm with
 |true=>rw[c1,c2,c3,c4]at h;exact absurd (show(7:Int)=0 from h) Od
 |false=>rfl
theorem di4{b:PB}{cols:List (List ByteArray)}(h:∀c∈cols,c.Nodup)(h0:(df8 b cols).2=0):(df8 b cols).1.Nodup:=by
 have g0:=dh9 h 0;have g1:=dh9 h 1;unfold df8 at h0 ⊢
 cases c0:de2 b cols.length with
 |false=>rw[c0]at h0;exact absurd (show(25:Int)=0 from h0) Od
 |true=>
 rw[c0,fd3,cond_false]at h0;rw[fd3,cond_false]
 cases o1:b.op==1 with
 |true=>exact List.nodup_nil
 |false=>
 rw[o1,cond_false]at h0;rw[cond_false]
 cases o2:b.op==2 with
 |true=>rw[o2,cond_true]at h0;exact di1 h0
 |false=>
 rw[o2,cond_false]at h0;rw[cond_false]
 cases o3:b.op==3||b.op==4 with
 |true=>exact dh7 g0 g1
 |false=>
 rw[o3,cond_false]at h0;rw[cond_false]
 cases o5:b.op==5 with
 |true=>rw[o5,cond_true]at h0;exact di2 g0 h0
 |false=>
 rw[o5,cond_false]at h0;rw[cond_false]
 cases o6:b.op==6 with
 |true=>rw[o6,cond_true]at h0;rw[cond_true,(di0 h0).2];exact g0
 |false=>
 rw[o6,cond_false]at h0;rw[cond_false]
 cases o7:b.op==7||b.op==8 with
 |true=>
  rw[o7,cond_true]at h0;rw[cond_true]
  cases l:decide (b.it.length>24)with
  |true=>rw[l]at h0;exact absurd (show(4:Int)=0 from h0) Od
  |false=>rw[l,cond_false]at h0;exact dh8 _ _ _ _ List.nodup_nil h0
 |false=>
 rw[o7,cond_false]at h0;rw[cond_false]
 cases o9:b.op==9 with
 |true=>exact g0
 |false=>
 rw[o9,cond_false]at h0;rw[cond_false]
 cases o10:b.op==10 with
 |true=>rw[o10,cond_true]at h0;rw[cond_true,(di0 h0).2];exact g0
 |false=>
  rw[o10,cond_false]at h0;rw[cond_false,(di0 h0).2];exact dh3 g0 (di3 (di0 h0).1)
theorem di5(p:Pl):(df9 p).2=0→(df9 p).1.Nodup:=by
 refine dd4 (P:=fun p=>(df9 p).2=0→(df9 p).1.Nodup) (fun b ks ih h=>?_) p;obtain⟨h1,h2,-⟩:=dg8 h;rw[h2]at h ⊢;refine di4 (fun c hc=>?_) h;obtain⟨k,hk,rfl⟩:=ey6.1 hc;exact ih k hk (h1 k hk)
theorem di6{b:PB}{ks:List Pl}(h:(dg3 (.mk b ks)).2=0):∀k∈ks,(dg3 k).2=0:=by
 obtain⟨h1,h2,h3,-⟩:=dh0 h;obtain⟨h4,-,-⟩:=dg8 h3;intro k hk;have d1:=dg5 hk;have d2:=dg4 hk;rw[dpP]at h1;rw[szP]at h2;unfold dg3;rw[show decide (dpP k>200)=false by simp;omega,show decide (szP k>2000)=false by simp;omega];exact h4 k hk
theorem di7(g:Bool)(cols:List ByteArray):∀(l:List IT) (out:List ByteArray),(df4 g cols l out).2≠0→(df4 g cols l out).1=[]
 |[],_,h=>absurd rfl h
 |x::r,out,h=>by
  rw[df4]at h ⊢
  cases c:df3 g x cols out !=0 with
  |true=>rfl
  |false=>rw[c,cond_false]at h;rw[cond_false];exact di7 g cols r _ h
theorem di8{e:Int}{c:List ByteArray}(h:(df7 e c).2≠0):(df7 e c).1=[]:=by
 unfold df7 at h ⊢
 cases c1:e !=0 with
 |true=>rfl
 |false=>rw[c1]at h;exact absurd rfl h
theorem di9{b:PB}{cols:List (List ByteArray)}(h0:(df8 b cols).2≠0):(df8 b cols).1=[]:=by
 unfold df8 at h0 ⊢
 cases c0:de2 b cols.length with
 |false=>rfl
 |true=>
 rw[c0,fd3,cond_false]at h0;rw[fd3,cond_false]
 cases o1:b.op==1 with
 |true=>rfl
 |false=>
 rw[o1,cond_false]at h0;rw[cond_false]
 cases o2:b.op==2 with
 |true=>
  rw[o2,cond_true]at h0;rw[cond_true];unfold df0 at h0 ⊢
  cases c1:dc6 b.cj !=0 with
  |true=>rfl
  |false=>
   cases c2:b.cj.vs.all fun s=>ch2 s||de4 s with
   |false=>rfl
   |true=>rw[c1,c2]at h0;exact absurd rfl h0
 |false=>
 rw[o2,cond_false]at h0;rw[cond_false]
 cases o3:b.op==3||b.op==4 with
 |true=>rw[o3]at h0;exact absurd rfl h0
 |false=>
 rw[o3,cond_false]at h0;rw[cond_false]
 cases o5:b.op==5 with
 |true=>
  rw[o5,cond_true]at h0;rw[cond_true];unfold df2 at h0 ⊢
  cases c1:cl5 b.cl !=0 with
  |true=>rfl
  |false=>
  cases c2: !((df1 b.cl.ps).all fun e=>cx5 e (cols.getD 0 []))with
  |true=>rfl
  |false=>
  cases c3: !(b.cl.wh.all fun e=>cx5 e (de5 (cols.getD 0 []) (de9 b.cl.ps)))with
  |true=>rfl
  |false=>
  cases c4:b.cl.wh.any cj3 with
  |true=>rfl
  |false=>rw[c1,c2,c3,c4]at h0;exact absurd rfl h0
 |false=>
 rw[o5,cond_false]at h0;rw[cond_false]
 cases o6:b.op==6 with
 |true=>rw[o6,cond_true]at h0;exact di8 h0
 |false=>
 rw[o6,cond_false]at h0;rw[cond_false]
 cases o7:b.op==7||b.op==8 with
 |true=>
  rw[o7,cond_true]at h0;rw[cond_true]
  cases l:decide (b.it.length>24)with
  |true=>rfl
  |false=>rw[l,cond_false]at h0;exact di7 _ _ _ _ h0
 |false=>
 rw[o7,cond_false]at h0;rw[cond_false]
 cases o9:b.op==9 with
 |true=>rw[o9]at h0;exact absurd rfl h0
 |false=>
 rw[o9,cond_false]at h0;rw[cond_false]
 cases o10:b.op==10 with
 |true=>rw[o10,cond_true]at h0;exact di8 h0
 |false=>rw[o10,cond_false]at h0;exact di8 h0
theorem dj0{p:Pl}(h:(dg3 p).2≠0):(dg3 p).1=[]:=by
 unfold dg3 at h ⊢
 cases c1:decide (dpP p>200)with
 |true=>rfl
 |false=>
 cases c2:decide (szP p>2000)with
 |true=>rfl
 |false=>
  rw[c1,c2,cond_false,cond_false]at h;rw[cond_false,cond_false];obtain⟨b,ks⟩:=p;rw[df9]at h ⊢
  cases c3:(dg0 ks).2 !=0 with
  |true=>rfl
  |false=>rw[c3,cond_false]at h;exact di9 h
def yesX:Ex:=cstX (vBool true)
def unQ:Pl:=.mk (opB 1 zeX ⟨#[]⟩) []
end Go.Proofs.YtndgolmgaenlfaaGreatDoor
