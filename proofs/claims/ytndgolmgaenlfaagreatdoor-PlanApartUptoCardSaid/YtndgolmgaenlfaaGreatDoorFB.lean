/- Expressions as canonical text: what both texts write; constants and signs; Expressions as canonical text, by both texts; Lists of expressions and oper. Conditions: each part's own, as it says. -/
import Derived.Test.YtndgolmgaenlfaaGreatDoorFA
import Derived.Test.YtndgolmgaenlfaaGreatDoorMB
import Derived.Test.YtndgolmgaenlfaaGreatDoorGC
import Derived.Test.YtndgolmgaenlfaaGreatDoorLA
import Derived.Test.YtndgolmgaenlfaaGreatDoorMA
set_option linter.unusedVariables false
set_option linter.unusedSimpArgs false
namespace Go.Proofs.YtndgolmgaenlfaaGreatDoor
set_option maxRecDepth 4000
open Go Go.Abs Go.Val Go.RowKit Go.Proofs.Tryz
attribute [local irreducible] go SGo an9 Ev aw1 EvO EvS
def cw8(v:V):List UInt8:=
 bif v.k==1 then(bif v.n==1 then [84,82,85,69]else [70,65,76,83,69])else
 bif v.k==2 then(bif decide (v.n<0)then [40]++Lib.itoa v.n++ [41]else Lib.itoa v.n)else
 bif v.k==4 then txt v else [78,85,76,76]
def sgT(op:Int):List UInt8:=
 bif op==7 then [43]else bif op==8 then [45]else bif op==9 then [42]else bif op==10 then [47]else bif op==11 then [37]else bif op==12 then [61]else
 bif op==13 then [60,62]else bif op==14 then [60]else bif op==15 then [60,61]else bif op==16 then [62]else bif op==17 then [62,61]else
 bif op==18 then [65,78,68]else bif op==19 then [79,82]else [73,78]
def cw9(op:Int):Bool:=decide (op≥5) &&decide (op≤21)
theorem cx0{v:V}(h:co8 v=true)(h4:v.k=4):(txt v).length≤202:=by
 obtain⟨k,n,d,s,l⟩:=v;simp only[V.k]at h4;subst h4;have hok:Val.okV (.mk 4 n d s l)=true:=by simpa[co8,co1,V.k]using h
 have h4:=ch0 hok;have hl2:=cf9 s.data.toList;have hsl:s.data.toList.length=s.size:=Oc
 have:txt (.mk 4 n d s l)=[39]++dbl s.data.toList++ [39]:=by simp only[txt,hok];rfl
 rw[this];simp only[fy8,fy7,fz2];omega
theorem cx1{v:V}(h:co8 v=true)(hn:inR .i64 v.n):(cw8 v).length≤202:=by
 have h1:=cg4 hn;unfold cw8
 cases h4:v.k==4 with
 |true=>
  have h4':v.k=4:=by simpa using h4
  have:=cx0 h h4';simp only[h4',cond_true];simp;exact this
 |false=>
  cases v.k==1<;>cases v.k==2<;>cases v.n==1<;>cases decide (v.n<0)<;>simp only[cond_true,cond_false,fy8,fy7,fz2]<;>omega
theorem cx2(v:V)(h:co8 v=true):Ev E 288 [enc v] (.d (.str (bs (cw8 v)))):=Ev.fit fun hfit=>by
 obtain⟨-,hn,-⟩:=bp8 (hfit (enc v) Oc);have h1:=bx7 v.n;have ln:=cg4 hn;have z1:(⟨(Lib.itoa v.n).toArray⟩:ByteArray).size≤21:=ln;have z2:(⟨#[40]⟩:ByteArray).size=1:=rfl;have z3:(⟨#[41]⟩:ByteArray).size=1:=rfl
 cases h4:v.k==4 with
 |true=>
  have h4':v.k=4:=by simpa using h4
  have h2:=ch5 v (by have:=cx0 h h4';omega);have e:cw8 v=txt v:=by simp[cw8,h4']
  have g1:(v.k==1)=false:=by rw[h4'];rfl
  have g2:(v.k==2)=false:=by rw[h4'];rfl
  rw[e];refine ye1 func288 ntmps288 fun _ _ _=>?_
  repeat'(first|refine yz ?_|refine yp b152 h2 ?_|refine yx ?_|(refine yy ?_ ?_<;>intro _)|exact zD|exact zL)
 |false=>
  refine ye1 func288 ntmps288 fun _ _ _=>?_
  repeat'(first|refine yz ?_|refine yp br7 h1 ?_|refine yx ?_|(refine yy ?_ ?_<;>intro _)|(refine qV rfl ?_ ?_<;>intro _)|exact zD|exact zL)
  all_goals(refine congrArg D.str ?_;simp_all [cw8,gd9];first|rfl|(rw[if_neg Oa];first|done|rfl))
theorem cx3(op:Int):Ev E 291 [.int op] (.d (.str (bs (sgT op)))):=by
 refine ye1 func291 ntmps291 fun _ _ _=>?_
 repeat'(first|refine yz ?_|refine yx ?_|(refine yy ?_ ?_<;>intro _)|(refine qV rfl ?_ ?_<;>intro _)|exact zD|exact zL)
 all_goals(refine congrArg D.str ?_;simp_all [sgT,gd9];rfl)
theorem cx4(op:Int):(sgT op).length≤3:=by
 unfold sgT
 repeat'(rw[gd9];split)
 all_goals simp
def txN(op:Int)(v:V)(nm:List UInt8)(ds:Bool)(ts os:List (List UInt8)):List UInt8:=
 bif op==1 then cw8 v else
 bif op==2 then nm else
 bif op==3 then os.getD 0 []++ [46]++nm else
 bif op==4 then os.getD 0 []++ [58]++nm else
 bif op==5 then [78,79,84,32]++os.getD 0 []else
 bif op==6 then [45]++os.getD 0 []else
 bif op==21 then os.getD 0 []++ [32,73,83,32,78,85,76,76]else
 bif op==22 then [91]++Lib.join ts [44,32]++ [93]else
 bif op==23 then nm++ [40]++Lib.join ts [44,32]++ [41]else
 bif op==24 then(bif ts.isEmpty then nm++ [40,42,41]else bif ds then nm++ [40,68,73,83,84,73,78,67,84,32]++ts.getD 0 []++ [41]else nm++ [40]++ts.getD 0 []++ [41])else
 os.getD 0 []++ [32]++sgT op++ [32]++os.getD 1 []
mutual
def txE:Ex→List UInt8
 |.mk op v nm ds ks=>txN op v nm.data.toList ds (txL ks) (opL ks)
def txL:List Ex→List (List UInt8)
 |[]=>[]
 |x::r=>txE x::txL r
def opL:List Ex→List (List UInt8)
 |[]=>[]
 |x::r=>(bif cw9 x.op then [40]++txE x++ [41]else txE x)::opL r
end
def opT(x:Ex):List UInt8:=bif cw9 x.op then [40]++txE x++ [41]else txE x
theorem cx5(l:List Ex):txL l=l.map txE:=by
 induction l with
 |nil=>simp[txL]
 |cons v r ih=>simp[txL,ih]
theorem cx6(l:List Ex):opL l=l.map opT:=by
 induction l with
 |nil=>simp[opL]
 |cons v r ih=>simp[opL,ih,opT]
mutual
def alE(P:Ex→Prop):Ex→Prop
 |.mk op v nm ds ks=>P (.mk op v nm ds ks)∧alL P ks
def alL(P:Ex→Prop):List Ex→Prop
 |[]=>True
 |x::r=>alE P x∧alL P r
end
theorem cx7{P:Ex→Prop}:∀{l:List Ex},alL P l→∀x∈l,alE P x
 |[],_,x,hx=>by simp at hx
 |y::r,h,x,hx=>by
  rcases fz0.1 hx with e|e
  ·rw[e];exact h.1
  ·exact cx7 h.2 x e
theorem cx8{P:Ex→Prop}:∀{l:List Ex},(∀x∈l,alE P x)→alL P l
 |[],_=>trivial
 |y::r,h=>⟨h y Oc,cx8 fun x hx=>h x (by simp[hx])⟩
theorem cx9{P Q:Ex→Prop}(hpq:∀e,P e→Q e):∀e,alE P e→alE Q e:=
 ca0 (P:=fun e=>alE P e→alE Q e) fun op v nm ds ks ih h=>⟨hpq _ h.1,cx8 fun x hx=>ih x hx (cx7 h.2 x hx)⟩
theorem cy0{P Q:Ex→Prop}:∀e,alE P e→alE Q e→alE (fun e=>P e∧Q e) e:=
 ca0 (P:=fun e=>alE P e→alE Q e→alE (fun e=>P e∧Q e) e) fun op v nm ds ks ih h h'=>⟨⟨h.1,h'.1⟩,cx8 fun x hx=>ih x hx (cx7 h.2 x hx) (cx7 h'.2 x hx)⟩
def okN(e:Ex):Prop:=1≤e.op∧e.op≤24∧co3 e=true∧(e.op=1→co8 e.v=true)
theorem cy1:∀{l:List Ex} {w:Bool},ct0 l w=0→∀x∈l,cs9 x w=0
 |[],_,_,x,hx=>by simp at hx
 |y::r,w,h,x,hx=>by
  rw[ct0]at h
  cases hz:cs9 y w !=0 with
  |true=>
   rw[hz]at h;simp at hz;exact absurd h hz
  |false=>
   rw[hz]at h;rcases fz0.1 hx with e|e
   ·rw[e];simpa using hz
   ·exact cy1 h x e
theorem cy2:∀(e:Ex) (w:Bool),cs9 e w=0→alE okN e:=by
 refine ca0 (P:=fun e=>∀(w:Bool),cs9 e w=0→alE okN e) fun op v nm ds ks ih w h=>?_
 rw[cs9]at h
 cases hs:cs8 (.mk op v nm ds ks) w !=0 with
 |true=>
  rw[hs]at h;simp at hs;exact absurd h hs
 |false=>
  rw[hs]at h;refine⟨?_,cx8 fun x hx=>ih x hx _ (cy1 h x hx)⟩;have hs':cs8 (.mk op v nm ds ks) w=0:=by simpa using hs
  unfold cs8 at hs'
  cases h1:(decide ((Ex.mk op v nm ds ks).op<1)||decide ((Ex.mk op v nm ds ks).op>24))||(!co3 (.mk op v nm ds ks)|| !co6 (.mk op v nm ds ks))with
  |true=>rw[h1]at hs';simp at hs'
  |false=>
   rw[h1]at hs';simp only[gb3,decide_eq_false_iff_not,Bool.not_eq_false']at h1;refine⟨by omega,by omega,h1.2.1,fun h2=>?_⟩
   cases h3:co8 (Ex.mk op v nm ds ks).v with
   |true=>rfl
   |false=>
    have h4:((Ex.mk op v nm ds ks).op==1&& !co8 (Ex.mk op v nm ds ks).v)=true:=by rw[h2,h3];rfl
    rw[h4]at hs';simp at hs'
def smN(e:Ex):Prop:=okN e∧e.nm.size≤200∧inR .i64 e.v.n
theorem cy3(sep:List UInt8)(hs:sep.length≤2):∀(xs:List (List UInt8)),(Lib.join xs sep).length≤(xs.map fun x=>x.length+2).sum
 |[]=>fz6 _
 |a::r=>by
  rw[Lib.join_cons,fy8]
  have key:∀q:List (List UInt8),(Lib.joinTail sep q).length≤(q.map fun x=>x.length+2).sum:=by
   intro q
   induction q with
   |nil=>exact fz6 _
   |cons b q ih=>
    have hc:Lib.joinTail sep (b::q)=(sep++b)++Lib.joinTail sep q:=rfl;rw[hc,fy8,fy8,fz7,List.sum_cons];omega
  have:=key r;rw[fz7,List.sum_cons];omega
theorem cy4(x:Ex):(opT x).length≤(txE x).length+2:=by
 unfold opT
 cases cw9 x.op<;>simp only[cond_true,cond_false,fy8,fy7,fz2]<;>omega
theorem cy5:∀e:Ex,alE smN e→(txE e).length+4≤1000*nd e:=by
 refine ca0 (P:=fun e=>alE smN e→(txE e).length+4≤1000*nd e) fun op v nm ds ks ih h=>?_
 obtain⟨⟨⟨h1,h2,h3,h4⟩,h5,h6⟩,-⟩:=h.1,h.2;have hk:=cx7 h.2;have hnl:nm.data.toList.length≤200:=by simpa[Ex.nm]using h5
 have hsum:(ks.map fun x=>(txE x).length+4).sum≤1000*ndL ks:=by
  clear h h1 h2 h3 h4 h5 h6
  induction ks with
  |nil=>exact ga8 _
  |cons a r ihr=>
   have:=ih a Oc (hk a Oc);have:=ihr (fun x hx=>ih x (by simp[hx])) (fun x hx=>hk x (by simp[hx]));rw[fz7,List.sum_cons,ndL];omega
 have hj:(Lib.join (txL ks) [44,32]).length≤1000*ndL ks:=by
  refine gb8 (cy3 [44,32] Oc _) (gb8 ?_ hsum);rw[cx5];clear h h1 h2 h3 h4 h5 h6 hsum ih hk
  induction ks with
  |nil=>exact fz6 _
  |cons a r ihr=>simp only[fz7,List.sum_cons];omega
 have hgt:∀j,((txL ks).getD j []).length≤1000*ndL ks:=by
  intro j;rw[cx5,gd6,fz1]
  cases hx:ks[j]? with
  |none=>simp
  |some x=>
   have hm:=fy6 hx;have h1:=ih x hm (hk x hm);have h2:=cp1 hm;simp only[gc1,ge1];omega
 have h01:((opL ks).getD 0 []).length+((opL ks).getD 1 []).length≤1000*ndL ks:=by
  rw[cx6]
  match ks,ih,hk with
  |[],_,_=>simp
  |[a],ih,hk=>
   have:=ih a Oc (hk a Oc);have:=cy4 a;simp[ndL];omega
  |a::b::r,ih,hk=>
   have:=ih a Oc (hk a Oc);have:=ih b Oc (hk b Oc);have:=cy4 a;have:=cy4 b;simp[ndL];omega
 have hcst:op=1→(cw8 v).length≤202:=fun e=>cx1 (h4 e) h6
 have hsg:=cx4 op;have ht0:=hgt 0;rw[nd,txE,txN]
 repeat'(rw[gd9];split)
 all_goals(try simp only[fy8,fy7,fz2])
 all_goals first|omega|(have:=hcst (by simpa using ‹(op==1)=true›);omega)
end Go.Proofs.YtndgolmgaenlfaaGreatDoor
namespace Go.Proofs.YtndgolmgaenlfaaGreatDoor
set_option maxRecDepth 4000
open Go Go.Abs Go.Val Go.RowKit Go.Proofs.Tryz
attribute [local irreducible] go SGo an9 Ev aw1 EvO EvS
theorem cy6{l:List Ex}{i:Nat}{x:Ex}(h:l[i]? =some x):ch2 ((l.take (i+1)).map txE)=ch2 ((l.take i).map txE)++ [.str (bs (txE x))]:=by
 have hi:=(fy9.1 h).1;rw[gi7 hi];rw[fy4 hi]at h
 cases h
 simp only[ch2,gg7,fz7,gd8]
structure STe(l:List Ex) where
 i:Nat
 hi:i≤l.length
theorem cy7(l:List Ex)(hT:∀x∈l,Ev E 231 [bz1 x] (.d (.str (bs (txE x)))))(hn:l.length≤1000000)(hlen:(Lib.join (l.map txE) [44,32]).length≤1073741824):
  Ev E 290 [.sl (bz0 l)] (.d (.str (bs (Lib.join (l.map txE) [44,32])))):=by
 have hle:(bz0 l).length=l.length:=bz7 l;have e1:(l.map fun x=>bs (txE x)).map D.str=ch2 (l.map txE):=by simp[ch2]
 have e2:(l.map fun x=>bs (txE x)).map (·.data.toList)=l.map txE:=by simp[cf8]
 have hj:=ch1 (l.map fun x=>bs (txE x)) (bs [44,32]) Og (by rw[e2,cf8];omega);rw[e1,e2,cf8]at hj;refine ye1 func290 ntmps290 fun _ _ _=>?_
 repeat'(first|refine yz ?_|refine yx ?_|(refine yy ?_ ?_<;>intro _)|exact zD|exact zL)
 refine ac8 (α:=STe l) (fun p=>⟨[(3,ax9 (ch2 ((l.take p.i).map txE))),(6,.d (.sl (bz0 l))),(7,.d (.int (bz0 l).length)),(8,.d (.int p.i))],ay0 9 1 (ch2 ((l.take p.i).map txE))⟩) (fun p=>l.length-p.i) ⟨0,by omega⟩ (by rw[gc8];exact(zle 0)) ?_;rintro⟨i,hi⟩;dsimp only;rcases fy5 i l.length with hlt|hge
 ·have g1:decide ((i:Int)<((bz0 l).length:Int))=true:=by rw[hle];simpa using hlt
  have hx0:=fy4 hlt;generalize l[i]=x at hx0;have hx:(bz0 l)[(i:Int).toNat]? =some (bz1 x):=bz5 (by rw[gb1];exact hx0);have ht:=hT x (fy6 hx0);have hta:=cy6 hx0;have hll:(ch2 ((l.take i).map txE)).length≤i:=by simp[ch2];omega
  generalize ch2 ((l.take i).map txE)=out at*
  match out,hll with
  |[],hll=>
   dsimp only[ax9,ay0]
   repeat'(first|refine yz ?_|refine yi (bz1 x) hx ?_|refine yp bs8 ht ?_|(refine qS rfl ⟨by simp,by simp[D.cells];rfl,by(show(0+1)*16≤140737488355328;omega),by(show 0+1≤9223372036854775807;omega)⟩ ?_)|refine yx ?_|(refine yy ?_ ?_<;>intro _)|exact zD|exact zL)
   refine ac2 ?_;refine⟨⟨i+1,by omega⟩,by dsimp only;omega,?_⟩;dsimp only;rw[hta];exact(bi7 [1])
  |a::q,hll=>
   dsimp only[ax9,ay0]
   repeat'(first|refine yz ?_|refine yi (bz1 x) hx ?_|refine yp bs8 ht ?_|(refine qS rfl ⟨by simp,by simp[D.cells];rfl,by(show((a::q).length+1)*16≤140737488355328;omega),by(show(a::q).length+1≤9223372036854775807;omega)⟩ ?_)|refine yx ?_|(refine yy ?_ ?_<;>intro _)|exact zD|exact zL)
   refine ac2 ?_;refine⟨⟨i+1,by omega⟩,by dsimp only;omega,?_⟩;dsimp only;rw[hta];exact(bi7 [2])
 ·have g1:decide ((i:Int)<((bz0 l).length:Int))=false:=by rw[hle];simp;omega
  rw[ga3 hge];generalize ch2 (l.map txE)=out at*
  match out,hj with
  |[],hj=>
   dsimp only[ax9,ay0]
   repeat'(first|refine yz ?_|refine yp b84 hj ?_|refine yx ?_|(refine yy ?_ ?_<;>intro _)|exact zD|exact zL)
  |a::q,hj=>
   dsimp only[ax9,ay0];refine qA ?_;refine av3 0 rfl ?_
   repeat'(first|refine yz ?_|refine yp b84 hj ?_|refine yx ?_|(refine yy ?_ ?_<;>intro _)|exact zD|exact zL)
theorem cy8(x:Ex)(hl:(txE x).length≤1073741824)(h1:Ev E 231 [bz1 x] (.d (.str (bs (txE x))))):Ev E 289 [bz1 x] (.d (.str (bs (opT x)))):=by
 have z1:(bs (txE x)).size=(txE x).length:=cf7 _;have z2:(⟨#[40]⟩:ByteArray).size=1:=rfl;have z3:(⟨#[41]⟩:ByteArray).size=1:=rfl;refine ye1 func289 ntmps289 fun _ _ _=>?_
 repeat'(first|refine yz ?_|refine yp bs8 h1 ?_|refine yx ?_|(refine yy ?_ ?_<;>intro _)|(refine qV rfl ?_ ?_<;>intro _)|exact zD|exact zL)
 all_goals(refine congrArg D.str ?_;simp_all [opT,cw9,gd9];first|done|rfl|(rw[if_neg Oa];first|done|rfl))
set_option maxHeartbeats 4000000 in
theorem cy9:∀e:Ex,alE smN e→nd e≤1000→Ev E 231 [bz1 e] (.d (.str (bs (txE e)))):=by
 refine ca0 (P:=fun e=>alE smN e→nd e≤1000→Ev E 231 [bz1 e] (.d (.str (bs (txE e))))) fun op v nm ds ks ih h hn=>?_
 obtain⟨⟨⟨h1,h2,h3,h4⟩,h5,h6⟩,-⟩:=h.1,h.2;have hk:=cx7 h.2;rw[nd]at hn;have hT:∀x∈ks,Ev E 231 [bz1 x] (.d (.str (bs (txE x)))):=fun x hx=>ih x hx (hk x hx) (by have:=cp1 hx;omega)
 have hZ:∀x∈ks,(txE x).length≤1000000:=fun x hx=>by
  have:=cy5 x (hk x hx);have:=cp1 hx;omega
 have hO:∀x∈ks,Ev E 289 [bz1 x] (.d (.str (bs (opT x)))):=fun x hx=>cy8 x (by have:=hZ x hx;omega) (hT x hx)
 have hOz:∀x∈ks,(bs (opT x)).size≤1000002:=fun x hx=>by
  rw[cf7];have:=cy4 x;have:=hZ x hx;omega
 simp only[Ex.op]at h1 h2;have h5':=h5;replace h5:nm.size≤200:=h5;have hnm:bs nm.data.toList=nm:=cf6 nm;have hkl:kn0 (.mk op v nm ds ks)=(ks.length:Int):=by unfold kn0;rw[bz6];rfl
 have hle:=bz6 (.mk op v nm ds ks);have hks:(Ex.mk op v nm ds ks).ks=ks:=rfl;unfold co3 at h3;rw[hkl]at h3;simp only[Ex.op,Ex.nm,Ex.ds]at h3;clear h hk ih hkl
 have hnn:ks.length≤ndL ks:=by
  have key:∀l:List Ex,l.length≤ndL l:=by
   intro l
   induction l with
   |nil=>exact ga8 _
   |cons a r ihr=>rw[ndL,fy7,cp0];omega
  exact key ks
 have hJ:(Lib.join (ks.map txE) [44,32]).length≤1073741824:=by
  refine gb8 (cy3 [44,32] Oc _) ?_
  have key:∀l:List Ex,(∀x∈l,(txE x).length≤1000000)→((l.map txE).map fun x=>x.length+2).sum≤1000002*l.length:=by
   intro l
   induction l with
   |nil=>intro _;exact ga8 _
   |cons a r ihr=>
    intro hl;have:=hl a Oc;have:=ihr fun x hx=>hl x (by simp[hx])
    simp only[fz7,List.sum_cons,fy7];omega
  have:=key ks hZ;omega
 have q1:(⟨#[46]⟩:ByteArray).size=1:=rfl;have q2:(⟨#[58]⟩:ByteArray).size=1:=rfl;have q3:(⟨#[78,79,84,32]⟩:ByteArray).size=4:=rfl;have q4:(⟨#[45]⟩:ByteArray).size=1:=rfl;have q5:(⟨#[32,73,83,32,78,85,76,76]⟩:ByteArray).size=8:=rfl;have q6:(⟨#[91]⟩:ByteArray).size=1:=rfl;have q7:(⟨#[93]⟩:ByteArray).size=1:=rfl;have q8:(⟨#[40]⟩:ByteArray).size=1:=rfl;have q9:(⟨#[41]⟩:ByteArray).size=1:=rfl;have q10:(⟨#[40,42,41]⟩:ByteArray).size=3:=rfl;have q11:(⟨#[40,68,73,83,84,73,78,67,84,32]⟩:ByteArray).size=10:=rfl;have q12:(⟨#[32]⟩:ByteArray).size=1:=rfl;have hcase:op=1∨op=2∨op=3∨op=4∨op=5∨op=6∨op=21∨op=22∨op=23∨op=24∨(7≤op∧op≤20):=Oa
 rcases hcase with rfl|rfl|rfl|rfl|rfl|rfl|rfl|rfl|rfl|rfl|hop
 ·have hc:=cx2 v (h4 rfl);rw[txE];refine ye1 func231 ntmps231 fun _ _ _=>?_
  repeat'(first|refine yz ?_|refine yp b288 hc ?_|refine yx ?_|(refine yy ?_ ?_<;>intro _)|exact zD|exact zL)
 ·rw[txE,show txN 2 v nm.data.toList ds (txL ks) (opL ks)=nm.data.toList from rfl,hnm];refine ye1 func231 ntmps231 fun _ _ _=>?_
  exact Om
 ·have hks2:∃x,ks=[x]:=by
   have:ks.length=1:=by
    have:((ks.length:Int)==1)=true:=h3;simp at this;omega
   match ks,this with
   |[x],_=>exact⟨x,rfl⟩
  obtain⟨x,rfl⟩:=hks2;have hx:(by9 (.mk 3 v nm ds [x]))[(0:Int).toNat]? =some (bz1 x):=rfl;have hl1:(by9 (.mk 3 v nm ds [x])).length=1:=rfl;have a1:=hO x Oc;have z1:=hOz x Oc;rw[txE,show txN 3 v nm.data.toList ds (txL [x]) (opL [x])=opT x++ [46]++nm.data.toList from rfl,←cf5,←cf5,hnm];refine ye1 func231 ntmps231 fun _ _ _=>?_
  repeat'(first|refine yz ?_|refine yi (bz1 x) hx ?_|refine yp bt4 a1 ?_|refine yx ?_|(refine yy ?_ ?_<;>intro _)|exact zD|exact zL)
 ·have hks2:∃x,ks=[x]:=by
   have:ks.length=1:=by
    have:((ks.length:Int)==1)=true:=h3;simp at this;omega
   match ks,this with
   |[x],_=>exact⟨x,rfl⟩
  obtain⟨x,rfl⟩:=hks2;have hx:(by9 (.mk 4 v nm ds [x]))[(0:Int).toNat]? =some (bz1 x):=rfl;have hl1:(by9 (.mk 4 v nm ds [x])).length=1:=rfl;have a1:=hO x Oc;have z1:=hOz x Oc;rw[txE,show txN 4 v nm.data.toList ds (txL [x]) (opL [x])=opT x++ [58]++nm.data.toList from rfl,←cf5,←cf5,hnm];refine ye1 func231 ntmps231 fun _ _ _=>?_
  repeat'(first|refine yz ?_|refine yi (bz1 x) hx ?_|refine yp bt4 a1 ?_|refine yx ?_|(refine yy ?_ ?_<;>intro _)|exact zD|exact zL)
 ·have hks2:∃x,ks=[x]:=by
   have:ks.length=1:=by
    have:((ks.length:Int)==1)=true:=h3;simp at this;omega
   match ks,this with
   |[x],_=>exact⟨x,rfl⟩
  obtain⟨x,rfl⟩:=hks2;have hx:(by9 (.mk 5 v nm ds [x]))[(0:Int).toNat]? =some (bz1 x):=rfl;have hl1:(by9 (.mk 5 v nm ds [x])).length=1:=rfl;have a1:=hO x Oc;have z1:=hOz x Oc;rw[txE,show txN 5 v nm.data.toList ds (txL [x]) (opL [x])=[78,79,84,32]++opT x from rfl,←cf5];refine ye1 func231 ntmps231 fun _ _ _=>?_
  repeat'(first|refine yz ?_|refine yi (bz1 x) hx ?_|refine yp bt4 a1 ?_|refine yx ?_|(refine yy ?_ ?_<;>intro _)|exact zD|exact zL)
 ·have hks2:∃x,ks=[x]:=by
   have:ks.length=1:=by
    have:((ks.length:Int)==1)=true:=h3;simp at this;omega
   match ks,this with
   |[x],_=>exact⟨x,rfl⟩
  obtain⟨x,rfl⟩:=hks2;have hx:(by9 (.mk 6 v nm ds [x]))[(0:Int).toNat]? =some (bz1 x):=rfl;have hl1:(by9 (.mk 6 v nm ds [x])).length=1:=rfl;have a1:=hO x Oc;have z1:=hOz x Oc;rw[txE,show txN 6 v nm.data.toList ds (txL [x]) (opL [x])=[45]++opT x from rfl,←cf5];refine ye1 func231 ntmps231 fun _ _ _=>?_
  repeat'(first|refine yz ?_|refine yi (bz1 x) hx ?_|refine yp bt4 a1 ?_|refine yx ?_|(refine yy ?_ ?_<;>intro _)|exact zD|exact zL)
 ·have hks2:∃x,ks=[x]:=by
   have:ks.length=1:=by
    have:((ks.length:Int)==1)=true:=h3;simp at this;omega
   match ks,this with
   |[x],_=>exact⟨x,rfl⟩
  obtain⟨x,rfl⟩:=hks2;have hx:(by9 (.mk 21 v nm ds [x]))[(0:Int).toNat]? =some (bz1 x):=rfl;have hl1:(by9 (.mk 21 v nm ds [x])).length=1:=rfl;have a1:=hO x Oc;have z1:=hOz x Oc;rw[txE,show txN 21 v nm.data.toList ds (txL [x]) (opL [x])=opT x++ [32,73,83,32,78,85,76,76]from rfl,←cf5];refine ye1 func231 ntmps231 fun _ _ _=>?_
  repeat'(first|refine yz ?_|refine yi (bz1 x) hx ?_|refine yp bt4 a1 ?_|refine yx ?_|(refine yy ?_ ?_<;>intro _)|exact zD|exact zL)
 ·have hj:Ev E 290 [.sl (by9 (.mk 22 v nm ds ks))] (.d (.str (bs (Lib.join (ks.map txE) [44,32])))):=cy7 ks hT Oa hJ;rw[txE,cx5,show txN 22 v nm.data.toList ds (ks.map txE) (opL ks)=[91]++Lib.join (ks.map txE) [44,32]++ [93]from rfl,←cf5,←cf5];have z1:(bs (Lib.join (ks.map txE) [44,32])).size≤1073741824:=by rw[cf7];exact hJ
  refine ye1 func231 ntmps231 fun _ _ _=>?_
  repeat'(first|refine yz ?_|refine yp b290 hj ?_|refine yx ?_|(refine yy ?_ ?_<;>intro _)|exact zD|exact zL)
 ·have hj:Ev E 290 [.sl (by9 (.mk 23 v nm ds ks))] (.d (.str (bs (Lib.join (ks.map txE) [44,32])))):=cy7 ks hT Oa hJ;rw[txE,cx5,show txN 23 v nm.data.toList ds (ks.map txE) (opL ks)=nm.data.toList++ [40]++Lib.join (ks.map txE) [44,32]++ [41]from rfl,←cf5,←cf5,←cf5,hnm];have z1:(bs (Lib.join (ks.map txE) [44,32])).size≤1073741824:=by rw[cf7];exact hJ
  refine ye1 func231 ntmps231 fun _ _ _=>?_
  repeat'(first|refine yz ?_|refine yp b290 hj ?_|refine yx ?_|(refine yy ?_ ?_<;>intro _)|exact zD|exact zL)
 ·have hks2:ks=[]∨∃x,ks=[x]:=by
   have:ks.length=1∨ks.length=0:=by
    have:((ks.length:Int)==1||((ks.length:Int)==0&&(isS nm ⟨#[99,111,117,110,116]⟩ && !ds)))=true:=h3;simp at this;rcases this with h|h
    ·left;omega
    ·right;exact List.length_eq_zero_iff.2 h.1
   match ks,this with
   |[],_=>exact .inl rfl
   |[x],_=>exact .inr ⟨x,rfl⟩
  rcases hks2 with rfl|⟨x,rfl⟩
  ·rw[txE,show txN 24 v nm.data.toList ds (txL []) (opL [])=nm.data.toList++ [40,42,41]from rfl,←cf5,hnm];refine ye1 func231 ntmps231 fun _ _ _=>?_
   exact Om
  ·have hx:(by9 (.mk 24 v nm ds [x]))[(0:Int).toNat]? =some (bz1 x):=rfl;have ht:=hT x Oc;have z1:(bs (txE x)).size≤1000000:=by rw[cf7];exact hZ x Oc
   skip
   cases ds with
   |true=>
    rw[txE,show txN 24 v nm.data.toList true (txL [x]) (opL [x])=nm.data.toList++ [40,68,73,83,84,73,78,67,84,32]++txE x++ [41] by simp[txN,txL],←cf5,←cf5,←cf5,hnm];refine ye1 func231 ntmps231 fun _ _ _=>?_
    repeat'(first|refine yz ?_|refine yi (bz1 x) hx ?_|refine yp bs8 ht ?_|refine yx ?_|(refine yy ?_ ?_<;>intro _)|exact zD|exact zL)
   |false=>
    rw[txE,show txN 24 v nm.data.toList false (txL [x]) (opL [x])=nm.data.toList++ [40]++txE x++ [41] by simp[txN,txL],←cf5,←cf5,←cf5,hnm];refine ye1 func231 ntmps231 fun _ _ _=>?_
    repeat'(first|refine yz ?_|refine yi (bz1 x) hx ?_|refine yp bs8 ht ?_|refine yx ?_|(refine yy ?_ ?_<;>intro _)|exact zD|exact zL)
 ·have n1:(op==1)=false:=by simp;omega
  have n2:(op==2)=false:=Og
  have n3:(op==3)=false:=Og
  have n4:(op==4)=false:=Og
  have n5:(op==5)=false:=Og
  have n6:(op==6)=false:=Og
  have n21:(op==21)=false:=Og
  have n22:(op==22)=false:=Og
  have n23:(op==23)=false:=Og
  have n24:(op==24)=false:=Og
  have hks2:∃x y,ks=[x,y]:=by
   rw[n1,n2,n3,n4,n5,n6,n21,n22,n23,n24]at h3;have:ks.length=2:=by simp at h3;omega
   match ks,this with
   |[x,y],_=>exact⟨x,y,rfl⟩
  obtain⟨x,y,rfl⟩:=hks2;have hx:(by9 (.mk op v nm ds [x,y]))[(0:Int).toNat]? =some (bz1 x):=rfl;have hy:(by9 (.mk op v nm ds [x,y]))[(1:Int).toNat]? =some (bz1 y):=rfl;have hl2:(by9 (.mk op v nm ds [x,y])).length=2:=rfl;have a1:=hO x Oc;have a2:=hO y Oc;have z1:=hOz x Oc;have z2:=hOz y Oc;have a3:=cx3 op;have z3:(bs (sgT op)).size≤3:=by rw[cf7];exact cx4 op
  rw[txE,show txN op v nm.data.toList ds (txL [x,y]) (opL [x,y])=opT x++ [32]++sgT op++ [32]++opT y by simp[txN,opL,opT,n1,n2,n3,n4,n5,n6,n21,n22,n23,n24],←cf5,←cf5,←cf5,←cf5];refine ye1 func231 ntmps231 fun _ _ _=>?_
  repeat'(first|refine yz ?_|refine yi (bz1 x) hx ?_|refine yi (bz1 y) hy ?_|refine yp bt4 a1 ?_|refine yp bt4 a2 ?_|refine yp b291 a3 ?_|refine yx ?_|(refine yy ?_ ?_<;>intro _)|exact zD|exact zL)
theorem cz0{α:Type}{l:List α}{i:Nat}{x:α}(h:l[i]? =some x):l.drop i=x::l.drop (i+1):=by
 obtain⟨hi,rfl⟩:=fy9.1 h;exact List.drop_eq_getElem_cons hi
theorem cz1{α:Type}{f:α→D}{l:List α}{i:Nat}{x:α}(h:l[i]? =some x):(l.map f)[((i:Nat):Int).toNat]? =some (f x):=by
 rw[show((i:Nat):Int).toNat=i by omega,fz1,h];rfl
theorem cz2{α:Type}{f:α→D}{l:List α}(h:Fit (.sl (l.map f))):l.length≤9223372036854775807∧∀x∈l,Fit (f x):=by
 obtain⟨h1,h2⟩:=h.sls;exact⟨by simpa using h1,fun x hx=>h2 _ (ga1.2 ⟨x,hx,rfl⟩)⟩
def cz3:Option Nat→Int|some i=>(i:Int)|none=> -1
theorem cz4{α:Type}{l:List α}{f:α→Bool}{i:Nat}{x:α}(hx:l[i]? =some x)(hc:f x=true)(h:∀j,j<i→∀y,l[j]? =some y→f y=false):l.findIdx? f=some i:=by
 have hi:=(fy9.1 hx).1;rw[gj6];refine⟨hi,?_,fun j hj=>?_⟩
 ·rw[fy4 hi]at hx
  cases hx
  exact hc
 ·have:=h j hj _ (fy4 Oa);simpa using this
theorem cz5{α:Type}{l:List α}{f:α→Bool}(h:∀j,j<l.length→∀y,l[j]? =some y→f y=false):l.findIdx? f=none:=by
 rw[gj7];intro x hx;obtain⟨j,hj⟩:=ga9 hx;exact h j (fy9.1 hj).1 x hj
theorem cz6{α:Type}{l:List α}{f:α→Bool}:decide (cz3 (l.findIdx? f)≥0)=l.any f:=by
 cases h:l.findIdx? f with
 |none=>
  rw[gj7]at h;have:l.any f=false:=by rw[gb9];intro x hx;simpa using h x hx
  rw[this];rfl
 |some i=>
  obtain⟨hi,h1,-⟩:=gj6.1 h;have:l.any f=true:=gi4.2 ⟨_,gf2 hi,h1⟩;rw[this];simp[cz3]
structure SFc{α:Type}(l:List α)(f:α→Bool) where
 i:Nat
 hi:i≤l.length
 ok:∀j,j<i→∀y,l[j]? =some y→f y=false
theorem SFc.next{α:Type}{l:List α}{f:α→Bool}{i:Nat}{x:α}(hx:l[i]? =some x)(hc:f x=false)(h:∀j,j<i→∀y,l[j]? =some y→f y=false):∀j,j<i+1→∀y,l[j]? =some y→f y=false:=by
 intro j hj y hy;rcases Nat.lt_succ_iff_lt_or_eq.1 hj with h1|rfl
 ·exact h j h1 y hy
 ·rw[hx]at hy;cases hy;exact hc
theorem cz7(fn:FuncId)(hb:an9 E fn)(f:ByteArray→Bool)(l:List (ByteArray))(hf:∀x∈l,Ev E fn [D.str x] (.d (.bool (f x)))):Ev E 187 [.sl (l.map D.str),.imm (.func (.func fn) #[] #[])] (.d (.int (cz3 (l.findIdx? f)))):=Ev.fit fun hfit=>by
 have hmax:=(cz2 (hfit (.sl (l.map D.str)) Oc)).1;have hle:(l.map D.str).length=l.length:=Oc
 refine ye2 func187 ntmps187 fun _ _ _=>?_
 repeat'(refine yz ?_)
 refine ac8 (α:=SFc l f) (fun p=>⟨[(0,.d (.sl (l.map D.str))),(1,.d (.imm (.func (.func fn) #[] #[]))),(7,.d (.int (l.map D.str).length)),(8,.d (.int p.i))],[]⟩) (fun p=>l.length-p.i) ⟨0,by omega,fun j hj=>absurd hj Oa⟩ (zle 0) ?_;rintro⟨i,hi,ok⟩;dsimp only;rcases fy5 i l.length with hlt|hge
 ·have g1:decide ((i:Int)<((l.map D.str).length:Int))=true:=by rw[hle];simpa using hlt
  have hx0:=fy4 hlt;generalize l[i]=y at hx0;have hx:=cz1 (f:=D.str) hx0;have h:=hf y (fy6 hx0)
  cases hc:f y with
  |true=>
   rw[hc]at h;rw[cz4 hx0 hc ok]
   repeat'(first|refine yz ?_|refine yi (D.str y) hx ?_|refine yp hb h ?_|exact zD)
  |false=>
   rw[hc]at h
   repeat'(first|refine yz ?_|refine yi (D.str y) hx ?_|refine yp hb h ?_)
   refine ac2 ?_;exact⟨⟨i+1,by omega,SFc.next hx0 hc ok⟩,by dsimp only;omega,(zle 0)⟩
 ·have g1:decide ((i:Int)<((l.map D.str).length:Int))=false:=by rw[hle];simp;omega
  rw[cz5 fun j hj=>ok j Oa]
  exact Om
theorem cz8(fn:FuncId)(hb:an9 E fn)(f:ByteArray→Bool)(l:List (ByteArray))(hf:∀x∈l,Ev E fn [D.str x] (.d (.bool (f x)))):Ev E 120 [.sl (l.map D.str),.imm (.func (.func fn) #[] #[])] (.d (.bool (l.any f))):=by
 have h:=cz7 fn hb f l hf;rw[←cz6];refine ye2 func120 ntmps120 fun _ _ _=>?_
 repeat'(first|refine yz ?_|refine yp b187 h ?_|exact zD)
theorem cz9(fn:FuncId)(hb:an9 E fn)(f:Ex→Bool)(l:List (Ex))(hf:∀x∈l,Ev E fn [bz1 x] (.d (.bool (f x)))):Ev E 130 [.sl (l.map bz1),.imm (.func (.func fn) #[] #[])] (.d (.int (cz3 (l.findIdx? f)))):=Ev.fit fun hfit=>by
 have hmax:=(cz2 (hfit (.sl (l.map bz1)) Oc)).1;have hle:(l.map bz1).length=l.length:=Oc
 refine ye2 func130 ntmps130 fun _ _ _=>?_
 repeat'(refine yz ?_)
 refine ac8 (α:=SFc l f) (fun p=>⟨[(0,.d (.sl (l.map bz1))),(1,.d (.imm (.func (.func fn) #[] #[]))),(7,.d (.int (l.map bz1).length)),(8,.d (.int p.i))],[]⟩) (fun p=>l.length-p.i) ⟨0,by omega,fun j hj=>absurd hj Oa⟩ (zle 0) ?_;rintro⟨i,hi,ok⟩;dsimp only;rcases fy5 i l.length with hlt|hge
 ·have g1:decide ((i:Int)<((l.map bz1).length:Int))=true:=by rw[hle];simpa using hlt
  have hx0:=fy4 hlt;generalize l[i]=y at hx0;have hx:=cz1 (f:=bz1) hx0;have h:=hf y (fy6 hx0)
  cases hc:f y with
  |true=>
   rw[hc]at h;rw[cz4 hx0 hc ok]
   repeat'(first|refine yz ?_|refine yi (bz1 y) hx ?_|refine yp hb h ?_|exact zD)
  |false=>
   rw[hc]at h
   repeat'(first|refine yz ?_|refine yi (bz1 y) hx ?_|refine yp hb h ?_)
   refine ac2 ?_;exact⟨⟨i+1,by omega,SFc.next hx0 hc ok⟩,by dsimp only;omega,(zle 0)⟩
 ·have g1:decide ((i:Int)<((l.map bz1).length:Int))=false:=by rw[hle];simp;omega
  rw[cz5 fun j hj=>ok j Oa]
  exact Om
theorem da0(fn:FuncId)(hb:an9 E fn)(f:Ex→Bool)(l:List (Ex))(hf:∀x∈l,Ev E fn [bz1 x] (.d (.bool (f x)))):Ev E 67 [.sl (l.map bz1),.imm (.func (.func fn) #[] #[])] (.d (.bool (l.any f))):=by
 have h:=cz9 fn hb f l hf;rw[←cz6];refine ye2 func67 ntmps67 fun _ _ _=>?_
 repeat'(first|refine yz ?_|refine yp b130 h ?_|exact zD)
theorem da1(fn:FuncId)(hb:an9 E fn)(f:EP→Bool)(l:List (EP))(hf:∀x∈l,Ev E fn [ct9 x] (.d (.bool (f x)))):Ev E 266 [.sl (l.map ct9),.imm (.func (.func fn) #[] #[])] (.d (.int (cz3 (l.findIdx? f)))):=Ev.fit fun hfit=>by
 have hmax:=(cz2 (hfit (.sl (l.map ct9)) Oc)).1;have hle:(l.map ct9).length=l.length:=Oc
 refine ye2 func266 ntmps266 fun _ _ _=>?_
 repeat'(refine yz ?_)
 refine ac8 (α:=SFc l f) (fun p=>⟨[(0,.d (.sl (l.map ct9))),(1,.d (.imm (.func (.func fn) #[] #[]))),(7,.d (.int (l.map ct9).length)),(8,.d (.int p.i))],[]⟩) (fun p=>l.length-p.i) ⟨0,by omega,fun j hj=>absurd hj Oa⟩ (zle 0) ?_;rintro⟨i,hi,ok⟩;dsimp only;rcases fy5 i l.length with hlt|hge
 ·have g1:decide ((i:Int)<((l.map ct9).length:Int))=true:=by rw[hle];simpa using hlt
  have hx0:=fy4 hlt;generalize l[i]=y at hx0;have hx:=cz1 (f:=ct9) hx0;have h:=hf y (fy6 hx0)
  cases hc:f y with
  |true=>
   rw[hc]at h;rw[cz4 hx0 hc ok]
   repeat'(first|refine yz ?_|refine yi (ct9 y) hx ?_|refine yp hb h ?_|exact zD)
  |false=>
   rw[hc]at h
   repeat'(first|refine yz ?_|refine yi (ct9 y) hx ?_|refine yp hb h ?_)
   refine ac2 ?_;exact⟨⟨i+1,by omega,SFc.next hx0 hc ok⟩,by dsimp only;omega,(zle 0)⟩
 ·have g1:decide ((i:Int)<((l.map ct9).length:Int))=false:=by rw[hle];simp;omega
  rw[cz5 fun j hj=>ok j Oa]
  exact Om
theorem da2(fn:FuncId)(hb:an9 E fn)(f:EP→Bool)(l:List (EP))(hf:∀x∈l,Ev E fn [ct9 x] (.d (.bool (f x)))):Ev E 196 [.sl (l.map ct9),.imm (.func (.func fn) #[] #[])] (.d (.bool (l.any f))):=by
 have h:=da1 fn hb f l hf;rw[←cz6];refine ye2 func196 ntmps196 fun _ _ _=>?_
 repeat'(first|refine yz ?_|refine yp b266 h ?_|exact zD)
theorem da3:∀a b:List UInt8,(Op.bytesLess a b=true∧Op.bytesLess b a=false∧a≠b)∨(Op.bytesLess a b=false∧Op.bytesLess b a=true∧a≠b)∨(Op.bytesLess a b=false∧Op.bytesLess b a=false∧a=b)
 |[],[]=>.inr (.inr ⟨rfl,rfl,rfl⟩)
 |[],_::_=>.inl ⟨rfl,rfl,by simp⟩
 |_::_,[]=>.inr (.inl ⟨rfl,rfl,by simp⟩)
 |x::a,y::b=>by
  have ih:=da3 a b;simp only[Op.bytesLess];rcases Nat.lt_trichotomy x.toNat y.toNat with h|h|h
  ·have h1:x<y:=h;have h2: ¬ y<x:=fun h'=>Nat.lt_asymm h h'
   have h3:x≠y:=fun e=>by subst e;omega
   have h4:(y==x)=false:=by rw[beq_eq_false_iff_ne];exact fun e=>h3 e.symm
   left;refine⟨by simp[h1],by simp[h2,h4],fun e=>h3 (List.cons.inj e).1⟩
  ·have e:x=y:=UInt8.toNat_inj.1 h;subst e;have h2: ¬ x<x:=fun h'=>gg9 _ h'
   simp only[h2,decide_false,beq_self_eq_true,gd1,gd0];rcases ih with⟨i1,i2,i3⟩|⟨i1,i2,i3⟩|⟨i1,i2,i3⟩
   ·exact .inl ⟨i1,i2,fun e=>i3 (List.cons.inj e).2⟩
   ·exact .inr (.inl ⟨i1,i2,fun e=>i3 (List.cons.inj e).2⟩)
   ·exact .inr (.inr ⟨i1,i2,by rw[i3]⟩)
  ·have h1:y<x:=h;have h2: ¬ x<y:=fun h'=>Nat.lt_asymm h h'
   have h3:x≠y:=fun e=>by subst e;omega
   have h4:(x==y)=false:=by rw[beq_eq_false_iff_ne];exact h3
   right;left;refine⟨by simp[h2,h4],by simp[h1],fun e=>h3 (List.cons.inj e).1⟩
theorem da4(a b:ByteArray):(Op.bytesLess b.toList a.toList||b.toList==a.toList)= !Op.bytesLess a.toList b.toList:=by
 rcases da3 a.toList b.toList with⟨h1,h2,h3⟩|⟨h1,h2,h3⟩|⟨h1,h2,h3⟩
 ·rw[h1,h2,show(b.toList==a.toList)=false by rw[beq_eq_false_iff_ne];exact fun e=>h3 e.symm];rfl
 ·rw[h1,h2];rfl
 ·rw[h1,h2,h3];simp
structure SRc(l:List ByteArray) where
 i:Nat
 hi:i+1≤l.length
 ok:cu7 l=cu7 (l.drop i)
theorem da5{l:List ByteArray}{i:Nat}{a b:ByteArray}(ha:l[i]? =some a)(hb:l[i+1]? =some b):cu7 (l.drop i)=(Op.bytesLess a.toList b.toList&&cu7 (l.drop (i+1))):=by
 rw[cz0 ha,cz0 hb];rfl
theorem da6{l:List ByteArray}{i:Nat}(h:i+1=l.length):cu7 (l.drop i)=true:=by
 obtain⟨a,ha⟩:∃a,l[i]? =some a:=⟨_,fy4 Oa⟩;rw[cz0 ha,ga2 Oa];rfl
theorem da7(l:List ByteArray):Ev E 203 [.sl (l.map .str)] (.d (.bool (cu7 l))):=Ev.fit fun hfit=>by
 have hmax:=(cz2 (hfit (.sl (l.map .str)) Oc)).1;have hle:(l.map D.str).length=l.length:=Oc
 by_cases h0:l=[]
 ·subst h0;refine ye1 func203 ntmps203 fun _ _ _=>?_
  repeat'(refine yz ?_)
  refine ac8 (α:=Unit) (fun p=>⟨[(0,.d (.sl [])),(3,.d (.int 1))],[]⟩) (fun p=>0) () (zle 0) ?_;rintro-;have g1:decide ((1:Int)<(([]:List D).length:Int))=false:=rfl
  exact Om
 have hp:=List.length_pos_iff.2 h0;refine ye1 func203 ntmps203 fun _ _ _=>?_
 repeat'(refine yz ?_)
 refine ac8 (α:=SRc l) (fun p=>⟨[(0,.d (.sl (l.map .str))),(3,.d (.int ((p.i+1:Nat):Int)))],[]⟩) (fun p=>l.length-p.i) ⟨0,by omega,rfl⟩ (zle 0) ?_;rintro⟨i,hi,ok⟩;dsimp only;rcases fy5 (i+1) l.length with hlt|hge
 ·have g1:decide (((i+1:Nat):Int)<((l.map D.str).length:Int))=true:=by rw[hle];simp;omega
  have ha0:=fy4 (show i<l.length by omega);have hb0:=fy4 hlt;generalize l[i]=a at ha0;generalize l[i+1]=b at hb0;have hb:=cz1 (f:=D.str) hb0
  have ha:(l.map D.str)[(((i+1:Nat):Int) -1).toNat]? =some (.str a):=by
   rw[show(((i+1:Nat):Int) -1)=(i:Int) by omega];exact cz1 (f:=D.str) ha0
  have g2:=da4 a b;rw[ok,da5 ha0 hb0]
  cases hc:Op.bytesLess a.toList b.toList with
  |true=>
   have hcn:(!Op.bytesLess a.toList b.toList)=false:=by rw[hc];rfl
   rw[hc]at g2
   repeat'(first|refine yz ?_|refine yi (.str b) hb ?_|refine yi (.str a) ha ?_)
   refine ac2 ?_;exact⟨⟨i+1,hlt,by rw[ok,da5 ha0 hb0,hc];rfl⟩,by dsimp only;omega,(zle 0)⟩
  |false=>
   have hcn:(!Op.bytesLess a.toList b.toList)=true:=by rw[hc];rfl
   rw[hc]at g2
   repeat'(first|refine yz ?_|refine yi (.str b) hb ?_|refine yi (.str a) ha ?_|exact zD)
 ·have g1:decide (((i+1:Nat):Int)<((l.map D.str).length:Int))=false:=by rw[hle];simp;omega
  rw[ok,da6 Oa]
  exact Om
theorem da8(s:ByteArray):Ev E 268 [.str s] (.d (.bool (!cs4 s))):=by
 have h:=cs6 s;refine ye1 func268 ntmps268 fun _ _ _=>?_
 repeat'(first|refine yz ?_|refine yp bs6 h ?_|exact zD)
theorem da9(l:List ByteArray):Ev E 201 [.sl (l.map .str)] (.d (.bool (l.all cs4))):=by
 have h:=cz8 268 b268 (fun s=> !cs4 s) l fun s _=>da8 s
 have e:(!(l.any fun s=> !cs4 s))=l.all cs4:=by rw[List.not_any_eq_all_not];simp
 rw[←e];refine ye1 func201 ntmps201 fun _ _ _=>?_
 repeat'(first|refine yz ?_|refine yp b120 h ?_|exact zD)
theorem db0(e:Ex):by9 e=e.ks.map bz1:=by
 obtain⟨op,v,nm,ds,ks⟩:=e;show bz0 ks=ks.map bz1
 induction ks with
 |nil=>rfl
 |cons x r ih=>simp only[bz0,fz7,ih];rfl
theorem db1(op:Int)(v:V)(nm:ByteArray)(ds:Bool)(ks:List Ex):cu5 (.mk op v nm ds ks)=(op==24||ks.any cu5):=by
 have:hagL ks=ks.any cu5:=by
  induction ks with
  |nil=>rfl
  |cons x r ih=>rw[hagL,ih];rfl
 rw[cu5,this]
theorem db2(e:Ex):Ev E 63 [bz1 e] (.d (.bool (cu5 e))):=by
 refine ca0 (P:=fun e=>Ev E 63 [bz1 e] (.d (.bool (cu5 e)))) (fun op v nm ds ks ih=>?_) e;have h:=da0 63 b63 cu5 ks ih;have hk:=db0 (.mk op v nm ds ks);simp only[Ex.ks]at hk;rw[←hk]at h;rw[db1]
 cases c1:op==24 with
 |true=>
  refine ye1 func63 ntmps63 fun _ _ _=>?_
  exact Om
 |false=>
  refine ye1 func63 ntmps63 fun _ _ _=>?_
  repeat'(first|refine yz ?_|refine yp b67 h ?_|refine yx ?_|exact zD)
theorem db3(e:EP):Ev E 198 [ct9 e] (.d (.bool (cv0 e))):=by
 obtain⟨vr,ty,dir,mode,mn,mx,ps⟩:=e;refine ye1 func198 ntmps198 fun _ _ _=>?_
 repeat'(first|refine yz ?_|(refine yy ?_ ?_<;>intro _)|(refine qV rfl ?_ ?_<;>intro _))
 all_goals(refine congrArg D.bool ?_;simp_all [cv0,gd9])
 all_goals first|omega|(rw[gb5];simp;omega)
theorem db4(e:EP):Ev E 205 [ct9 e] (.d (.bool (cv1 e))):=by
 obtain⟨vr,ty,dir,mode,mn,mx,ps⟩:=e;have hl:(ty.map D.str).length=ty.length:=Oc
 refine ye1 func205 ntmps205 fun _ _ _=>?_
 repeat'(first|refine yz ?_|(refine yy ?_ ?_<;>intro _))
 all_goals(refine congrArg D.bool ?_;simp_all [cv1])
 all_goals first|omega|(rw[gb5];simp;omega)
theorem db5(e:EP):Ev E 197 [ct9 e] (.d (.bool (!cv0 e))):=by
 have h:=db3 e;refine ye1 func197 ntmps197 fun _ _ _=>?_
 repeat'(first|refine yz ?_|refine yp b198 h ?_|exact zD)
theorem db6(e:EP):Ev E 204 [ct9 e] (.d (.bool (!cv1 e))):=by
 have h:=db4 e;refine ye1 func204 ntmps204 fun _ _ _=>?_
 repeat'(first|refine yz ?_|refine yp b205 h ?_|exact zD)
structure SKy(l:List PP) where
 i:Nat
 hi:i≤l.length
theorem db7{l:List PP}{i:Nat}{x:PP}(h:l[i]? =some x):(cu6 (l.take (i+1))).map D.str=(cu6 (l.take i)).map D.str++ [.str x.key]:=by
 rw[gd7,h];simp[cu6]
theorem db8(l:List PP)(hl:l.length≤1000000):Ev E 202 [.sl (l.map ct7)] (.d (.sl ((cu6 l).map .str))):=by
 have hle:(l.map ct7).length=l.length:=Oc
 refine ye1 func202 ntmps202 fun _ _ _=>?_
 repeat'(refine yz ?_)
 refine ac8 (α:=SKy l) (fun p=>⟨[(3,bh5 0 ((cu6 (l.take p.i)).map .str)),(6,.d (.sl (l.map ct7))),(7,.d (.int (l.map ct7).length)),(8,.d (.int p.i))],ay0 9 1 ((cu6 (l.take p.i)).map .str)⟩) (fun p=>l.length-p.i) ⟨0,by omega⟩ (zle 0) ?_;rintro⟨i,hi⟩;dsimp only;have hol:((cu6 (l.take i)).map D.str).length≤1000000:=by simp[cu6];omega
 rcases fy5 i l.length with hlt|hge
 ·have g1:decide ((i:Int)<((l.map ct7).length:Int))=true:=by rw[hle];simpa using hlt
  have hx0:=fy4 hlt;generalize l[i]=x at hx0;have hx:=cz1 (f:=ct7) hx0;have hnx:=db7 hx0;generalize(cu6 (l.take i)).map D.str=o at*
  match o,hol with
  |[],hol=>
   dsimp only[bh5,ay0]
   repeat'(first|refine yz ?_|refine yi (ct7 x) hx ?_|(refine qS rfl ⟨by simp,fun d hd=>by(obtain rfl:=ga4.1 hd;rfl),by(show(0+1)*16≤140737488355328;omega),by(show 0+1≤9223372036854775807;omega)⟩ ?_))
   refine ac2 ?_;refine⟨⟨i+1,by omega⟩,by dsimp only;omega,?_⟩;dsimp only;rw[hnx];exact(bi7 [1])
  |a::q,hol=>
   dsimp only[bh5,ay0]
   repeat'(first|refine yz ?_|refine yi (ct7 x) hx ?_|(refine qS rfl ⟨by simp,fun d hd=>by(obtain rfl:=ga4.1 hd;rfl),by(show((a::q).length+1)*16≤140737488355328;omega),by(show(a::q).length+1≤9223372036854775807;omega)⟩ ?_))
   refine ac2 ?_;refine⟨⟨i+1,by omega⟩,by dsimp only;omega,?_⟩;dsimp only;rw[hnx];exact(bi7 [2])
 ·have g1:decide ((i:Int)<((l.map ct7).length:Int))=false:=by rw[hle];simp;omega
  rw[ga3 hge];generalize(cu6 l).map D.str=o at*
  match o with
  |[]=>
   dsimp only[bh5,ay0]
   exact Om
  |a::q=>
   dsimp only[bh5,ay0];refine qA ?_;refine av3 0 rfl ?_
   exact Om
structure SLo(l:List EP) where
 i:Nat
 n:Int
 hi:i≤l.length
 h0:0≤n
 h1:n≤13*i
 ok:hopS l=(l.drop i).foldl (fun n e=>n+cu8 e) n
theorem db9(e:EP):0≤cu8 e∧cu8 e≤13:=by
 unfold cu8
 cases e.mode==0<;>simp<;>omega
theorem dc0(p:PA):Ev E 195 [cu0 p] (.d (.bool (cu9 p))):=Ev.fit fun hfit=>by
 obtain⟨vr,ns,es⟩:=p;have hft:=hfit (cu0 ⟨vr,ns,es⟩) Oc;have hmn:=(cz2 (hft.aggs (.sl (ns.map ct8)) Oc)).1;have hme:=(cz2 (hft.aggs (.sl (es.map ct9)) Oc)).1;have hln:(ns.map ct8).length=ns.length:=Oc
 have hle:(es.map ct9).length=es.length:=Oc
 unfold cu9;dsimp only
 cases c1:ns.length==0 with
 |true=>
  have g1:(((ns.map ct8).length:Int)==0)=true:=by rw[hln];simp at c1 ⊢;omega
  refine ye1 func195 ntmps195 fun _ _ _=>?_
  exact Om
 |false=>
  have g1:(((ns.map ct8).length:Int)==0)=false:=by rw[hln];simp at c1 ⊢;omega
  cases c2:decide (es.length>6)with
  |true=>
   have g2:decide (((es.map ct9).length:Int)>6)=true:=by rw[hle];simp at c2 ⊢;omega
   refine ye1 func195 ntmps195 fun _ _ _=>?_
   exact Om
  |false=>
   have g2:decide (((es.map ct9).length:Int)>6)=false:=by rw[hle];simp at c2 ⊢;omega
   have h6:es.length≤6:=by simp at c2;omega
   rw[gd0,gd0];refine ye1 func195 ntmps195 fun _ _ _=>?_
   repeat'(first|refine yz ?_|refine yx ?_)
   refine ac8 (α:=SLo es) (fun p=>⟨[(3,.d (.int p.n)),(17,.d (.sl (es.map ct9))),(18,.d (.int (es.map ct9).length)),(19,.d (.int p.i))],[]⟩) (fun p=>es.length-p.i) ⟨0,0,by omega,by omega,by omega,rfl⟩ (zle 0) ?_;rintro⟨i,n,hi,h0,h1,ok⟩;dsimp only at ok ⊢;rcases fy5 i es.length with hlt|hge
   ·have g3:decide ((i:Int)<((es.map ct9).length:Int))=true:=by rw[hle];simpa using hlt
    have hx0:=fy4 hlt;generalize es[i]=e at hx0;have hx:=cz1 (f:=ct9) hx0;have hr:=db9 e;rw[cz0 hx0,gd3]at ok
    cases c3:e.mode==0 with
    |true=>
     have hn:cu8 e=1:=by unfold cu8;rw[c3];rfl
     rw[hn]at ok
     repeat'(first|refine yz ?_|refine yi (ct9 e) hx ?_)
     refine ac2 ?_;exact⟨⟨i+1,n+1,by omega,by omega,by omega,ok⟩,by dsimp only;omega,(zle 0)⟩
    |false=>
     have hn:cu8 e=min (max e.mx 0) 13:=by unfold cu8;rw[c3];rfl
     rw[hn]at ok hr;have hin:inR .i64 (n+min (max e.mx 0) 13):=by simp only[inR];omega
     repeat'(first|refine yz ?_|refine yi (ct9 e) hx ?_)
     refine ac2 ?_;exact⟨⟨i+1,n+min (max e.mx 0) 13,by omega,by omega,by omega,ok⟩,by dsimp only;omega,(zle 0)⟩
   ·have g3:decide ((i:Int)<((es.map ct9).length:Int))=false:=by rw[hle];simp;omega
    have hn:hopS es=n:=by rw[ok,ga2 hge];rfl
    rw[hn]
    exact Om
end Go.Proofs.YtndgolmgaenlfaaGreatDoor
namespace Go.Proofs.YtndgolmgaenlfaaGreatDoor
set_option maxRecDepth 4000
open Go Go.Abs Go.Val Go.RowKit Go.Proofs.Tryz
def ltP(a b:ByteArray):Bool:=Op.bytesLess a.toList b.toList
theorem dc1:∀a b c:List UInt8,Op.bytesLess a b=true→Op.bytesLess b c=true→Op.bytesLess a c=true
 |_,[],_,h,_=>by rename_i a _ _;cases a<;>simp[Op.bytesLess]at h
 |_,_::_,[],_,h=>by simp[Op.bytesLess]at h
 |[],_::_,_::_,_,_=>rfl
 |x::a,y::b,z::c,h1,h2=>by
  simp only[Op.bytesLess,gb0,fz4,decide_eq_true_eq,beq_iff_eq]at h1 h2 ⊢;rcases h1 with p|⟨p,p'⟩
  ·have p0:x.toNat<y.toNat:=p;rcases h2 with q|⟨q,-⟩
   ·have q0:y.toNat<z.toNat:=q;exact .inl (show x.toNat<z.toNat by omega)
   ·subst q;exact .inl p
  ·subst p;rcases h2 with q|⟨q,q'⟩
   ·exact .inl q
   ·exact .inr ⟨q,dc1 a b c p' q'⟩
theorem dc2{a b:ByteArray}(h:a.toList=b.toList):a=b:=by
 rw[ByteArray.toList_eq,ByteArray.toList_eq]at h;exact ByteArray.ext (Array.toList_inj.1 h)
theorem dc3(a b:ByteArray):(a.toList==b.toList)=decide (a=b):=by
 rw[gb5,beq_iff_eq,decide_eq_true_eq];exact⟨dc2,fun h=>by rw[h]⟩
theorem dc4{a b c:ByteArray}(h1:ltP a b=true)(h2:ltP b c=true):ltP a c=true:=dc1 _ _ _ h1 h2
theorem dc5(a:ByteArray):ltP a a=false:=by
 unfold ltP;rcases da3 a.toList a.toList with⟨-,-,h⟩|⟨-,-,h⟩|⟨h,-,-⟩
 ·exact absurd rfl h
 ·exact absurd rfl h
 ·exact h
theorem dc6(a b:ByteArray):ltP a b=true∨a=b∨ltP b a=true:=by
 unfold ltP;rcases da3 a.toList b.toList with⟨h,-,-⟩|⟨-,h,-⟩|⟨-,-,h⟩
 ·exact .inl h
 ·exact .inr (.inr h)
 ·exact .inr (.inl (dc2 h))
theorem dc7{a b:ByteArray}(h:ltP a b=true):a≠b:=fun e=>by rw[e,dc5]at h;cases h
theorem dc8{a b:ByteArray}(h:ltP a b=true):ltP b a=false:=by
 cases h2:ltP b a with
 |false=>rfl
 |true=>rw[←dc5 a];exact(dc4 h h2).symm
abbrev dc9(l:List ByteArray):Prop:=l.Pairwise fun a b=>ltP a b=true
def dd0(s:ByteArray):List ByteArray→List ByteArray
 |[]=>[s]
 |x::r=>bif ltP x s then x::dd0 s r else bif x.toList==s.toList then x::r else s::x::r
theorem dd1{s y:ByteArray}:∀{l:List ByteArray},y∈dd0 s l↔y=s∨y∈l
 |[]=>by simp[dd0]
 |x::r=>by
  have ih:=dd1 (s:=s) (y:=y) (l:=r);unfold dd0
  cases h1:ltP x s with
  |true=>rw[cond_true,fz0,ih,fz0];exact or_left_comm
  |false=>
   rw[cond_false]
   cases h2:x.toList==s.toList with
   |true=>
    obtain rfl:=dc2 (by simpa using h2:x.toList=s.toList);rw[cond_true,fz0];exact⟨.inr,fun h=>h.elim .inl id⟩
   |false=>rw[cond_false,fz0]
theorem dd2{s:ByteArray}:∀{l:List ByteArray},dc9 l→dc9 (dd0 s l)
 |[],_=>List.pairwise_singleton _ _
 |x::r,h=>by
  rw[dc9,gj3]at h;unfold dd0
  cases h1:ltP x s with
  |true=>
   rw[cond_true,dc9,gj3];refine⟨fun y hy=>?_,dd2 h.2⟩;rcases dd1.1 hy with rfl|hy
   ·exact h1
   ·exact h.1 y hy
  |false=>
   rw[cond_false]
   cases h2:x.toList==s.toList with
   |true=>rw[cond_true];exact gj3.2 h
   |false=>
    have h3:ltP s x=true:=by
     rcases dc6 x s with h|h|h
     ·rw[h]at h1;cases h1
     ·rw[h,beq_self_eq_true]at h2;cases h2
     ·exact h
    rw[cond_false,dc9,gj3];refine⟨fun y hy=>?_,gj3.2 h⟩;rcases fz0.1 hy with rfl|hy
    ·exact h3
    ·exact dc4 h3 (h.1 y hy)
theorem dd3:∀{a b:List ByteArray},dc9 a→dc9 b→(∀x,x∈a↔x∈b)→a=b
 |[],[],_,_,_=>rfl
 |[],y::q,_,_,h=>absurd ((h y).2 Oc) Oc
 |x::r,[],_,_,h=>absurd ((h x).1 Oc) Oc
 |x::r,y::q,ha,hb,h=>by
  rw[dc9,gj3]at ha hb
  have e:x=y:=by
   rcases fz0.1 ((h x).1 Oc)with e|hx
   ·exact e
   ·rcases fz0.1 ((h y).2 Oc)with e|hy
    ·exact e.symm
    ·have h1:=hb.1 x hx;have h2:=ha.1 y hy;rw[dc8 h1]at h2
     cases h2
  subst e;refine congrArg (x:: ·) (dd3 ha.2 hb.2 fun z=>?_);constructor
  ·intro hz;rcases fz0.1 ((h z).1 (by simp[hz]))with e|h'
   ·exact absurd e.symm (dc7 (ha.1 z hz))
   ·exact h'
  ·intro hz;rcases fz0.1 ((h z).2 (by simp[hz]))with e|h'
   ·exact absurd e.symm (dc7 (hb.1 z hz))
   ·exact h'
def dd4(acc l:List ByteArray):List ByteArray:=l.foldl (fun a s=>dd0 s a) acc
theorem dd5{y:ByteArray}:∀{l acc:List ByteArray},y∈dd4 acc l↔y∈acc∨y∈l
 |[],acc=>by simp[dd4]
 |s::r,acc=>by
  have ih:=dd5 (y:=y) (l:=r) (acc:=dd0 s acc);show y∈dd4 (dd0 s acc) r↔_;rw[ih,dd1,fz0];constructor
  ·rintro((h|h)|h)
   ·exact .inr (.inl h)
   ·exact .inl h
   ·exact .inr (.inr h)
  ·rintro(h|h|h)
   ·exact .inl (.inr h)
   ·exact .inl (.inl h)
   ·exact .inr h
theorem dd6:∀{l acc:List ByteArray},dc9 acc→dc9 (dd4 acc l)
 |[],_,h=>h
 |s::r,acc,h=>dd6 (l:=r) (dd2 (s:=s) h)
mutual
def usX:Ex→List ByteArray
 |.mk op _ nm _ ks=>(bif op==2 then [nm]else [])++dd7 ks
def dd7:List Ex→List ByteArray
 |[]=>[]
 |x::r=>usX x++dd7 r
end
def dd8(e:Ex):List ByteArray:=dd4 [] (usX e)
theorem dd9(e:Ex):dc9 (dd8 e):=dd6 List.Pairwise.nil
theorem de0{e:Ex}{s:ByteArray}:s∈dd8 e↔s∈usX e:=by unfold dd8;rw[dd5];simp
theorem de1:∀l:List Ex,dd7 l=l.flatMap usX
 |[]=>rfl
 |x::r=>by rw[dd7,gc7,de1 r]
theorem de2(e:Ex):(usX e).length≤nd e:=by
 refine ca0 (P:=fun e=>(usX e).length≤nd e) (fun op v nm ds ks ih=>?_) e;rw[usX,cp0];show _≤ndL ks+1
 have key:∀l:List Ex,(∀x∈l,(usX x).length≤nd x)→(dd7 l).length≤ndL l:=by
  intro l
  induction l with
  |nil=>intro _;exact fz6 _
  |cons a r ihr=>
   intro h;have h1:=h a Oc;have h2:=ihr fun x hx=>h x (by simp[hx])
   simp only[dd7,fy8,ndL];omega
 have hk:=key ks ih;rw[fy8]
 cases op==2 with
 |true=>rw[cond_true];simp;omega
 |false=>rw[cond_false];simp;omega
theorem de3(s:ByteArray):∀l:List ByteArray,(dd0 s l).length≤l.length+1
 |[]=>by simp[dd0]
 |x::r=>by
  have:=de3 s r;unfold dd0
  cases ltP x s with
  |true=>rw[cond_true];simp;omega
  |false=>
   rw[cond_false]
   cases x.toList==s.toList with
   |true=>rw[cond_true];simp
   |false=>rw[cond_false];simp
theorem de4:∀(l acc:List ByteArray),(dd4 acc l).length≤acc.length+l.length
 |[],acc=>by simp[dd4]
 |s::r,acc=>by
  have h1:=de4 r (dd0 s acc);have h2:=de3 s acc;show(dd4 (dd0 s acc) r).length≤_;simp only[fy7];omega
theorem de5(e:Ex):(dd8 e).length≤nd e:=by
 have h1:=de4 (usX e) [];have h2:=de2 e;unfold dd8;simp only[fz2]at h1;omega
def de6(ks:List ByteArray)(s:ByteArray):List ByteArray:=bif ks.any (fun x=>x.toList==s.toList)then ks else ks++ [s]
theorem de7{ks:List ByteArray}{s:ByteArray}:(ks.any fun x=>x.toList==s.toList)=true↔s∈ks:=by
 rw[gi4];constructor
 ·rintro⟨x,hx,h⟩;obtain rfl:=dc2 (by simpa using h:x.toList=s.toList);exact hx
 ·intro h;exact⟨s,h,by simp⟩
theorem de8{ks:List ByteArray}{s:ByteArray}:(ks.any fun x=>x.toList==s.toList)=false↔s ∉ ks:=by rw[←ge5,de7]
theorem de9{ks:List ByteArray}{s y:ByteArray}:y∈de6 ks s↔y=s∨y∈ks:=by
 unfold de6
 cases h:ks.any fun x=>x.toList==s.toList with
 |true=>
  have h:=de7.1 h;rw[cond_true];exact⟨.inr,fun h'=>h'.elim (fun e=>e ▸ h) id⟩
 |false=>
  rw[cond_false,gb2,ga4];exact or_comm
theorem df0{ks:List ByteArray}{s:ByteArray}(hn:ks.Nodup):(de6 ks s).Nodup:=by
 unfold de6
 cases h:ks.any fun x=>x.toList==s.toList with
 |true=>rw[cond_true];exact hn
 |false=>
  have h:=de8.1 h;rw[cond_false];refine List.nodup_append.2 ⟨hn,List.nodup_cons.2 ⟨by simp,List.nodup_nil⟩,fun a ha b hb=>?_⟩;rw[ga4]at hb;subst hb;rintro rfl;exact h ha
theorem df1(ks:List ByteArray)(s:ByteArray):(de6 ks s).length≤ks.length+1:=by
 unfold de6
 cases ks.any fun x=>x.toList==s.toList with
 |true=>rw[cond_true];omega
 |false=>rw[cond_false];simp
def df2(ks l:List ByteArray):List ByteArray:=l.foldl de6 ks
theorem df3{y:ByteArray}:∀{l ks:List ByteArray},y∈df2 ks l↔y∈ks∨y∈l
 |[],ks=>by simp[df2]
 |s::r,ks=>by
  show y∈df2 (de6 ks s) r↔_;rw[df3,de9,fz0];constructor
  ·rintro((h|h)|h)
   ·exact .inr (.inl h)
   ·exact .inl h
   ·exact .inr (.inr h)
  ·rintro(h|h|h)
   ·exact .inl (.inr h)
   ·exact .inl (.inl h)
   ·exact .inr h
theorem df4:∀{l ks:List ByteArray},ks.Nodup→(df2 ks l).Nodup
 |[],_,h=>h
 |s::r,ks,h=>df4 (l:=r) (df0 (s:=s) h)
theorem df5:∀(l ks:List ByteArray),(df2 ks l).length≤ks.length+l.length
 |[],ks=>by simp[df2]
 |s::r,ks=>by
  have h1:=df5 r (de6 ks s);have h2:=df1 ks s;show(df2 (de6 ks s) r).length≤_;simp only[fy7];omega
theorem df6{ks a b:List ByteArray}:df2 ks (a++b)=df2 (df2 ks a) b:=by unfold df2;rw[List.foldl_append]
end Go.Proofs.YtndgolmgaenlfaaGreatDoor
namespace Go.Proofs.YtndgolmgaenlfaaGreatDoor
set_option maxRecDepth 4000
open Go Go.Abs Go.Val Go.RowKit Go.Maps Go.Sort Go.Shelf Go.Proofs Go.Proofs.Tryz
theorem df7(m:Nat):AnyZ.SortsIn Tryz.prog Tryz.sortedU_ren Fence.wide m:=
 ⟨fun blk off cap ss W hH hblk hsz=>callsIn_wide.2 (AnyM.slices_Sort_string Tryz.sortU blk off cap ss W hH hblk hsz),fun p cap W=>callsIn_wide.2 (AnyM.slices_Sort_string_none Tryz.sortU p cap W)⟩
set_option maxHeartbeats 1000000 in
theorem df8{H:Type}(w:World)(Bm b nn:Nat)(D0:DataW H)(R:Value→Option (DataW H × List MemPlace))(hBm:Bm<w.heap.size)(hm:w.cell? ⟨Bm,0,none⟩=some (.map (some b)))(hown:w.ownsMap Tryz.prog 9 R b nn D0)(hmax:Maps.size D0≤maxLen)(hbytes:Maps.size D0*16≤140737488355328):
  Calls Tryz.prog 109 #[.func (.func 264) #[] #[.pointer (some ⟨Bm,0,none⟩)]] w fun e w'=>∃(v:Value) (ss:List (List UInt8)),e=.returned v∧ss.Perm (strKeys D0)∧
   w'.ownsRow w.heap.size 9 1 v ss.length ((ss.mergeSort (fun x y=>decide (x≤y))).map encStr)∧(v=.slice none 0 0↔ss=[])∧Below w.heap.size w w':=by
 have hseq:SeqGives Fence.wide 2 Tryz.prog 264 #[.pointer (some ⟨Bm,0,none⟩)] encStr (fun ss=>ss.Perm (strKeys D0)) (Maps.size D0) w:=
  AnyZ.keys_gives (ρ:=Tryz.keysU_ren) {Tryz.keysU with} Fence.wide _ trivial rfl Oa Bm b nn D0 _ hBm hm hown
 exact callsIn_wide.1 (AnyZ.sorted_in Tryz.sortedU Fence.wide 5 trivial trivial trivial trivial rfl Oa (df7 _) (enters_of func177 Ob rfl) 264 _ trivial (enters_of func264 Ob rfl) _ _ hmax hbytes _ hseq)
def mpU(ks:List ByteArray):List (Value × D):=ks.map fun s=>(.string s,.bool true)
theorem df9(s:ByteArray):∀ks:List ByteArray,bk6 (.string s) (mpU ks)=ks.findIdx? fun x=>x.toList==s.toList
 |[]=>rfl
 |x::r=>by
  have ih:=df9 s r
  have e:vEq (.string s) (.string x)=(x.toList==s.toList):=by
   show(s==x)=_;rw[dc3,gb5,decide_eq_true_eq];rw[MapKept.bytes_beq];exact⟨fun h=>h.symm,fun h=>h.symm⟩
  show(bif vEq (.string s) (.string x)then some 0 else(bk6 (.string s) (mpU r)).map (· +1))=_;rw[e,ih,List.findIdx?_cons]
  cases x.toList==s.toList<;>rfl
theorem dg0(s:ByteArray)(ks:List ByteArray):bk7 (.string s) (.bool true) (mpU ks)=mpU (de6 ks s):=by
 unfold bk7 de6;rw[df9]
 cases h:ks.findIdx? fun x=>x.toList==s.toList with
 |none=>
  rw[gj7]at h
  have:(ks.any fun x=>x.toList==s.toList)=false:=by
   rw[←ge5,gi4];rintro⟨x,hx,he⟩;rw[h x hx]at he;cases he
  rw[this,cond_false];simp[mpU]
 |some i=>
  obtain⟨hi,he,-⟩:=gj6.1 h;have:(ks.any fun x=>x.toList==s.toList)=true:=gi4.2 ⟨_,gf2 hi,he⟩;rw[this,cond_true];have hx:ks[i]=s:=dc2 (by simpa using he);show(mpU ks).set i (.string s,.bool true)=mpU ks;apply gg8;intro j;rw[ge2];split
  ·rename_i hj
   subst hj;have hl:i<(mpU ks).length:=by simp[mpU,hi]
   rw[if_pos hl];simp[mpU,fy4 hi,hx]
  ·rfl
theorem le_lt{x y:List UInt8}(h:x≤y)(hn:x≠y):Op.bytesLess x y=true:=by
 rcases da3 x y with⟨h1,-,-⟩|⟨-,h2,-⟩|⟨-,-,h3⟩
 ·exact h1
 ·rw[bytesLess_eq,decide_eq_true_eq]at h2;exact absurd h2 (List.not_lt.2 h)
 ·exact absurd h3 hn
def toB(l:List (List UInt8)):List ByteArray:=l.map fun b=>⟨b.toArray⟩
theorem dg1{ks:List ByteArray}{ss:List (List UInt8)}(hp:ss.Perm (cl9 ks))(hn:ks.Nodup):toB (ss.mergeSort fun x y=>decide (x≤y))=dd4 [] ks:=by
 have hsl:(ss.mergeSort fun x y=>decide (x≤y)).Pairwise fun x y=>x≤y:=by
  have:=List.pairwise_mergeSort (le:=fun x y:List UInt8=>decide (x≤y)) (fun a b c h1 h2=>by simp only[decide_eq_true_eq]at*;exact List.le_trans h1 h2) (fun a b=>by simp only[gb0,decide_eq_true_eq];exact List.le_total a b) ss;exact this.imp fun h=>by simpa using h
 have hbn:(cl9 ks).Nodup:=by
  unfold cl9;refine List.pairwise_map.2 (hn.imp fun{a b} h e=>h ?_);exact ByteArray.ext (Array.toList_inj.1 e)
 have hpm:(ss.mergeSort fun x y=>decide (x≤y)).Perm (cl9 ks):=(List.mergeSort_perm _ _).trans hp;have hnd:(ss.mergeSort fun x y=>decide (x≤y)).Nodup:=hpm.nodup_iff.2 hbn;generalize(ss.mergeSort fun x y=>decide (x≤y))=T at*;refine dd3 ?_ (dd6 List.Pairwise.nil) fun x=>?_
 ·unfold toB;refine List.pairwise_map.2 ((hsl.and hnd).imp fun{a b} h=>?_);unfold ltP;rw[ByteArray.toList_eq,ByteArray.toList_eq];exact le_lt h.1 h.2
 ·rw[dd5];unfold toB;rw[ga1];constructor
  ·rintro⟨b,hb,rfl⟩;obtain⟨s,hs,rfl⟩:=ga1.1 (hpm.mem_iff.1 hb);exact .inr hs
  ·rintro(h|h)
   ·cases h
   ·exact⟨x.data.toList,hpm.mem_iff.2 (ga1.2 ⟨x,h,rfl⟩),rfl⟩
theorem dg2(mt:TypeId)(ks:List ByteArray)(hs:∀s∈ks,s.size≤maxLen)(hn:ks.Nodup)(hsz:ks.length≤1000000000):
  EvS E 109 [.clo 264 [.ptr 0 0]] [.var mt (.w (.mp 1)),.map .string (mpU ks)] (.d (.sl ((dd4 [] ks).map .str))) [.var mt (.w (.mp 1)),.map .string (mpU ks)]:=by
 intro w F σ vs hi hl hr
 match vs,hl with
 |[v0],_=>
  obtain⟨us,rfl,ul,ur⟩:=hr 0 _ _ rfl rfl
  match us,ul with
  |[u0],_=>
   obtain⟨b,c,n,e1,rfl⟩:=ur 0 _ _ rfl rfl;obtain⟨cs,g1,g2,g3,g4,g5,g6⟩:=hi.obs 0 _ _ rfl e1
   match cs,g2 with
   |[sv],_=>
    obtain⟨b1,c1,n1,f1,rfl⟩:=g4 0 (.mp 1) sv rfl rfl;obtain⟨es,k1,k2,k3,k4,k5,k6⟩:=hi.obs 1 _ _ rfl f1;have hml:(mpU ks).length=ks.length:=by simp[mpU]
    have hus:Tryz.prog.underlying 9=some .string:=Ob
    have hbl:b<w.heap.size:=(gh1.1 g1).1
    have hkey:∀(i:Nat) e,es[i]? =some e→∃s,ks[i]? =some s∧e.key=.string s∧e.born=i:=by
     intro i e he;have hil:i<ks.length:=by have:=(gh1.1 he).1;omega
     obtain⟨⟨q1,q2⟩,-⟩:=k3 i e (.string ks[i],.bool true) he (by simp[mpU,fy4 hil]);exact⟨ks[i],fy4 hil,q1,q2⟩
    let R:Value→Option (DataW Unit × List MemPlace):=fun _=>some (.lit (.bool true),[])
    have hrd:∀(i:Nat) e s,es[i]? =some e→ks[i]? =some s→WideElems.rd Tryz.prog 9 R e=some (.string s.data.toList,.lit (.bool true)):=by
     intro i e s he hk;obtain⟨s',h1,h2,-⟩:=hkey i e he;rw[hk]at h1
     cases h1
     unfold WideElems.rd;rw[h2,WideMaps.keyOf_string_mk hus (hs s (fy6 hk))];rfl
    have hrg:es.toList.map (WideElems.rg Tryz.prog 9 R)=ks.map fun s=>(Lit.string s.data.toList,(DataW.lit (.bool true):DataW Unit)):=by
     apply gg8;intro j;rw[fz1,fz1];rcases fy5 j ks.length with hj|hj
     ·obtain⟨e,he⟩:∃e,es[j]? =some e:=⟨es[j]'Oa,by simp⟩;have hk:=fy4 hj;rw[gh9,he,hk];simp only[gc1];unfold WideElems.rg;rw[hrd j e _ he hk];rfl
     ·rw[gc5 (l:=es.toList) (by rw[gh0];omega),gc5 hj];rfl
    have hfit:WideElems.Fit Tryz.prog 9 R es es.size:=by
     refine⟨by rw[k2,hml];unfold maxLen;omega,⟨?_,?_,?_⟩,?_⟩
     ·intro x hx;obtain⟨i,hi'⟩:=ga9 hx;rw[gh9]at hi';obtain⟨-,-,-,hb⟩:=hkey i x hi';have:=(gh1.1 hi').1;omega
     ·have:es.toList.map (·.born)=List.range es.size:=by
       apply gg8;intro j;rw[fz1,gh9];rcases fy5 j es.size with hj|hj
       ·obtain⟨e,he⟩:∃e,es[j]? =some e:=⟨es[j]'hj,by simp⟩;obtain⟨-,-,-,hb⟩:=hkey j e he;rw[he,gf6 hj,←hb];rfl
       ·rw[gh5 hj,gc5 (by simpa using hj)];rfl
      rw[this];exact List.nodup_range
     ·have:es.toList.map (·.key)=ks.map Value.string:=by
       apply gg8;intro j;rw[fz1,gh9,fz1];rcases fy5 j es.size with hj|hj
       ·obtain⟨e,he⟩:∃e,es[j]? =some e:=⟨es[j]'hj,by simp⟩;obtain⟨s,h1,h2,-⟩:=hkey j e he;rw[he,h1];exact congrArg some h2
       ·rw[gh5 hj,gc5 Oa];rfl
      rw[this];exact List.pairwise_map.2 (hn.imp fun{a b} h e=>h (by cases e;rfl))
     ·intro x hx;obtain⟨i,hi'⟩:=ga9 hx;rw[gh9]at hi';obtain⟨s,h1,-,-⟩:=hkey i x hi';exact⟨_,hrd i x s hi' h1⟩
    obtain⟨D0,hD0⟩:∃D0:DataW Unit,D0=.map ((es.toList.map (WideElems.rg Tryz.prog 9 R)).foldr DataW.insert []):=⟨_,rfl⟩;have hperm:=WideShapes.sorted_perm (es.toList.map (WideElems.rg Tryz.prog 9 R))
    have hDs:Maps.size D0=ks.length:=by
     rw[hD0];show(List.foldr DataW.insert [] _).length=_;rw[hperm.length_eq,hrg,fz3]
    have hDk:(strKeys D0).Perm (cl9 ks):=by
     rw[hD0];refine(hperm.map _).trans ?_;rw[hrg,List.map_map];exact List.Perm.refl _
    have hown:w.ownsMap Tryz.prog 9 R b1 es.size D0:=⟨es,es.size,k1,hfit,fz6 _,hD0⟩;have hmx:maxLen=9223372036854775807:=rfl;refine(df8 w b b1 es.size D0 R hbl ?_ hown (by rw[hDs];omega) (by rw[hDs];omega)).mono ?_
    ·simp only[World.cell?,g1];simp
    ·rintro e w' ⟨v,ss,rfl,hp,hrow,hnil,hb⟩;have hsi:=dg1 (hp.trans hDk) hn;have hsl:ss.length=ks.length:=by rw[(hp.trans hDk).length_eq];simp[cl9]
     have hin:∀z∈ss.mergeSort (fun x y=>decide (x≤y)),z.length≤maxLen:=by
      intro z hz;have hz':z∈cl9 ks:=(hp.trans hDk).mem_iff.1 ((List.mergeSort_perm _ _).mem_iff.1 hz);obtain⟨s,h1,rfl⟩:=ga1.1 hz';rw[gh0];exact hs s h1
     have hD:(dd4 [] ks).map D.str=cm0 (ss.mergeSort fun x y=>decide (x≤y)):=by
      rw[←hsi];simp[toB,cm0]
     have hml2:(ss.mergeSort fun x y=>decide (x≤y)).length=ss.length:=List.length_mergeSort _;rw[hD];generalize ss.mergeSort (fun x y=>decide (x≤y))=T at*
     by_cases h0:ss=[]
     ·have hT:T=[]:=gf1 (by rw[hml2,h0];rfl);subst hT;obtain rfl:=hnil.2 h0;exact⟨_,F,σ,rfl,aa7.of_below hb fun k hk=>hk.1,fun _ h=>h,fun _ h=>.inl h,fun i p _ hp=>hp,(ab2.lend hi).ext (Ext.of_below hb hi.flt),Rd.slnil⟩
     ·have hv:v≠ .slice none 0 0:=fun h=>h0 (hnil.1 h)
      have hblk:∀k,v.ownBlock=some k→w.heap.size≤k:=fun k hk=>(hrow.lt k hk).1
      obtain⟨zc1,zc2⟩:=cm2 T
      obtain⟨g,cp,rfl,hob⟩:=ar0 (F:=F) (σ:=σ) (B:=fun _=>False) (xs:=cm0 T) (ownsRow_base_a hrow (ga8 _)) (fun k hk hh=>hh) hv (by simp[cm0,hml2]) zc1 zc2 (cm3 hin)
       (fun k hk hf=>by have:=hblk k hk;have:=hi.flt k hf;omega)
      have hge:=hblk g rfl;obtain⟨vs',q1,q2,q3,q4,q5,q6,q7,q8,-,q10⟩:=hob;have hgl:g<w'.heap.size:=(gh1.1 q1).1;have hE:Ext w F w' (fun k=>F k∨k=g):=⟨hb,fun _ h=>.inl h,fun k hk=>by rcases hk with h|rfl;exact .inl h;exact .inr hge,fun k hk=>by rcases hk with h|rfl;exact gi1 (hi.flt k h) hb.size;exact hgl⟩;refine⟨_,fun k=>F k∨k=g,σ,rfl,aa7.of_below hb fun k hk=>hk.1,fun _ h=>.inl h,fun k hk=>?_,fun i p _ hp=>hp,(ab2.lend hi).ext hE,?_⟩
      ·rcases hk with h|rfl
       ·exact .inl h
       ·exact .inr fun hh=>by have:=hh.1;omega
      ·have hex:∀i j,∃u,∀x cd,(cm0 T)[i]? =some x→x.cells[j]? =some cd→vs'[i*1+j]? =some u∧Rd w' F cd u:=by
        intro i j
        cases hx:(cm0 T)[i]? with
        |none=>exact⟨undef,fun x cd h=>by cases h⟩
        |some x=>
         cases hc:x.cells[j]? with
         |none=>exact⟨undef,fun x' cd h h'=>by cases h;rw[hc]at h';cases h'⟩
         |some cd=>
          obtain⟨u,r1,r2⟩:=q8 i x j cd hx hc;exact⟨u,fun x' cd' h h'=>by cases h;rw[hc]at h';cases h';exact⟨r1,r2⟩⟩
       show Rd w' (fun k=>F k∨k=g) (.sl (cm0 T)) (.slice (some ⟨g,0,none⟩) ss.length cp);rw[q3];refine .sl 1 (cm0 T) ⟨g,0,none⟩ cp (fun i j=>Classical.choose (hex i j)) Oa q5 (fun _=>.inr rfl) q6 q7 (fun i x j cd hx hc=>?_) (fun i x j cd hx hc=>?_)
       ·rw[aa2,aj8 q1,gc3];exact(Classical.choose_spec (hex i j) x cd hx hc).1
       ·exact(Classical.choose_spec (hex i j) x cd hx hc).2.mono (fun _ h=>.inl h) fun _ _=>rfl
end Go.Proofs.YtndgolmgaenlfaaGreatDoor
namespace Go.Proofs.YtndgolmgaenlfaaGreatDoor
set_option maxRecDepth 4000
open Go Go.Abs Go.Val Go.RowKit Go.Proofs.Tryz
attribute [local irreducible] go SGo an9 Ev aw1 EvO EvS
theorem dg3(v:V):bi2 (enc v)=5+v.s.size+bi3 (kids v):=by
 simp only[enc,bi2,bi3];omega
theorem dg4(e:Ex):bi2 (bz1 e)=4+bi2 (enc e.v)+e.nm.size+bi3 (by9 e):=by
 rw[dg3];simp only[bz1,bi2,bi3];omega
theorem dg5(e:Ex):9*nd e≤bi2 (bz1 e):=by
 refine ca0 (P:=fun e=>9*nd e≤bi2 (bz1 e)) (fun op v nm ds ks ih=>?_) e;rw[dg4,dg3,cp0]
 have key:∀l:List Ex,(∀x∈l,9*nd x≤bi2 (bz1 x))→9*ndL l≤bi3 (bz0 l):=by
  intro l
  induction l with
  |nil=>intro _;simp[ndL]
  |cons a r ihr=>
   intro h;have h1:=h a Oc;have h2:=ihr fun x hx=>h x (by simp[hx])
   simp only[ndL,bz0];rw[bi3];have e:bi2 (.agg [.int a.op,.int a.v.k,.int a.v.n,.int a.v.d,.str a.v.s,.sl (kids a.v),.str a.nm,.bool a.ds,.sl (by9 a)])=bi2 (bz1 a):=rfl;omega
 have:=key ks ih;show 9*(ndL ks+1)≤4+(5+v.s.size+bi3 (kids v))+nm.size+bi3 (bz0 ks);omega
theorem dg6(e:Ex):dp e≤nd e:=by
 refine ca0 (P:=fun e=>dp e≤nd e) (fun op v nm ds ks ih=>?_) e;rw[cp5,cp0];show dpL ks+1≤ndL ks+1
 have key:∀l:List Ex,(∀x∈l,dp x≤nd x)→dpL l≤ndL l:=by
  intro l
  induction l with
  |nil=>intro _;simp[dpL]
  |cons a r ihr=>
   intro h;have h1:=h a Oc;have h2:=ihr fun x hx=>h x (by simp[hx])
   simp only[dpL,ndL];omega
 have:=key ks ih;omega
theorem dg7(e:Ex):1≤nd e:=by rw[cp0];omega
theorem dg8{e:Ex}{w:Bool}(h:cs9 e w=0):cs8 e w=0:=by
 cases hc:cs8 e w !=0 with
 |true=>have:=ct3 rfl hc;rw[h]at this;rw[this]at hc;cases hc
 |false=>simpa using hc
theorem dg9{e:Ex}(h:ct5 e=0):cs9 e false=0:=by
 unfold ct5 at h
 cases h1:decide (dp e>24)with
 |true=>rw[h1]at h;simp at h
 |false=>
  rw[h1,cond_false]at h
  cases h2:decide (nd e>300)with
  |true=>rw[h2]at h;simp at h
  |false=>rw[h2,cond_false]at h;exact h
theorem dh0{e:Ex}(h:ct5 e=0):dp e≤24∧nd e≤300∧cs9 e false=0:=by
 have hv:=dg9 h;unfold ct5 at h
 cases h1:decide (dp e>24)with
 |true=>rw[h1]at h;simp at h
 |false=>
  rw[h1,cond_false]at h
  cases h2:decide (nd e>300)with
  |true=>rw[h2]at h;simp at h
  |false=>
   have:=of_decide_eq_false h1;have:=of_decide_eq_false h2;exact⟨by omega,by omega,hv⟩
theorem dh1{e:Ex}(h1:dp e≤24)(h2:nd e≤300)(h3:cs9 e false=0):ct5 e=0:=by
 unfold ct5;rw[show decide (dp e>24)=false by simp;omega,show decide (nd e>300)=false by simp;omega,h3];rfl
theorem dh2{op:Int}{v:V}{nm:ByteArray}{ds:Bool}{ks:List Ex}{w:Bool}(h:cs9 (.mk op v nm ds ks) w=0):∀x∈ks,cs9 x (w||op==24)=0:=by
 have h0:=dg8 h;have h1:=ct2 (e:=.mk op v nm ds ks) (w:=w) h0;rw[h]at h1;exact cy1 h1.symm
def cstX(v:V):Ex:=.mk 1 v ⟨#[]⟩ false []
theorem dh3{e:Ex}(h:cs8 e true=0):cs8 e false=0∧e.op≠24:=by
 unfold cs8 at h ⊢
 cases c1:(decide (e.op<1)||decide (e.op>24))||(!co3 e|| !co6 e)with
 |true=>rw[c1]at h;simp at h
 |false=>
 cases c2:(e.op==1&& !co8 e.v)with
 |true=>rw[c1,c2]at h;simp at h
 |false=>
 cases c3:nlF e with
 |true=>rw[c1,c2,c3]at h;simp at h
 |false=>
 cases c4:e.op==24 with
 |true=>rw[c1,c2,c3,c4]at h;simp at h
 |false=>exact⟨rfl,by simpa using c4⟩
theorem dh4{w:Bool}:∀{l:List Ex},(∀x∈l,cs9 x w=0)→ct0 l w=0
 |[],_=>rfl
 |x::r,h=>by
  rw[ct0,h x Oc];exact dh4 fun y hy=>h y (by simp[hy])
theorem dh5(e:Ex):cs9 e true=0→cs9 e false=0:=by
 refine ca0 (P:=fun e=>cs9 e true=0→cs9 e false=0) (fun op v nm ds ks ih h=>?_) e;obtain⟨h1,h2⟩:=dh3 (dg8 h);have h3:=dh2 h;rw[ct2 h1,show(false||(Ex.mk op v nm ds ks).op==24)=false by simpa using h2];exact dh4 fun x hx=>ih x hx (by simpa using h3 x hx)
theorem dh6{e:Ex}{w:Bool}(h:cs9 e w=0):cs9 e false=0:=by
 cases w with
 |true=>exact dh5 e h
 |false=>exact h
theorem dh7{op:Int}{v:V}{nm:ByteArray}{ds:Bool}{ks:List Ex}(h:ct5 (.mk op v nm ds ks)=0):∀x∈ks,ct5 x=0:=by
 obtain⟨h1,h2,h3⟩:=dh0 h;intro x hx;have d1:=cp6 hx;have d2:=cp1 hx;rw[cp5]at h1;rw[cp0]at h2;have h1:dpL ks+1≤24:=h1;have h2:ndL ks+1≤300:=h2;exact dh1 Oa Oa (dh6 (dh2 h3 x hx))
abbrev oXU(e:D):aa5:=.var 33 (.w (.d e))
theorem dh8:∀l:List Ex,l.length≤ndL l
 |[]=>fz6 _
 |a::r=>by
  have h1:=dg7 a;have h2:=dh8 r;simp only[fy7,ndL];omega
attribute [local irreducible] RGo
abbrev dh9(m:Nat):aa5:=.var 198 (.w (.mp m))
abbrev di0(a b:Nat):aa5:=.var 199 (.w (.clo 188 [.ptr a 0,.ptr b 0]))
abbrev di1(ks:List ByteArray):aa5:=.map .string (mpU ks)
theorem di2(ks:List ByteArray):EvS E 189 [.mp 0] [di1 ks] (.clo 264 [.ptr 1 0]) [di1 ks,dh9 0]:=by
 refine yn func189 ntmps189 fun _ _ _ _=>?_
 repeat'(first|refine yz ?_|refine bb9 rfl rfl rfl rfl rfl ?_|refine bc6 [0,1] rfl rfl rfl rfl rfl ?_)
 all_goals rfl
structure SVst(n:Nat) where
 i:Nat
 hi:i≤n
theorem di3{ks:List Ex}{i:Nat}{x:Ex}(h:ks[i]? =some x)(K:List ByteArray):df2 K (dd7 (ks.take (i+1)))=df2 (df2 K (dd7 (ks.take i))) (usX x):=by
 rw[de1,de1,gd7,h,gi0,df6];simp
theorem di4{e:Ex}:Fit (bz1 e)→∀s∈usX e,s.size≤maxLen:=by
 refine ca0 (P:=fun e=>Fit (bz1 e)→∀s∈usX e,s.size≤maxLen) (fun op v nm ds ks ih hf s hs=>?_) e;obtain⟨-,-,h1,-,h2⟩:=bz8 hf;rw[usX,gb2]at hs;rcases hs with hs|hs
 ·cases h:op==2 with
  |true=>
   rw[h,cond_true,ga4]at hs;subst hs;exact h1
  |false=>rw[h]at hs;cases hs
 ·rw[de1,gh2]at hs;obtain⟨x,hx,hs⟩:=hs;exact ih x hx (h2 x hx) s hs
set_option maxHeartbeats 1000000 in
theorem di5(e:Ex):nd e≤1000000→∀K:List ByteArray,EvS E 188 [.d (bz1 e),.ptr 0 0,.ptr 1 0] [dh9 2,di0 0 1,di1 K] (.tup []) [dh9 2,di0 0 1,di1 (df2 K (usX e))]:=by
 refine ca0 (P:=fun e=>nd e≤1000000→∀K:List ByteArray,EvS E 188 [.d (bz1 e),.ptr 0 0,.ptr 1 0] [dh9 2,di0 0 1,di1 K] (.tup []) [dh9 2,di0 0 1,di1 (df2 K (usX e))]) (fun op v nm ds ks ih hn K=>?_) e;rw[cp0]at hn;have hn':ndL ks+1≤1000000:=hn;have hle:(bz0 ks).length=ks.length:=bz7 ks;have hkl:=dh8 ks;obtain⟨vk,vn,vd,vS,vl⟩:=v;rw[usX,df6];show EvS E 188 [.d (.agg [.int op,.int vk,.int vn,.int vd,.str vS,.sl (bp2 vl),.str nm,.bool ds,.sl (bz0 ks)]),.ptr 0 0,.ptr 1 0] _ _ _;generalize bp2 vl=VL;obtain⟨K1,hK1⟩:∃K1,K1=df2 K (bif op==2 then [nm]else []):=⟨_,rfl⟩;rw[←hK1]
 cases c1:op==2 with
 |true=>
  rw[c1,cond_true]at hK1;have hK1:K1=de6 K nm:=hK1;have hput:bk7 (.string nm) (.bool true) (mpU K)=mpU K1:=by rw[dg0,hK1]
  refine yn func188 ntmps188 fun _ _ _ _=>?_
  repeat'(first|refine yz ?_|refine bm1 ?_)
  rw[hput];refine ac8 (α:=SVst ks.length) (fun p=>⟨[(1,.ptr 0 0),(2,.ptr 1 0),(3,.ptr 3 0),(13,.d (.sl (bz0 ks))),(14,.d (.int (bz0 ks).length)),(15,.d (.int p.i))],[dh9 2,di0 0 1,di1 (df2 K1 (dd7 (ks.take p.i))),oXU (.agg [.int op,.int vk,.int vn,.int vd,.str vS,.sl VL,.str nm,.bool ds,.sl (bz0 ks)])]⟩) (fun p=>ks.length-p.i) ⟨0,by omega⟩ (zle 4) ?_;rintro⟨i,hi⟩;dsimp only;rcases fy5 i ks.length with hlt|hge
  ·have g1:decide ((i:Int)<((bz0 ks).length:Int))=true:=by rw[hle];simpa using hlt
   have hx0:=fy4 hlt;generalize ks[i]=x at hx0;have hx:(bz0 ks)[(i:Int).toNat]? =some (bz1 x):=bz5 (by rw[gb1];exact hx0);have hm:=fy6 hx0;have hcx:=ih x hm (by have:=cp1 hm;omega) (df2 K1 (dd7 (ks.take i)));rw[←di3 hx0]at hcx
   repeat'(first|refine yz ?_|refine yi (bz1 x) hx ?_|refine bc1 [0,1,2] rfl rfl rfl rfl (FnX.clo _ _) b188 (hcx) rfl rfl rfl rfl rfl ?_)
   refine ac2 ?_;exact⟨⟨i+1,by omega⟩,by dsimp only;omega,(zle 4)⟩
  ·have g1:decide ((i:Int)<((bz0 ks).length:Int))=false:=by rw[hle];simp;omega
   rw[ga3 hge]
   repeat'(first|refine yz ?_|refine yo [0,1,2])
 |false=>
  rw[c1,cond_false]at hK1;have hK1:K1=K:=hK1;subst hK1;refine yn func188 ntmps188 fun _ _ _ _=>?_
  repeat'(refine yz ?_)
  refine ac8 (α:=SVst ks.length) (fun p=>⟨[(1,.ptr 0 0),(2,.ptr 1 0),(3,.ptr 3 0),(13,.d (.sl (bz0 ks))),(14,.d (.int (bz0 ks).length)),(15,.d (.int p.i))],[dh9 2,di0 0 1,di1 (df2 K1 (dd7 (ks.take p.i))),oXU (.agg [.int op,.int vk,.int vn,.int vd,.str vS,.sl VL,.str nm,.bool ds,.sl (bz0 ks)])]⟩) (fun p=>ks.length-p.i) ⟨0,by omega⟩ (zle 4) ?_;rintro⟨i,hi⟩;dsimp only;rcases fy5 i ks.length with hlt|hge
  ·have g1:decide ((i:Int)<((bz0 ks).length:Int))=true:=by rw[hle];simpa using hlt
   have hx0:=fy4 hlt;generalize ks[i]=x at hx0;have hx:(bz0 ks)[(i:Int).toNat]? =some (bz1 x):=bz5 (by rw[gb1];exact hx0);have hm:=fy6 hx0;have hcx:=ih x hm (by have:=cp1 hm;omega) (df2 K1 (dd7 (ks.take i)));rw[←di3 hx0]at hcx
   repeat'(first|refine yz ?_|refine yi (bz1 x) hx ?_|refine bc1 [0,1,2] rfl rfl rfl rfl (FnX.clo _ _) b188 (hcx) rfl rfl rfl rfl rfl ?_)
   refine ac2 ?_;exact⟨⟨i+1,by omega⟩,by dsimp only;omega,(zle 4)⟩
  ·have g1:decide ((i:Int)<((bz0 ks).length:Int))=false:=by rw[hle];simp;omega
   rw[ga3 hge]
   repeat'(first|refine yz ?_|refine yo [0,1,2])
theorem di6(e:Ex)(hn:nd e≤1000000):Ev E 121 [bz1 e] (.d (.sl ((dd8 e).map .str))):=Ev.fit fun hfit=>by
 have hv:=di5 e hn [];have hl:=de2 e;have hal:=df5 (usX e) []
 have hsz:∀s∈df2 [] (usX e),s.size≤maxLen:=fun s hs=>by
  rw[df3]at hs;rcases hs with h|h
  ·cases h
  ·exact di4 (hfit (bz1 e) Oc) s h
 have hs:=dg2 198 (df2 [] (usX e)) hsz (df4 List.nodup_nil) (by simp only[fz2]at hal;omega)
 have hr:dd4 [] (df2 [] (usX e))=dd8 e:=by
  refine dd3 (dd6 List.Pairwise.nil) (dd9 e) fun s=>?_
  rw[dd5,de0,df3];simp
 rw[hr]at hs;have hk:=di2 (df2 [] (usX e));refine ye1 func121 ntmps121 fun _ _ _=>?_
 repeat'(first|refine yz ?_|refine bl2 rfl rfl rfl rfl rfl rfl ?_|refine bb9 rfl rfl rfl rfl rfl ?_|refine bc1 [2,3,1] rfl rfl rfl rfl (FnX.clo _ _) b188 (hv) rfl rfl rfl rfl rfl ?_|refine yc [1] b189 (hk) ?_|refine yc [4,1] b109 (hs) ?_|exact zD)
attribute [local irreducible] PGo
def di7(e:Ex)(cols:List ByteArray):Bool:=(dd8 e).all fun s=>by8 cols s
def di8(e:Ex)(cols:List ByteArray):Int:=bif ct5 e !=0 then ct5 e else bif !(di7 e cols)then 6 else bif cu5 e then 9 else 0
theorem di9(cols:List ByteArray)(s:ByteArray):EvS E 122 [.d (.str s),.ptr 0 0] [cl8 cols] (.d (.bool (!by8 cols s))) [cl8 cols]:=by
 have h:=cb1 cols s;refine yn func122 ntmps122 fun _ _ _ _=>?_
 repeat'(first|refine yz ?_|refine yp b60 h ?_|refine bc6 [0] rfl rfl rfl rfl rfl ?_)
 all_goals rfl
theorem dj0(cols l:List ByteArray)(hmax:l.length≤9223372036854775807):EvS E 187 [.d (.sl (l.map D.str)),.clo 122 [.ptr 0 0]] [cl8 cols] (.d (.int (cz3 (l.findIdx? fun s=> !by8 cols s)))) [cl8 cols]:=by
 have hle:(l.map D.str).length=l.length:=Oc
 refine yn func187 ntmps187 fun _ _ _ _=>?_
 repeat'(refine yz ?_)
 refine ac8 (α:=SFc l fun s=> !by8 cols s) (fun p=>⟨[(0,.d (.sl (l.map D.str))),(1,.clo 122 [.ptr 0 0]),(7,.d (.int (l.map D.str).length)),(8,.d (.int p.i))],[cl8 cols]⟩) (fun p=>l.length-p.i) ⟨0,by omega,fun j hj=>absurd hj Oa⟩ (zle 1) ?_;rintro⟨i,hi,ok⟩;dsimp only;rcases fy5 i l.length with hlt|hge
 ·have g1:decide ((i:Int)<((l.map D.str).length:Int))=true:=by rw[hle];simpa using hlt
  have hx0:=fy4 hlt;generalize l[i]=y at hx0;have hx:(l.map D.str)[((i:Nat):Int).toNat]? =some (.str y):=cz1 (f:=D.str) hx0;have h1:=di9 cols y
  cases hc:by8 cols y with
  |false=>
   rw[hc]at h1;rw[cz4 hx0 (show(!by8 cols y)=true by rw[hc];rfl) ok]
   repeat'(first|refine yz ?_|refine yi (.str y) hx ?_|refine bc1 [0] rfl rfl rfl rfl (FnX.clo _ _) b122 (h1) rfl rfl rfl rfl rfl ?_|refine bc6 [0] rfl rfl rfl rfl rfl ?_)
   all_goals rfl
  |true=>
   rw[hc]at h1
   repeat'(first|refine yz ?_|refine yi (.str y) hx ?_|refine bc1 [0] rfl rfl rfl rfl (FnX.clo _ _) b122 (h1) rfl rfl rfl rfl rfl ?_)
   refine ac2 ?_;exact⟨⟨i+1,by omega,SFc.next hx0 (show(!by8 cols y)=false by rw[hc];rfl) ok⟩,by dsimp only;omega,(zle 1)⟩
 ·have g1:decide ((i:Int)<((l.map D.str).length:Int))=false:=by rw[hle];simp;omega
  rw[cz5 fun j hj=>ok j Oa]
  repeat'(first|refine yz ?_|refine bc6 [0] rfl rfl rfl rfl rfl ?_)
  all_goals rfl
theorem dj1(cols l:List ByteArray)(hmax:l.length≤9223372036854775807):EvS E 120 [.d (.sl (l.map D.str)),.clo 122 [.ptr 0 0]] [cl8 cols] (.d (.bool (l.any fun s=> !by8 cols s))) [cl8 cols]:=by
 have h:=dj0 cols l hmax;rw[←cz6];refine yn func120 ntmps120 fun _ _ _ _=>?_
 repeat'(first|refine yz ?_|refine yc [0] b187 (h) ?_|refine bc6 [0] rfl rfl rfl rfl rfl ?_)
 all_goals rfl
theorem dj2(cols l:List ByteArray):(!(l.any fun s=> !by8 cols s))=l.all fun s=>by8 cols s:=by
 induction l with
 |nil=>rfl
 |cons x r ih=>rw[ge0,ge6,←ih];cases by8 cols x<;>simp
theorem dj3(e:Ex)(cols:List ByteArray)(hn:nd e≤1000000):Ev E 62 [bz1 e,.sl (cols.map .str)] (.d (.bool (di7 e cols))):=by
 have hu:=di6 e hn;have hul:=de5 e;have h:=dj1 cols (dd8 e) Oa;unfold di7;rw[←dj2];refine ye2 func62 ntmps62 fun _ _ _=>?_
 repeat'(first|refine yz ?_|refine yp b121 hu ?_|refine bb9 rfl rfl rfl rfl rfl ?_|refine yc [1] b120 (h) ?_|exact zD)
theorem dj4(e:Ex)(cols:List ByteArray)(hd:dp e≤1000000)(hn:nd e≤1000000):Ev E 42 [bz1 e,.sl (cols.map .str)] (.d (.int (di8 e cols))):=by
 have hk:=ct6 e hd hn;have h1:=dj3 e cols hn;have h2:=db2 e;unfold di8;generalize di7 e cols=kn at*;generalize cu5 e=ha at*
 cases hc:ct5 e !=0 with
 |true=>
  rw[cond_true];generalize ct5 e=z at*;refine ye2 func42 ntmps42 fun _ _ _=>?_
  repeat'(first|refine yz ?_|refine yp b61 hk ?_|exact zD)
 |false=>
  rw[cond_false];have h0:ct5 e=0:=by simpa using hc
  rw[h0]at hk
  cases kn with
  |false=>
   refine ye2 func42 ntmps42 fun _ _ _=>?_
   repeat'(first|refine yz ?_|refine yp b61 hk ?_|refine yp b62 h1 ?_|exact zD)
  |true=>
   cases ha with
   |true=>
    refine ye2 func42 ntmps42 fun _ _ _=>?_
    repeat'(first|refine yz ?_|refine yp b61 hk ?_|refine yp b62 h1 ?_|refine yp b63 h2 ?_|exact zD)
   |false=>
    refine ye2 func42 ntmps42 fun _ _ _=>?_
    repeat'(first|refine yz ?_|refine yp b61 hk ?_|refine yp b62 h1 ?_|refine yp b63 h2 ?_|exact zD)
end Go.Proofs.YtndgolmgaenlfaaGreatDoor
namespace Go.Proofs.YtndgolmgaenlfaaGreatDoor
set_option maxRecDepth 4000
open Go Go.Abs Go.Val Go.RowKit Go.Proofs.Tryz
attribute [local irreducible] go SGo an9 Ev aw1 EvO
def dj5(a _b:V):Int:=bif !(Val.okV a)then 1 else bif a.k==0 then 0 else 1
theorem dj6{a:V}(h:Val.okV a=true)(hk:a.k=0):a=bq3:=by
 obtain⟨k,n,d,s,l⟩:=a;obtain rfl:k=0:=hk;unfold Val.okV at h;rw[bw2 8 0 n d s l Od Od]at h;simp[bq5,s0,V.k,V.n,V.d,V.s,V.l]at h;obtain⟨⟨⟨h2,h3⟩,h4⟩,h1⟩:=h;subst h1 h2 h4
 have hs:s=⟨#[]⟩:=by
  apply ByteArray.ext;apply Array.toList_inj.1;have:=ByteArray.toList_eq s;rw[h3]at this;exact this.symm
 rw[hs];rfl
theorem dj7(a:ByteArray):Ev E 305 [.str a] (.d (.bool false)):=by
 have h:(!(a.toList==a.toList))=false:=Oc
 rw[←h];refine ye1 func305 ntmps305 fun _ _ _=>?_
 exact Om
theorem dj8:Ev E 254 [.str ⟨#[]⟩,.str ⟨#[]⟩] (.d (.int 0)):=by
 have h1:Op.bytesLess (⟨#[]⟩:ByteArray).toList (⟨#[]⟩:ByteArray).toList=false:=Ob
 have h2:((⟨#[]⟩:ByteArray).toList==(⟨#[]⟩:ByteArray).toList)=true:=beq_self_eq_true _;have g2:(!(Op.bytesLess (⟨#[]⟩:ByteArray).toList (⟨#[]⟩:ByteArray).toList||(⟨#[]⟩:ByteArray).toList==(⟨#[]⟩:ByteArray).toList))=false:=by rw[h1,h2];rfl
 refine ye2 func254 ntmps254 fun _ _ _=>?_
 repeat'(first|refine yz ?_|refine yp b305 (dj7 _) ?_|refine yx ?_|(refine yy ?_ ?_<;>intro _)|exact zD|exact zL)
structure SN0(n:Nat) where
 i:Nat
 hi:i≤n
theorem dj9:Ev E 252 [.sl [.int 0,.int 0,.int 0]] (.d (.int 0)):=by
 refine ye1 func252 ntmps252 fun _ _ _=>?_
 repeat'(first|refine yz ?_|refine yx ?_|(refine yy ?_ ?_<;>intro _)|exact zD|exact zL)
 refine ac8 (α:=SN0 3) (fun p=>⟨[(3,.d (.int 0)),(6,.d (.sl [.int 0,.int 0,.int 0])),(7,.d (.int (([.int 0,.int 0,.int 0]:List D).length:Int))),(8,.d (.int p.i))],[]⟩) (fun p=>3-p.i) ⟨0,by omega⟩ (zle 0) ?_;rintro⟨i,hi⟩;dsimp only;rcases fy5 i 3 with hlt|hge
 ·have g1:=yT ((i:Int)<(([.int 0,.int 0,.int 0]:List D).length:Int)) (show(i:Int)<3 by omega)
  have hx:([.int 0,.int 0,.int 0]:List D)[(i:Int).toNat]? =some (.int 0):=by
   rw[gb1]
   match i,hlt with
   |0,_=>rfl
   |1,_=>rfl
   |2,_=>rfl
  have g2:((0:Int) !=0)=false:=rfl
  repeat'(first|refine yz ?_|refine yi (.int 0) hx ?_|refine yx ?_|(refine yy ?_ ?_<;>intro _)|exact zD|exact zL)
  refine ac2 ?_;exact⟨⟨i+1,by omega⟩,by dsimp only;omega,(zle 0)⟩
 ·have g1:=yF ((i:Int)<(([.int 0,.int 0,.int 0]:List D).length:Int)) (show ¬ (i:Int)<3 by omega)
  exact Om
theorem dk0:Ev E 255 [.sl [],.sl [],.imm (.func (.func 251) #[] #[])] (.d (.int 0)):=by
 have g1:decide (((0:Nat):Int)<(([]:List D).length:Int))=false:=rfl;have g2:decide ((([]:List D).length:Int)<(([]:List D).length:Int))=false:=rfl;refine ye3 func255 ntmps255 fun _ _ _=>?_
 repeat'(first|refine yz ?_|refine yx ?_|(refine yy ?_ ?_<;>intro _)|exact zD|exact zL)
 refine ac8 (α:=Unit) (fun _=>⟨[(0,.d (.sl [])),(1,.d (.sl [])),(2,.d (.imm (.func (.func 251) #[] #[]))),(11,.d (.sl [])),(12,.d (.int (([]:List D).length:Int))),(13,.d (.int ((0:Nat):Int)))],[]⟩) (fun _=>0) () (zle 0) ?_;rintro-
 exact Om
def dk1(k:Int):Int:=bif k==3 then 2 else bif k==7 then 9 else k
theorem dk2(v:V):Ev E 301 [enc v] (.d (.int (dk1 v.k))):=by
 unfold dk1
 cases h1:v.k==3 with
 |true=>
  refine ye1 func301 ntmps301 fun _ _ _=>?_
  exact Om
 |false=>
 cases h2:v.k==7 with
 |true=>
  refine ye1 func301 ntmps301 fun _ _ _=>?_
  exact Om
 |false=>
  refine ye1 func301 ntmps301 fun _ _ _=>?_
  exact Om
theorem dk3:Ev E 251 [enc bq3,enc bq3] (.d (.int 0)):=by
 have ca:=dk2 bq3;have hcc:=bx9 (dk1 0) (dk1 0);have hcn:=bx9 0 0;have hcs:=dj8;have hcf:=dk0;have hor:=dj9;have h0:Lib.compareInt (dk1 0) (dk1 0)=0:=Od
 have h00:Lib.compareInt 0 0=0:=Od
 rw[h0]at hcc;rw[h00]at hcn;have h1:((0:Int) !=0)=false:=rfl;have h2:(dk1 0==2)=false:=Od
 have ca:Ev E 301 [enc bq3] (.d (.int (dk1 0))):=ca;refine ye2 func251 ntmps251 fun _ _ _=>?_
 repeat'(first|refine yz ?_|refine qP (d:=11) rfl rfl rfl rfl rfl rfl bt5 (ca) ?_|refine qP (d:=19) rfl rfl rfl rfl rfl rfl bt5 (ca) ?_|refine yp bt5 ca ?_|refine qP (d:=14) rfl rfl rfl rfl rfl rfl b253 (hcc) ?_|refine yp b253 hcn ?_|refine yp b254 hcs ?_|refine yp b255 hcf ?_|refine yp b252 hor ?_|refine yx ?_|(refine yy ?_ ?_<;>intro _)|exact zD|exact zL)
theorem dk4(a:V)(h:Val.okV a=true)(hk:(a.k==0)=false):Ev E 251 [enc a,enc bq3] (.d (.int 1)):=by
 have ca:=dk2 a;have cb:Ev E 301 [enc bq3] (.d (.int (dk1 0))):=dk2 bq3;have hcc:=bx9 (dk1 a.k) (dk1 0)
 have h0:Lib.compareInt (dk1 a.k) (dk1 0)=1:=by
  have hk':a.k≠0:=by simpa using hk
  rcases cg9 h with e|e|e|e|e|e|e|e|e
  ·exact absurd e hk'
  all_goals(rw[e];decide)
 rw[h0]at hcc;have h1:((1:Int) !=0)=true:=rfl;refine ye2 func251 ntmps251 fun _ _ _=>?_
 repeat'(first|refine yz ?_|refine qP (d:=11) rfl rfl rfl rfl rfl rfl bt5 (ca) ?_|refine yp bt5 cb ?_|refine yp b253 hcc ?_|refine yx ?_|(refine yy ?_ ?_<;>intro _)|exact zD|exact zL)
theorem dk5(a b:V)(hb:b=bq3:=by rfl):Ev E 175 [enc a,enc b] (.d (.int (dj5 a b))):=by
 subst hb;have va:=bx0 by5 a;have vb:=bx0 by5 bq3;rw[show Val.okV bq3=true by decide+kernel]at vb;unfold dj5
 cases h1:Val.okV a with
 |true=>
  rw[h1]at va
  cases h2:a.k==0 with
  |true=>
   obtain rfl:=dj6 h1 (by simpa using h2);have ho:=dk3;refine ye2 func175 ntmps175 fun _ _ _=>?_
   repeat'(first|refine yz ?_|refine yp bs7 vb ?_|refine yp b251 ho ?_|refine yx ?_|(refine yy ?_ ?_<;>intro _)|exact zD|exact zL)
  |false=>
   have ho:=dk4 a h1 h2;refine ye2 func175 ntmps175 fun _ _ _=>?_
   repeat'(first|refine yz ?_|refine qP (d:=8) rfl rfl rfl rfl rfl rfl bs7 (va) ?_|refine yp bs7 vb ?_|refine yp b251 ho ?_|refine yx ?_|(refine yy ?_ ?_<;>intro _)|exact zD|exact zL)
 |false=>
  rw[h1]at va;refine ye2 func175 ntmps175 fun _ _ _=>?_
  repeat'(first|refine yz ?_|refine qP (d:=8) rfl rfl rfl rfl rfl rfl bs7 (va) ?_|refine yp bs7 vb ?_|refine yx ?_|(refine yy ?_ ?_<;>intro _)|exact zD|exact zL)
end Go.Proofs.YtndgolmgaenlfaaGreatDoor
namespace Go.Proofs.YtndgolmgaenlfaaGreatDoor
set_option maxRecDepth 4000
open Go Go.Abs Go.Val Go.Proofs.Tryz
attribute [local irreducible] go SGo an9 Ev aw1 EvO EvS PGo RGo dj5
theorem dk6(l:List ByteArray):EvS E 110 [.d (.sl (l.map .str))] [] (.clo 178 [.ptr 0 0]) [cl8 l]:=by
 refine yn func110 ntmps110 fun _ _ _ _=>?_
 repeat'(first|refine yz ?_|refine bb9 rfl rfl rfl rfl rfl ?_|refine bc6 [0] rfl rfl rfl rfl rfl ?_)
 rfl
def dk7(k:Int):Nat:=bif k==1 then 1 else bif k==2 then 1 else bif k==4 then 1 else bif k==3 then 3 else 0
theorem dk8(k:Int):Ev E 172 [.int k] (.d (.int (dk7 k))):=by
 unfold dk7;rcases cl7 k with rfl|rfl|rfl|rfl|⟨h1,h2,h3,h4⟩
 ·refine ye1 func172 ntmps172 fun _ _ _=>?_
  exact Om
 ·refine ye1 func172 ntmps172 fun _ _ _=>?_
  exact Om
 ·refine ye1 func172 ntmps172 fun _ _ _=>?_
  exact Om
 ·refine ye1 func172 ntmps172 fun _ _ _=>?_
  exact Om
 ·rw[h1,h2,h3,h4];refine ye1 func172 ntmps172 fun _ _ _=>?_
  exact Om
structure SMm(f:Int→Int→Int)(x:Int)(r:List Int) where
 i:Nat
 m:Int
 hi:i≤r.length
 hm:inR .i64 m
 ok:r.foldl f x=(r.drop i).foldl f m
theorem dk9(x:Int)(r:List Int):Ev E 173 [.sl (iL (x::r))] (.d (.int (r.foldl min x))):=Ev.fit fun hfit=>by
 obtain⟨hmax,hel⟩:=by7 (hfit (.sl (iL (x::r))) Oc);have hxr:=(hel x Oc).int;have hle:=cl4 (x::r);simp only[fy7]at hmax hle;have g0:decide (((iL (x::r)).length:Int)<1)=false:=by rw[hle];simp;omega
 have h0:(iL (x::r))[(0:Int).toNat]? =some (.int x):=rfl;refine ye1 func173 ntmps173 fun _ _ _=>?_
 repeat'(first|refine yz ?_|refine yi (.int x) h0 ?_)
 refine ac8 (α:=SMm min x r) (fun p=>⟨[(0,.d (.sl (iL (x::r)))),(3,.d (.int p.m)),(4,.d (.int ((p.i+1:Nat):Int)))],[]⟩) (fun p=>r.length-p.i) ⟨0,x,by omega,hxr,rfl⟩ (zle 0) ?_;rintro⟨i,m,hi,hm,ok⟩;dsimp only;rcases fy5 i r.length with hlt|hge
 ·have g1:decide (((i+1:Nat):Int)<((iL (x::r)).length:Int))=true:=by rw[hle];simp;omega
  have hx0:=fy4 hlt;generalize r[i]=y at hx0;have hx:(iL (x::r))[((i+1:Nat):Int).toNat]? =some (.int y):=cl6 (by simpa using hx0);have hyr:=(hel y (by simp[fy6 hx0])).int
  repeat'(first|refine yz ?_|refine yi (.int y) hx ?_)
  refine ac2 ?_;refine⟨⟨i+1,min m y,hlt,?_,by rw[ok,bv7 hx0,gd3]⟩,by dsimp only;omega,(zle 0)⟩;simp only[inR,Int.min_def]at hm hyr ⊢;split<;>assumption
 ·have g1:decide (((i+1:Nat):Int)<((iL (x::r)).length:Int))=false:=by rw[hle];simp;omega
  rw[ok,ga2 hge]
  exact Om
theorem dl0(x:Int)(r:List Int):Ev E 108 [.sl (iL (x::r))] (.d (.int (r.foldl max x))):=Ev.fit fun hfit=>by
 obtain⟨hmax,hel⟩:=by7 (hfit (.sl (iL (x::r))) Oc);have hxr:=(hel x Oc).int;have hle:=cl4 (x::r);simp only[fy7]at hmax hle;have g0:decide (((iL (x::r)).length:Int)<1)=false:=by rw[hle];simp;omega
 have h0:(iL (x::r))[(0:Int).toNat]? =some (.int x):=rfl;refine ye1 func108 ntmps108 fun _ _ _=>?_
 repeat'(first|refine yz ?_|refine yi (.int x) h0 ?_)
 refine ac8 (α:=SMm max x r) (fun p=>⟨[(0,.d (.sl (iL (x::r)))),(3,.d (.int p.m)),(4,.d (.int ((p.i+1:Nat):Int)))],[]⟩) (fun p=>r.length-p.i) ⟨0,x,by omega,hxr,rfl⟩ (zle 0) ?_;rintro⟨i,m,hi,hm,ok⟩;dsimp only;rcases fy5 i r.length with hlt|hge
 ·have g1:decide (((i+1:Nat):Int)<((iL (x::r)).length:Int))=true:=by rw[hle];simp;omega
  have hx0:=fy4 hlt;generalize r[i]=y at hx0;have hx:(iL (x::r))[((i+1:Nat):Int).toNat]? =some (.int y):=cl6 (by simpa using hx0);have hyr:=(hel y (by simp[fy6 hx0])).int
  repeat'(first|refine yz ?_|refine yi (.int y) hx ?_)
  refine ac2 ?_;refine⟨⟨i+1,max m y,hlt,?_,by rw[ok,bv7 hx0,gd3]⟩,by dsimp only;omega,(zle 0)⟩;simp only[inR,Int.max_def]at hm hyr ⊢;split<;>assumption
 ·have g1:decide (((i+1:Nat):Int)<((iL (x::r)).length:Int))=false:=by rw[hle];simp;omega
  rw[ok,ga2 hge]
  exact Om
theorem dl1:∀(r:List Int) (x:Int),decide (r.foldl min x<0)=(x::r).any fun v=>decide (v<0)
 |[],x=>by simp only[gf0,ge0,gf9,gc6];(try rfl)
 |y::r,x=>by
  rw[gd3,dl1 r (min x y),ge0,ge0,ge0,←gh4];congr 1;rw[gb5];simp only[decide_eq_true_eq,gb0];omega
theorem dl2(n:Int):∀(r:List Int) (x:Int),decide (r.foldl max x≥n)=(x::r).any fun v=>decide (v≥n)
 |[],x=>by simp only[gf0,ge0,gf9,gc6];(try rfl)
 |y::r,x=>by
  rw[gd3,dl2 n r (max x y),ge0,ge0,ge0,←gh4];congr 1;rw[gb5];simp only[decide_eq_true_eq,gb0];omega
def dl3:List ByteArray→Bool
 |[]=>true
 |[_]=>true
 |a::b::r=>Op.bytesLess a.toList b.toList&&dl3 (b::r)
theorem dl4{l:List ByteArray}{i:Nat}{a b:ByteArray}(ha:l[i]? =some a)(hb:l[i+1]? =some b):dl3 (l.drop i)=(Op.bytesLess a.toList b.toList&&dl3 (l.drop (i+1))):=by
 rw[bv7 ha,bv7 hb];rfl
theorem dl5{l:List ByteArray}{i:Nat}(h:i+1=l.length):dl3 (l.drop i)=true:=by
 obtain⟨a,ha⟩:∃a,l[i]? =some a:=⟨_,fy4 Oa⟩;rw[bv7 ha,ga2 Oa];rfl
def nmE(s:ByteArray):Bool:=s.toList==(⟨#[]⟩:ByteArray).toList
def dl6(a:AT):Bool:=
 bif dk7 a.k==0||a.vs.length !=dk7 a.k then false else
 bif a.vs.any fun v=>decide (v<0)then false else
 bif (a.k !=3&&decide (a.ty.length>0))||((a.k !=1&&a.k !=2) && !nmE a.nm)then false else
 bif a.k==2 then bq9 a.v else dl3 a.ty&&dj5 a.v bq3==0
abbrev oAT(a:AT):aa5:=.var 60 (.w (.d (cj6 a)))
structure SRt(l:List ByteArray) where
 i:Nat
 hi:i+1≤l.length∨l=[]
 ok:dl3 l=dl3 (l.drop i)
theorem dl7(a:AT):Ev E 107 [cj6 a] (.d (.bool (dl6 a))):=Ev.fit fun hfit=>by
 obtain⟨k,vs,nm,ty,v⟩:=a;have hft:=hfit (cj6 ⟨k,vs,nm,ty,v⟩) Oc;have hmax:=(by7 (hft.aggs (.sl (ty.map .str)) Oc)).1;have hle:=cl4 vs;have hlt:(ty.map D.str).length=ty.length:=Oc
 have hpl:=bx2 by5 v;have hor:=dk5 v bq3;have hna:=dk8 k;rcases cl7 k with rfl|rfl|rfl|rfl|hk
 ·cases hl:vs.length==3 with
  |false=>
   have g1:(((iL vs).length:Int) !=3)=true:=by rw[hle];simp at hl ⊢;omega
   have ea:dl6 ⟨3,vs,nm,ty,v⟩=false:=by unfold dl6;simp[dk7,bne,hl]
   rw[ea];refine ye1 func107 ntmps107 fun _ _ _=>?_
   repeat'(first|refine yz ?_|refine yp br9 hna ?_|refine yx ?_|exact zD)
  |true=>
   have hl':vs.length=3:=by simpa using hl
   obtain⟨x,r,rfl⟩:=gj2 (fun h:vs=[]=>by rw[h]at hl';simp at hl');have g1:(((iL (x::r)).length:Int) !=3)=false:=by rw[hle,hl'];rfl
   have hmin:=dk9 x r;have hmn:=dl1 r x
   cases hm:decide (r.foldl min x<0)with
   |true=>
    have ea:dl6 ⟨3,x::r,nm,ty,v⟩=false:=by unfold dl6;rw[hm]at hmn;dsimp only;rw[←hmn,hl'];rfl
    rw[ea];refine ye1 func107 ntmps107 fun _ _ _=>?_
    repeat'(first|refine yz ?_|refine yp br9 hna ?_|refine yp bs0 hmin ?_|refine yx ?_|exact zD)
   |false=>
    rw[hm]at hmn
    cases hn:nmE nm with
    |false=>
     have g3:(nm.toList==(⟨#[]⟩:ByteArray).toList)=false:=hn;have g3n:(!(nm.toList==(⟨#[]⟩:ByteArray).toList))=true:=by rw[g3];rfl
     have ea:dl6 ⟨3,x::r,nm,ty,v⟩=false:=by unfold dl6;dsimp only;rw[←hmn,hl',hn];rfl
     rw[ea];refine ye1 func107 ntmps107 fun _ _ _=>?_
     repeat'(first|refine yz ?_|refine yp br9 hna ?_|refine yp bs0 hmin ?_|refine yx ?_|exact zD)
    |true=>
     have g3:(nm.toList==(⟨#[]⟩:ByteArray).toList)=true:=hn;have g3n:(!(nm.toList==(⟨#[]⟩:ByteArray).toList))=false:=by rw[g3];rfl
     have ea:dl6 ⟨3,x::r,nm,ty,v⟩=(dl3 ty&&dj5 v bq3==0):=by unfold dl6;dsimp only;rw[←hmn,hl',hn];rfl
     rw[ea];refine ye1 func107 ntmps107 fun _ _ _=>?_
     repeat'(first|refine yz ?_|refine yp br9 hna ?_|refine yp bs0 hmin ?_|refine yx ?_)
     refine ac8 (α:=SRt ty) (fun p=>⟨[(1,.ptr 0 0),(4,.d (.int ((p.i+1:Nat):Int)))],[oAT ⟨3,x::r,nm,ty,v⟩]⟩) (fun p=>ty.length-p.i) ⟨0,(by cases ty with|nil=>exact .inr rfl|cons _ _=>left;simp),rfl⟩ (zle 1) ?_;rintro⟨i,hi,ok⟩;dsimp only;rcases fy5 (i+1) ty.length with hlt2|hge
     ·have g4:decide (((i+1:Nat):Int)<((ty.map D.str).length:Int))=true:=by rw[hlt];simp;omega
      have ha0:=fy4 (show i<ty.length by omega);have hb0:=fy4 hlt2;generalize ty[i]=a at ha0;generalize ty[i+1]=b at hb0;have hb:=by6 (f:=D.str) hb0
      have ha:(ty.map D.str)[(((i+1:Nat):Int) -1).toNat]? =some (.str a):=by
       rw[show(((i+1:Nat):Int) -1)=(i:Int) by omega];exact by6 (f:=D.str) ha0
      have hnx:=dl4 ha0 hb0
      cases hc:Op.bytesLess a.toList b.toList with
      |true=>
       have hcn:(!Op.bytesLess a.toList b.toList)=false:=by rw[hc];rfl
       rw[hc,gd1]at hnx
       repeat'(first|refine yz ?_|refine yi (.str b) hb ?_|refine yi (.str a) ha ?_)
       refine ac2 ?_;exact⟨⟨i+1,.inl Oa,ok.trans hnx⟩,by dsimp only;omega,(zle 1)⟩
      |false=>
       have hcn:(!Op.bytesLess a.toList b.toList)=true:=by rw[hc];rfl
       rw[hc,ge9]at hnx;rw[ok,hnx]
       repeat'(first|refine yz ?_|refine yi (.str b) hb ?_|refine yi (.str a) ha ?_|exact zD)
     ·have g4:decide (((i+1:Nat):Int)<((ty.map D.str).length:Int))=false:=by rw[hlt];simp;omega
      have he:dl3 (ty.drop i)=true:=by
       rcases hi with hi|hi
       ·exact dl5 Oa
       ·rw[hi];simp[dl3]
      rw[ok,he,gd1]
      repeat'(first|refine yz ?_|refine yp b175 hor ?_|exact zD)
 ·cases hl:vs.length==1 with
  |false=>
   have g1:(((iL vs).length:Int) !=1)=true:=by rw[hle];simp at hl ⊢;omega
   have ea:dl6 ⟨1,vs,nm,ty,v⟩=false:=by unfold dl6;simp[dk7,bne,hl]
   rw[ea];refine ye1 func107 ntmps107 fun _ _ _=>?_
   repeat'(first|refine yz ?_|refine yp br9 hna ?_|refine yx ?_|exact zD)
  |true=>
   have hl':vs.length=1:=by simpa using hl
   obtain⟨x,r,rfl⟩:=gj2 (fun h:vs=[]=>by rw[h]at hl';simp at hl');have g1:(((iL (x::r)).length:Int) !=1)=false:=by rw[hle,hl'];rfl
   have hmin:=dk9 x r;have hmn:=dl1 r x
   cases hm:decide (r.foldl min x<0)with
   |true=>
    have ea:dl6 ⟨1,x::r,nm,ty,v⟩=false:=by unfold dl6;rw[hm]at hmn;dsimp only;rw[←hmn,hl'];rfl
    rw[ea];refine ye1 func107 ntmps107 fun _ _ _=>?_
    repeat'(first|refine yz ?_|refine yp br9 hna ?_|refine yp bs0 hmin ?_|refine yx ?_|exact zD)
   |false=>
    rw[hm]at hmn
    cases hty:decide (ty.length>0)with
    |true=>
     have g2:decide (((ty.map D.str).length:Int)>0)=true:=by rw[hlt];simpa using hty
     have ea:dl6 ⟨1,x::r,nm,ty,v⟩=false:=by unfold dl6;dsimp only;rw[←hmn,hl',hty];rfl
     rw[ea];refine ye1 func107 ntmps107 fun _ _ _=>?_
     repeat'(first|refine yz ?_|refine yp br9 hna ?_|refine yp bs0 hmin ?_|refine yx ?_|exact zD)
    |false=>
     have g2:decide (((ty.map D.str).length:Int)>0)=false:=by rw[hlt];simpa using hty
     have hty0:ty=[]:=by simpa using hty
     subst hty0;have ea:dl6 ⟨1,x::r,nm,[],v⟩=(dl3 [] &&dj5 v bq3==0):=by unfold dl6;dsimp only;rw[←hmn,hl'];rfl
     rw[ea];refine ye1 func107 ntmps107 fun _ _ _=>?_
     repeat'(first|refine yz ?_|refine yp br9 hna ?_|refine yp bs0 hmin ?_|refine yx ?_)
     refine ac8 (α:=Unit) (fun p=>⟨[(1,.ptr 0 0),(4,.d (.int 1))],[oAT ⟨1,x::r,nm,[],v⟩]⟩) (fun p=>0) () (zle 1) ?_;rintro-;have g4:decide ((1:Int)<(([]:List D).length:Int))=false:=rfl
     repeat'(first|refine yz ?_|refine yp b175 hor ?_|exact zD)
 ·cases hl:vs.length==1 with
  |false=>
   have g1:(((iL vs).length:Int) !=1)=true:=by rw[hle];simp at hl ⊢;omega
   have ea:dl6 ⟨2,vs,nm,ty,v⟩=false:=by unfold dl6;simp[dk7,bne,hl]
   rw[ea];refine ye1 func107 ntmps107 fun _ _ _=>?_
   repeat'(first|refine yz ?_|refine yp br9 hna ?_|refine yx ?_|exact zD)
  |true=>
   have hl':vs.length=1:=by simpa using hl
   obtain⟨x,r,rfl⟩:=gj2 (fun h:vs=[]=>by rw[h]at hl';simp at hl');have g1:(((iL (x::r)).length:Int) !=1)=false:=by rw[hle,hl'];rfl
   have hmin:=dk9 x r;have hmn:=dl1 r x
   cases hm:decide (r.foldl min x<0)with
   |true=>
    have ea:dl6 ⟨2,x::r,nm,ty,v⟩=false:=by unfold dl6;rw[hm]at hmn;dsimp only;rw[←hmn,hl'];rfl
    rw[ea];refine ye1 func107 ntmps107 fun _ _ _=>?_
    repeat'(first|refine yz ?_|refine yp br9 hna ?_|refine yp bs0 hmin ?_|refine yx ?_|exact zD)
   |false=>
    rw[hm]at hmn
    cases hty:decide (ty.length>0)with
    |true=>
     have g2:decide (((ty.map D.str).length:Int)>0)=true:=by rw[hlt];simpa using hty
     have ea:dl6 ⟨2,x::r,nm,ty,v⟩=false:=by unfold dl6;dsimp only;rw[←hmn,hl',hty];rfl
     rw[ea];refine ye1 func107 ntmps107 fun _ _ _=>?_
     repeat'(first|refine yz ?_|refine yp br9 hna ?_|refine yp bs0 hmin ?_|refine yx ?_|exact zD)
    |false=>
     have g2:decide (((ty.map D.str).length:Int)>0)=false:=by rw[hlt];simpa using hty
     have hty0:ty=[]:=by simpa using hty
     subst hty0;have ea:dl6 ⟨2,x::r,nm,[],v⟩=bq9 v:=by unfold dl6;dsimp only;rw[←hmn,hl'];rfl
     rw[ea];refine ye1 func107 ntmps107 fun _ _ _=>?_
     repeat'(first|refine yz ?_|refine yp br9 hna ?_|refine yp bs0 hmin ?_|refine yp b174 hpl ?_|refine yx ?_|exact zD)
 ·cases hl:vs.length==1 with
  |false=>
   have g1:(((iL vs).length:Int) !=1)=true:=by rw[hle];simp at hl ⊢;omega
   have ea:dl6 ⟨4,vs,nm,ty,v⟩=false:=by unfold dl6;simp[dk7,bne,hl]
   rw[ea];refine ye1 func107 ntmps107 fun _ _ _=>?_
   repeat'(first|refine yz ?_|refine yp br9 hna ?_|refine yx ?_|exact zD)
  |true=>
   have hl':vs.length=1:=by simpa using hl
   obtain⟨x,r,rfl⟩:=gj2 (fun h:vs=[]=>by rw[h]at hl';simp at hl');have g1:(((iL (x::r)).length:Int) !=1)=false:=by rw[hle,hl'];rfl
   have hmin:=dk9 x r;have hmn:=dl1 r x
   cases hm:decide (r.foldl min x<0)with
   |true=>
    have ea:dl6 ⟨4,x::r,nm,ty,v⟩=false:=by unfold dl6;rw[hm]at hmn;dsimp only;rw[←hmn,hl'];rfl
    rw[ea];refine ye1 func107 ntmps107 fun _ _ _=>?_
    repeat'(first|refine yz ?_|refine yp br9 hna ?_|refine yp bs0 hmin ?_|refine yx ?_|exact zD)
   |false=>
    rw[hm]at hmn
    cases hty:decide (ty.length>0)with
    |true=>
     have g2:decide (((ty.map D.str).length:Int)>0)=true:=by rw[hlt];simpa using hty
     have ea:dl6 ⟨4,x::r,nm,ty,v⟩=false:=by unfold dl6;dsimp only;rw[←hmn,hl',hty];rfl
     rw[ea];refine ye1 func107 ntmps107 fun _ _ _=>?_
     repeat'(first|refine yz ?_|refine yp br9 hna ?_|refine yp bs0 hmin ?_|refine yx ?_|exact zD)
    |false=>
     have g2:decide (((ty.map D.str).length:Int)>0)=false:=by rw[hlt];simpa using hty
     have hty0:ty=[]:=by simpa using hty
     subst hty0
     cases hn:nmE nm with
     |false=>
      have g3:(nm.toList==(⟨#[]⟩:ByteArray).toList)=false:=hn;have g3n:(!(nm.toList==(⟨#[]⟩:ByteArray).toList))=true:=by rw[g3];rfl
      have ea:dl6 ⟨4,x::r,nm,[],v⟩=false:=by unfold dl6;dsimp only;rw[←hmn,hl',hn];rfl
      rw[ea];refine ye1 func107 ntmps107 fun _ _ _=>?_
      repeat'(first|refine yz ?_|refine yp br9 hna ?_|refine yp bs0 hmin ?_|refine yx ?_|exact zD)
     |true=>
      have g3:(nm.toList==(⟨#[]⟩:ByteArray).toList)=true:=hn;have g3n:(!(nm.toList==(⟨#[]⟩:ByteArray).toList))=false:=by rw[g3];rfl
      have ea:dl6 ⟨4,x::r,nm,[],v⟩=(dl3 [] &&dj5 v bq3==0):=by unfold dl6;dsimp only;rw[←hmn,hl',hn];rfl
      rw[ea];refine ye1 func107 ntmps107 fun _ _ _=>?_
      repeat'(first|refine yz ?_|refine yp br9 hna ?_|refine yp bs0 hmin ?_|refine yx ?_)
      refine ac8 (α:=Unit) (fun p=>⟨[(1,.ptr 0 0),(4,.d (.int 1))],[oAT ⟨4,x::r,nm,[],v⟩]⟩) (fun p=>0) () (zle 1) ?_;rintro-;have g4:decide ((1:Int)<(([]:List D).length:Int))=false:=rfl
      repeat'(first|refine yz ?_|refine yp b175 hor ?_|exact zD)
 ·obtain⟨h3,h1,h2,h4⟩:=hk;have e0:dk7 k=0:=by unfold dk7;rw[h1,h2,h4,h3];rfl
  have ea:dl6 ⟨k,vs,nm,ty,v⟩=false:=by unfold dl6;dsimp only;rw[e0];rfl
  rw[e0]at hna;rw[ea];refine ye1 func107 ntmps107 fun _ _ _=>?_
  repeat'(first|refine yz ?_|refine yp br9 hna ?_|exact zD)
theorem dl8(s:ByteArray):Ev E 180 [.str s] (.d (.bool (!ca2 s))):=by
 have h:=ca6 s;refine ye1 func180 ntmps180 fun _ _ _=>?_
 repeat'(first|refine yz ?_|refine yp b179 h ?_|exact zD)
theorem dl9{α:Type}{l:List α}{f:α→Bool}{i:Nat}{x:α}(hx:l[i]? =some x)(hc:f x=true)(h:∀j,j<i→∀y,l[j]? =some y→f y=false):l.findIdx? f=some i:=by
 have hi:=(fy9.1 hx).1;rw[gj6];refine⟨hi,?_,fun j hj=>?_⟩
 ·rw[fy4 hi]at hx
  cases hx
  exact hc
 ·have:=h j hj _ (fy4 Oa);simpa using this
theorem dm0{α:Type}{l:List α}{f:α→Bool}(h:∀j,j<l.length→∀y,l[j]? =some y→f y=false):l.findIdx? f=none:=by
 rw[gj7];intro x hx;obtain⟨j,hj⟩:=ga9 hx;exact h j (fy9.1 hj).1 x hj
theorem dm1{α:Type}{l:List α}{f:α→Bool}:decide (optI (l.findIdx? f)≥0)=l.any f:=by
 cases h:l.findIdx? f with
 |none=>
  rw[gj7]at h;have:l.any f=false:=by rw[gb9];intro x hx;simpa using h x hx
  rw[this];rfl
 |some i=>
  obtain⟨hi,h1,-⟩:=gj6.1 h;have:l.any f=true:=gi4.2 ⟨_,gf2 hi,h1⟩;rw[this];simp[optI]
structure SFi{α:Type}(l:List α)(f:α→Bool) where
 i:Nat
 hi:i≤l.length
 ok:∀j,j<i→∀y,l[j]? =some y→f y=false
theorem SFi.next{α:Type}{l:List α}{f:α→Bool}{i:Nat}{x:α}(hx:l[i]? =some x)(hc:f x=false)(h:∀j,j<i→∀y,l[j]? =some y→f y=false):∀j,j<i+1→∀y,l[j]? =some y→f y=false:=by
 intro j hj y hy;rcases Nat.lt_succ_iff_lt_or_eq.1 hj with h1|rfl
 ·exact h j h1 y hy
 ·rw[hx]at hy;cases hy;exact hc
theorem dm2(fn:FuncId)(hb:an9 E fn)(f:ByteArray→Bool)(l:List ByteArray)(hf:∀x∈l,Ev E fn [.str x] (.d (.bool (f x)))):Ev E 187 [.sl (l.map .str),.imm (.func (.func fn) #[] #[])] (.d (.int (optI (l.findIdx? f)))):=Ev.fit fun hfit=>by
 have hmax:=(by7 (hfit (.sl (l.map .str)) Oc)).1;have hle:(l.map D.str).length=l.length:=Oc
 refine ye2 func187 ntmps187 fun _ _ _=>?_
 repeat'(refine yz ?_)
 refine ac8 (α:=SFi l f) (fun p=>⟨[(0,.d (.sl (l.map .str))),(1,.d (.imm (.func (.func fn) #[] #[]))),(7,.d (.int (l.map D.str).length)),(8,.d (.int p.i))],[]⟩) (fun p=>l.length-p.i) ⟨0,by omega,fun j hj=>absurd hj Oa⟩ (zle 0) ?_;rintro⟨i,hi,ok⟩;dsimp only;rcases fy5 i l.length with hlt|hge
 ·have g1:decide ((i:Int)<((l.map D.str).length:Int))=true:=by rw[hle];simpa using hlt
  have hx0:=fy4 hlt;generalize l[i]=y at hx0;have hx:=by6 (f:=D.str) hx0;have h:=hf y (fy6 hx0)
  cases hc:f y with
  |true=>
   rw[hc]at h;rw[dl9 hx0 hc ok]
   repeat'(first|refine yz ?_|refine yi (.str y) hx ?_|refine yp hb h ?_|exact zD)
  |false=>
   rw[hc]at h
   repeat'(first|refine yz ?_|refine yi (.str y) hx ?_|refine yp hb h ?_)
   refine ac2 ?_;exact⟨⟨i+1,by omega,SFi.next hx0 hc ok⟩,by dsimp only;omega,(zle 0)⟩
 ·have g1:decide ((i:Int)<((l.map D.str).length:Int))=false:=by rw[hle];simp;omega
  rw[dm0 fun j hj=>ok j Oa]
  exact Om
theorem dm3(fn:FuncId)(hb:an9 E fn)(f:ByteArray→Bool)(l:List ByteArray)(hf:∀x∈l,Ev E fn [.str x] (.d (.bool (f x)))):Ev E 120 [.sl (l.map .str),.imm (.func (.func fn) #[] #[])] (.d (.bool (l.any f))):=by
 have h:=dm2 fn hb f l hf;rw[←dm1];refine ye2 func120 ntmps120 fun _ _ _=>?_
 repeat'(first|refine yz ?_|refine yp b187 h ?_|exact zD)
def dm4(a:AT):Bool:= !((a.k==1||a.k==2) && !ca2 a.nm) && !(a.ty.any fun t=> !ca2 t)
theorem dm5(a:AT):Ev E 112 [cj6 a] (.d (.bool (dm4 a))):=by
 obtain⟨k,vs,nm,ty,v⟩:=a;have h1:=ca6 nm;have h2:=dm3 180 b180 (fun t=> !ca2 t) ty fun x _=>dl8 x
 refine ye1 func112 ntmps112 fun _ _ _=>?_
 repeat'(first|refine yz ?_|refine yp b179 h1 ?_|refine yp b120 h2 ?_|(refine yy ?_ ?_<;>intro _)|(refine qV rfl ?_ ?_<;>intro _))
 all_goals(refine congrArg D.bool ?_;clear h1 h2;simp_all [dm4])
def twF(l:List ByteArray):Bool:=(List.range l.length).any fun i=>(List.range i).any fun k=>match l[i]?,l[k]? with|some a,some b=>a.toList==b.toList|_,_=>false
def dm6(l:List AT)(v:Int):Bool:=l.any fun a=>a.vs.any fun y=>y==v
structure SNo{α:Type}(l:List α)(f:α→Bool) where
 i:Nat
 hi:i≤l.length
 ok:l.any f=(l.drop i).any f
theorem dm7{α:Type}{l:List α}{f:α→Bool}{i:Nat}{x:α}(h:l[i]? =some x):(l.drop i).any f=(f x||(l.drop (i+1)).any f):=by rw[bv7 h,ge0]
def bL(l:List Bool):List D:=l.map D.bool
theorem dm8(l:List Bool)(x:Bool):Ev E 181 [.sl (bL l),.bool x] (.d (.int (optI (l.findIdx? fun y=>x==y)))):=Ev.fit fun hfit=>by
 have hmax:=(by7 (hfit (.sl (bL l)) Oc)).1;have hle:(bL l).length=l.length:=by simp[bL]
 refine ye2 func181 ntmps181 fun _ _ _=>?_
 repeat'(refine yz ?_)
 refine ac8 (α:=SFi l fun y=>x==y) (fun p=>⟨[(0,.d (.sl (bL l))),(1,.d (.bool x)),(7,.d (.int (bL l).length)),(8,.d (.int p.i))],[]⟩) (fun p=>l.length-p.i) ⟨0,by omega,fun j hj=>absurd hj Oa⟩ (zle 0) ?_;rintro⟨i,hi,ok⟩;dsimp only;rcases fy5 i l.length with hlt|hge
 ·have g1:decide ((i:Int)<((bL l).length:Int))=true:=by rw[hle];simpa using hlt
  have hx0:=fy4 hlt;generalize l[i]=y at hx0;have hx:(bL l)[(i:Int).toNat]? =some (.bool y):=by6 (f:=D.bool) hx0
  cases hc:x==y with
  |true=>
   rw[dl9 hx0 hc ok]
   repeat'(first|refine yz ?_|refine yi (.bool y) hx ?_|exact zD)
  |false=>
   repeat'(first|refine yz ?_|refine yi (.bool y) hx ?_)
   refine ac2 ?_;exact⟨⟨i+1,by omega,SFi.next hx0 hc ok⟩,by dsimp only;omega,(zle 0)⟩
 ·have g1:decide ((i:Int)<((bL l).length:Int))=false:=by rw[hle];simp;omega
  rw[dm0 fun j hj=>ok j Oa]
  exact Om
theorem dm9(l:List Bool)(x:Bool):Ev E 113 [.sl (bL l),.bool x] (.d (.bool (l.any fun y=>x==y))):=by
 have h:=dm8 l x;rw[←dm1];refine ye2 func113 ntmps113 fun _ _ _=>?_
 repeat'(first|refine yz ?_|refine yp b181 h ?_|exact zD)
end Go.Proofs.YtndgolmgaenlfaaGreatDoor
namespace Go.Proofs.YtndgolmgaenlfaaGreatDoor
set_option maxRecDepth 4000
open Go Go.Abs Go.Val Go.RowKit Go.Sort Go.Proofs Go.Proofs.Tryz
theorem dn0:EvS E 109 [.clo 178 [.ptr 0 0]] [cl8 []] .nilS [cl8 []]:=by
 intro w F σ vs hi hl hr
 match vs,hl with
 |[v0],_=>
  obtain⟨us,rfl,ul,ur⟩:=hr 0 _ _ rfl rfl
  match us,ul with
  |[u0],_=>
   obtain⟨b,c,n,e1,rfl⟩:=ur 0 _ _ rfl rfl;obtain⟨cs,g1,g2,g3,g4,g5,g6⟩:=hi.obs 0 _ _ rfl e1
   match cs,g2 with
   |[sv],_=>
    have hrd:Rd w F (.sl (([]:List ByteArray).map .str)) sv:=g4 0 (.d (.sl (([]:List ByteArray).map .str))) sv rfl rfl;have hbl:b<w.heap.size:=(gh1.1 g1).1
    obtain⟨p,cap,rfl⟩:∃p cap,sv=.slice p 0 cap:=by
     rcases Rd.sl_inv hrd with⟨-,rfl⟩|⟨size,ad,cap,rfl,-⟩
     ·exact⟨_,_,rfl⟩
     ·exact⟨_,_,rfl⟩
    have hG:ck3 2 b [] w:=ck6 (p:=p) (cap:=cap) hbl (by simp only[World.cell?,g1];simp);refine(cl1 b [] Od Od w hG).mono ?_;rintro e w' ⟨v,rfl,hrow,hnil,hb⟩;have hv:v=.slice none 0 0:=hnil.2 rfl;exact⟨_,F,σ,rfl,aa7.of_below hb fun k hk=>hk.1,fun _ h=>h,fun _ h=>.inl h,fun i p hi hp=>hp,(ab2.lend hi).ext (Ext.of_below hb hi.flt),hv⟩
theorem dn1:Ev E 111 [.sl []] (.d (.sl [])):=by
 refine ye1 func111 ntmps111 fun _ _ _=>?_
 exact Om
theorem dn2{α:Type}{p:α→Bool}:∀{l:List α},(l.filter p).length<l.length↔∃x∈l,p x=false
 |[]=>by simp
 |x::l=>by
  have ih:=dn2 (p:=p) (l:=l);have hle:=gg5 p l
  cases h:p x with
  |true=>
   rw[List.filter_cons_of_pos h,fy7,fy7,Nat.add_lt_add_iff_right,ih];constructor
   ·rintro⟨y,hy,hp⟩;exact⟨y,gc2 _ hy,hp⟩
   ·rintro⟨y,hy,hp⟩;rcases fz0.1 hy with rfl|hy
    ·rw[h]at hp;cases hp
    ·exact⟨y,hy,hp⟩
  |false=>
   rw[List.filter_cons_of_neg (by rw[h];decide),fy7];exact⟨fun _=>⟨x,gj1,h⟩,fun _=>by omega⟩
theorem dn3{zs:List (List UInt8)}(hs:zs.Pairwise fun x y=>x≤y):(∃j,j<zs.length∧Lib.keeps zs.toArray j=false)↔ ¬ zs.Nodup:=by
 have hg:∀j,j<zs.length→zs.toArray[j]! =zs[j]! :=fun j hj=>by simp
 constructor
 ·rintro⟨j,hj,hk⟩ hn;simp only[Lib.keeps,decide_eq_false_iff_not,not_or,Classical.not_not]at hk;obtain⟨h0,h1⟩:=hk;rw[hg j hj,hg (j-1) Oa,getElem!_pos zs j hj,getElem!_pos zs (j-1) Oa]at h1;rw[List.Nodup,List.pairwise_iff_getElem]at hn;exact hn (j-1) j Oa hj Oa h1.symm
 ·intro hn;rw[List.Nodup,List.pairwise_iff_getElem]at hn;simp only[Classical.not_forall]at hn;obtain⟨i,j,hi,hj,hij,he⟩:=hn;have he:zs[i]=zs[j]:=Classical.byContradiction fun h=>he h
  refine⟨i+1,by omega,?_⟩;simp only[Lib.keeps,decide_eq_false_iff_not,not_or];refine⟨by omega,fun h=>h ?_⟩;rw[hg (i+1) Oa,hg (i+1-1) Oa,getElem!_pos zs (i+1) Oa,getElem!_pos zs (i+1-1) Oa];have hp:=List.pairwise_iff_getElem.1 hs;have h1:zs[i+1-1]≤zs[i+1]:=hp _ _ _ _ Oa;refine List.le_antisymm ?_ h1
  have h2:zs[i+1]≤zs[j]:=by
   rcases fy5 (i+1) j with h|h
   ·exact hp _ _ _ _ h
   ·have:i+1=j:=by omega
    subst this;exact List.le_refl _
  show zs[i+1]≤zs[i];rw[he];exact h2
theorem dn4(l:List ByteArray):twF l=true↔ ¬ (cl9 l).Nodup:=by
 rw[List.Nodup,List.pairwise_iff_getElem];unfold twF;simp only[gi4,gd5];constructor
 ·rintro⟨i,hi,k,hk,h⟩ hn;rw[fy4 hi,fy4 (show k<l.length by omega)]at h;have hlen:(cl9 l).length=l.length:=by simp[cl9]
  refine hn k i Oa Oa hk ?_;have h':l[i].toList=l[k].toList:=by simpa using h
  simp only[cl9,List.getElem_map];rw[ByteArray.toList_eq,ByteArray.toList_eq]at h';exact h'.symm
 ·intro hn;simp only[Classical.not_forall]at hn;obtain⟨i,j,hi,hj,hij,he⟩:=hn;have he:(cl9 l)[i]=(cl9 l)[j]:=Classical.byContradiction fun h=>he h
  have hlen:(cl9 l).length=l.length:=by simp[cl9]
  refine⟨j,by omega,i,hij,?_⟩;rw[fy4 (show j<l.length by omega),fy4 (show i<l.length by omega)];simp only[cl9,List.getElem_map]at he;simp only[beq_iff_eq];rw[ByteArray.toList_eq,ByteArray.toList_eq];exact he.symm
theorem dn5(l:List ByteArray):decide (((cm0 (Lib.compact (sortU (cl9 l)))).length:Int)<((l.map D.str).length:Int))=twF l:=by
 have hlen:(sortU (cl9 l)).length=l.length:=by simp[sortU,cl9]
 have hsl:(sortU (cl9 l)).Pairwise fun x y=>x≤y:=by
  have:=List.pairwise_mergeSort (le:=fun x y:List UInt8=>decide (x≤y)) (fun a b c h1 h2=>by simp only[decide_eq_true_eq]at*;exact List.le_trans h1 h2) (fun a b=>by simp only[gb0,decide_eq_true_eq];exact List.le_total a b) (cl9 l);exact this.imp fun h=>by simpa using h
 have hnd:(sortU (cl9 l)).Nodup↔(cl9 l).Nodup:=(List.mergeSort_perm _ _).nodup_iff
 have hc:(Lib.compact (sortU (cl9 l))).length<l.length↔∃j,j<(sortU (cl9 l)).length∧Lib.keeps (sortU (cl9 l)).toArray j=false:=by
  unfold Lib.compact Lib.compactUpTo;rw[fz3];have:=dn2 (p:=Lib.keeps (sortU (cl9 l)).toArray) (l:=List.range (sortU (cl9 l)).length);rw[List.length_range,hlen]at this;rw[hlen];simpa[gd5]using this
 rw[gb5,decide_eq_true_eq,dn4,←hnd,←dn3 hsl,←hc];simp[cm0]
def dn6(n:Int)(a:AT):Bool:= !dl6 a||a.vs.any fun v=>decide (v≥n)
def dn7(n:Nat)(f:Nat→Bool):List Bool:=(List.range n).map f
def dn8(c:CJ):Int:=
 bif decide (c.vs.length>24)||decide (c.as.length>12)then 4 else
 bif c.as.any (dn6 c.vs.length)then 1 else
 bif twF c.vs then 7 else
 bif c.as.any (fun a=> !dm4 a)then 6 else
 bif (List.range c.vs.length).any (fun j=> !dm6 c.as j)then 25 else 0
theorem dn9(n:Nat)(f:Nat→Bool)(v:Int)(h0:0≤v)(h1:v<n):(bL (dn7 n f)).set v.toNat (.bool true)=bL (dn7 n fun j=>f j||v==(j:Int)):=by
 unfold bL dn7;rw[←List.map_set];congr 1;apply List.ext_getElem
 ·simp
 ·intro i hi hj;simp only[List.length_set,fz3,List.length_range]at hi;rw[List.getElem_set];simp only[List.getElem_map,List.getElem_range];split
  ·rename_i h
   have:v=(i:Int):=Oa
   simp[this]
  ·rename_i h
   have:(v==(i:Int))=false:=by rw[beq_eq_false_iff_ne];omega
   rw[this,gc6]
theorem do0(n:Nat)(f:Nat→Bool)(v:Int)(h0:0≤v)(h1:v<n):(bL (dn7 n f))[v.toNat]? =some (.bool (f v.toNat)):=by
 unfold bL dn7;rw[fz1,fz1,gf6 Oa];rfl
theorem do1(n:Nat)(f:Nat→Bool):((dn7 n f).any fun y=>false==y)=(List.range n).any fun j=> !f j:=by
 unfold dn7;rw[List.any_map];congr 1
 funext j
 simp only[Function.comp]
 cases f j<;>rfl
theorem do2(n:Nat):(List.replicate n (D.bool false))=bL (dn7 n fun _=>false):=by
 unfold bL dn7;apply List.ext_getElem
 ·simp
 ·intro i hi hj;simp
theorem do3{l:List AT}{i:Nat}{a:AT}(h:l[i]? =some a)(v:Int):dm6 (l.take (i+1)) v=(dm6 (l.take i) v||a.vs.any fun y=>y==v):=by
 unfold dm6;have hi:=(fy9.1 h);rw[gd7,h,Option.toList_some,List.any_append,ge0,gf9,gc6]
theorem do4{α:Type}{l:List α}{i:Nat}{x:α}{f:α→Bool}(h:l[i]? =some x):(l.take (i+1)).any f=((l.take i).any f||f x):=by
 rw[gd7,h,Option.toList_some,List.any_append,ge0,gf9,gc6]
theorem do5{a:AT}(h:dl6 a=true):a.vs.length=dk7 a.k∧dk7 a.k≠0∧(a.vs.any fun v=>decide (v<0))=false:=by
 unfold dl6 at h
 cases h1:(dk7 a.k==0||a.vs.length !=dk7 a.k)with
 |true=>rw[h1]at h;cases h
 |false=>
  rw[h1]at h
  cases h2:(a.vs.any fun v=>decide (v<0))with
  |true=>rw[h2]at h;cases h
  |false=>
   rw[gb3]at h1;refine⟨?_,?_,rfl⟩
   ·simpa using h1.2
   ·simpa using h1.1
end Go.Proofs.YtndgolmgaenlfaaGreatDoor
namespace Go.Proofs.YtndgolmgaenlfaaGreatDoor
set_option maxRecDepth 4000
open Go Go.Abs Go.Val Go.RowKit Go.Proofs.Tryz
structure PB where
 op:Int
 cj:CJ
 cl:CL
 e:Ex
 nm:ByteArray
 it:List IT
 od:List SK
 sk:Int
 lm:Int
inductive Pl where
 |mk (b:PB) (ks:List Pl)
def Pl.b:Pl→PB|.mk b _=>b
def Pl.ks:Pl→List Pl|.mk _ ks=>ks
theorem do6{P:Pl→Prop}(h:∀b ks,(∀x∈ks,P x)→P (.mk b ks))(p:Pl):P p:=
 Pl.rec (motive_1:=P) (motive_2:=fun l=>∀x∈l,P x) (fun b ks ih=>h b ks ih) (fun x hx=>by cases hx)
  (fun a r ha hr x hx=>by rcases fz0.1 hx with rfl|hx;exact ha;exact hr x hx) p
def do7(b:PB)(K:List D):D:=.agg [.int b.op,.sl K,.sl (b.cj.vs.map .str),.sl (b.cj.as.map cj6),
 .int b.cl.k,.bool b.cl.opt,.bool b.cl.ds,.sl (b.cl.ps.map cu0),.sl (bz0 b.cl.wh),.int b.cl.e.op,.int b.cl.e.v.k,.int b.cl.e.v.n,.int b.cl.e.v.d,.str b.cl.e.v.s,.sl (kids b.cl.e.v),.str b.cl.e.nm,.bool b.cl.e.ds,.sl (by9 b.cl.e),
 .str b.cl.nm,.sl (b.cl.it.map cu1),.sl (b.cl.od.map cu2),.int b.cl.sk,.int b.cl.lm,.sl (b.cl.st.map cu3),.sl (b.cl.ns.map .str),
 .int b.e.op,.int b.e.v.k,.int b.e.v.n,.int b.e.v.d,.str b.e.v.s,.sl (kids b.e.v),.str b.e.nm,.bool b.e.ds,.sl (by9 b.e),
 .str b.nm,.sl (b.it.map cu1),.sl (b.od.map cu2),.int b.sk,.int b.lm]
mutual
def do8:Pl→D
 |.mk b ks=>do7 b (do9 ks)
def do9:List Pl→List D
 |[]=>[]
 |p::r=>do8 p::do9 r
end
theorem dp0:∀l:List Pl,do9 l=l.map do8
 |[]=>rfl
 |p::r=>by rw[do9,fz7,dp0 r]
theorem dp1(b:PB)(ks:List Pl):do8 (.mk b ks)=do7 b (ks.map do8):=by rw[do8,dp0]
def dp2(op:Int):Int:=bif op==1||op==2 then 0 else bif op==3||op==4 then 2 else bif decide (op≥5) &&decide (op≤11)then 1 else-1
def dp3(c:CL):Bool:=c.k==0&&(!c.opt&&(!c.ds&&(c.ps.length==0&&(c.wh.length==0&&(cw0 c.e&&(s0B c.nm&&(c.it.length==0&&(c.od.length==0&&(c.sk==0&&(c.lm==0&&(c.st.length==0&&c.ns.length==0)))))))))))
def fldF(b:PB):Bool:=
 (b.op==2||b.cj.vs.length==0&&b.cj.as.length==0) &&((bif b.op==5 then b.cl.k==1 else dp3 b.cl) &&((b.op==6||(b.op==11||cw0 b.e)) &&((b.op==11||s0B b.nm) &&(b.op==7||(b.op==8||b.it.length==0)))))
def dp4(b:PB):Bool:=bif b.op==10 then decide (b.sk≥ -1) &&decide (b.lm≥ -1)else b.od.length==0&&(b.sk==0&&b.lm==0)
def dp5(b:PB)(n:Nat):Bool:=dp2 b.op==n&&(fldF b&&dp4 b)
def dp6(s:ByteArray):Bool:=match s.data.toList with
 |a::b::r=>a==95&&(b !=48&&(b::r).all fun c=>decide (48≤c) &&decide (c≤57))
 |_=>false
def dp7(a b:List ByteArray):List ByteArray:=a++b.filter fun s=> !(by8 a s)
def dp8(l:List ByteArray)(s:ByteArray):List ByteArray:=bif s0B s||by8 l s then l else l++ [s]
def dp9:List NP→List EP→List ByteArray
 |[],es=>es.map EP.vr
 |n::r,[]=>n.vr::r.map NP.vr
 |n::r,e::q=>n.vr::e.vr::dp9 r q
def dq0(l:List PA):List ByteArray:=l.flatMap fun p=>dp9 p.ns p.es++ [p.vr]
def dq1(l:List PA):List ByteArray:=(dq0 l).foldl dp8 []
abbrev CR:=List ByteArray × Int
def erR(e:Int):CR:=([],e)
def dq2(c:CJ):CR:=bif dn8 c !=0 then erR (dn8 c)else bif c.vs.all (fun s=>cs4 s||dp6 s)then(c.vs,0)else erR 6
def dq3(l:List PA):List Ex:=l.flatMap fun p=>(p.ns.flatMap fun n=>n.ps.map fun q=>q.e)++p.es.flatMap fun n=>n.ps.map fun q=>q.e
def dq4(c:CL)(cols:List ByteArray):CR:=
 bif cw7 c !=0 then erR (cw7 c)else
 bif !((dq3 c.ps).all fun e=>di7 e cols)then erR 6 else
 bif !(c.wh.all fun e=>di7 e (dp7 cols (dq1 c.ps)))then erR 6 else
 bif c.wh.any cu5 then erR 9 else(dp7 cols (dq1 c.ps),0)
def dq5(grp:Bool)(x:IT)(cols out:List ByteArray):Int:=
 bif ct5 x.e !=0 then ct5 x.e else
 bif !(cs4 x.asn)|| !(di7 x.e cols)then 6 else
 bif cu5 x.e&& !(grp&&x.e.op==24)then 9 else
 bif by8 out x.asn then 7 else 0
def dq6(grp:Bool)(cols:List ByteArray):List IT→List ByteArray→CR
 |[],out=>(out,0)
 |x::r,out=>bif dq5 grp x cols out !=0 then erR (dq5 grp x cols out)else dq6 grp cols r (out++ [x.asn])
def dq7(cols:List ByteArray):List SK→Int
 |[]=>0
 |x::r=>bif di8 x.e cols !=0 then di8 x.e cols else dq7 cols r
def dq8(b:PB)(cols:List ByteArray):Int:=
 bif ct5 b.e !=0 then ct5 b.e else
 bif !(cs4 b.nm)|| !(di7 b.e cols)then 6 else
 bif cu5 b.e then 9 else
 bif by8 cols b.nm then 7 else 0
def dq9(e:Int)(cols:List ByteArray):CR:=bif e !=0 then erR e else(cols,0)
def dr0(b:PB)(cols:List (List ByteArray)):CR:=
 bif !(dp5 b cols.length)then erR 25 else
 bif b.op==1 then([],0)else
 bif b.op==2 then dq2 b.cj else
 bif b.op==3||b.op==4 then(dp7 (cols.getD 0 []) (cols.getD 1 []),0)else
 bif b.op==5 then dq4 b.cl (cols.getD 0 [])else
 bif b.op==6 then dq9 (di8 b.e (cols.getD 0 [])) (cols.getD 0 [])else
 bif b.op==7||b.op==8 then(bif decide (b.it.length>24)then erR 4 else dq6 (b.op==8) (cols.getD 0 []) b.it [])else
 bif b.op==9 then(cols.getD 0 [],0)else
 bif b.op==10 then dq9 (dq7 (cols.getD 0 []) b.od) (cols.getD 0 [])else dq9 (dq8 b (cols.getD 0 [])) (cols.getD 0 []++ [b.nm])
mutual
def dr1:Pl→CR
 |.mk b ks=>bif (dr2 ks).2 !=0 then erR (dr2 ks).2 else dr0 b (dr2 ks).1
def dr2:List Pl→List (List ByteArray) × Int
 |[]=>([],0)
 |p::r=>bif (dr1 p).2 !=0 then([],(dr1 p).2)else bif (dr2 r).2 !=0 then([],(dr2 r).2)else((dr1 p).1::(dr2 r).1,0)
end
mutual
def dpP:Pl→Nat
 |.mk _ ks=>dr3 ks+1
def dr3:List Pl→Nat
 |[]=>0
 |p::r=>max (dpP p) (dr3 r)
end
mutual
def szP:Pl→Nat
 |.mk _ ks=>dr4 ks+1
def dr4:List Pl→Nat
 |[]=>0
 |p::r=>szP p+dr4 r
end
def dr5(p:Pl):CR:=bif decide (dpP p>200)then erR 5 else bif decide (szP p>2000)then erR 4 else dr1 p
theorem dr6:∀{l:List Pl} {x:Pl},x∈l→szP x≤dr4 l
 |[],_,h=>by cases h
 |a::r,x,h=>by
  rw[dr4];rcases fz0.1 h with rfl|h
  ·omega
  ·have:=dr6 h;omega
theorem dr7:∀{l:List Pl} {x:Pl},x∈l→dpP x≤dr3 l
 |[],_,h=>by cases h
 |a::r,x,h=>by
  rw[dr3];rcases fz0.1 h with rfl|h
  ·omega
  ·have:=dr7 h;omega
theorem dr8:∀l:List Pl,l.length≤dr4 l
 |[]=>fz6 _
 |.mk b ks::r=>by
  have:=dr8 r;rw[dr4,szP,fy7];omega
end Go.Proofs.YtndgolmgaenlfaaGreatDoor
namespace Go.Proofs.YtndgolmgaenlfaaGreatDoor
set_option maxRecDepth 4000
open Go Go.Abs Go.Val Go.RowKit Go.Proofs.Tryz
def zeX:Ex:=.mk 0 bq3 ⟨#[]⟩ false []
def zCL:CL:=⟨0,false,false,[],[],zeX,⟨#[]⟩,[],[],0,0,[],[]⟩
theorem dr9:∀{ks:List Pl},(dr2 ks).2=0→(∀p∈ks,(dr1 p).2=0)∧(dr2 ks).1=ks.map fun p=>(dr1 p).1
 |[],_=>⟨fun _ h=>(by cases h),rfl⟩
 |p::r,h=>by
  rw[dr2]at h ⊢
  cases c1:(dr1 p).2 !=0 with
  |true=>rw[c1,cond_true]at h;rw[show(dr1 p).2=0 from h]at c1;cases c1
  |false=>
   rw[c1,cond_false]at h;rw[cond_false]
   cases c2:(dr2 r).2 !=0 with
   |true=>rw[c2,cond_true]at h;rw[show(dr2 r).2=0 from h]at c2;cases c2
   |false=>
    have ih:=dr9 (ks:=r) (by simpa using c2);rw[cond_false];refine⟨fun q hq=>?_,?_⟩
    ·rcases fz0.1 hq with rfl|hq
     ·simpa using c1
     ·exact ih.1 q hq
    ·rw[fz7,←ih.2]
theorem ds0{b:PB}{ks:List Pl}(h:(dr1 (.mk b ks)).2=0):(∀p∈ks,(dr1 p).2=0)∧dr1 (.mk b ks)=dr0 b (ks.map fun p=>(dr1 p).1)∧dp5 b ks.length=true:=by
 rw[dr1]at h ⊢
 cases c1:(dr2 ks).2 !=0 with
 |true=>rw[c1,cond_true]at h;rw[show(dr2 ks).2=0 from h]at c1;cases c1
 |false=>
  have ih:=dr9 (ks:=ks) (by simpa using c1);rw[c1,cond_false,ih.2]at h;rw[cond_false,ih.2];refine⟨ih.1,rfl,?_⟩;unfold dr0 at h;rw[fz3]at h
  cases c2:dp5 b ks.length with
  |true=>rfl
  |false=>rw[c2]at h;exact absurd (show(25:Int)=0 from h) Od
theorem ds1{b:PB}{n:Nat}(h:dp5 b n=true):dp2 b.op=n:=by
 unfold dp5 at h;simp only[fz4,beq_iff_eq]at h;exact h.1
theorem ds2{p:Pl}(h:(dr5 p).2=0):dpP p≤200∧szP p≤2000∧(dr1 p).2=0∧dr5 p=dr1 p:=by
 unfold dr5 at h ⊢
 cases c1:decide (dpP p>200)with
 |true=>rw[c1]at h;exact absurd (show(5:Int)=0 from h) Od
 |false=>
  cases c2:decide (szP p>2000)with
  |true=>rw[c1,c2]at h;exact absurd (show(4:Int)=0 from h) Od
  |false=>
   rw[c1,c2]at h;exact⟨by simpa using c1,by simpa using c2,h,rfl⟩
def opB(op:Int)(e:Ex)(nm:ByteArray):PB:=⟨op,⟨[],[]⟩,zCL,e,nm,[],[],0,0⟩
def jnQ(l:List Pl):Pl:=.mk (opB 3 zeX ⟨#[]⟩) l
theorem ds3{e:Ex}{c:List ByteArray}(h:di8 e c=0):ct5 e=0∧di7 e c=true∧cu5 e=false:=by
 unfold di8 at h
 cases c1:ct5 e !=0 with
 |true=>rw[c1,cond_true]at h;rw[h]at c1;cases c1
 |false=>
  rw[c1,cond_false]at h
  cases c2:di7 e c with
  |false=>rw[c2]at h;exact absurd (show(6:Int)=0 from h) Od
  |true=>
   rw[c2]at h
   cases c3:cu5 e with
   |true=>rw[c3]at h;exact absurd (show(9:Int)=0 from h) Od
   |false=>exact⟨by simpa using c1,rfl,rfl⟩
theorem ds4{e:Int}{c:List ByteArray}(h:(dq9 e c).2=0):e=0∧(dq9 e c).1=c:=by
 unfold dq9 at h ⊢
 cases c1:e !=0 with
 |true=>rw[c1,cond_true]at h;rw[show e=0 from h]at c1;cases c1
 |false=>exact⟨by simpa using c1,rfl⟩
theorem ds5(g:Bool)(cols:List ByteArray):∀(l:List IT) (out:List ByteArray),(dq6 g cols l out).2≠0→(dq6 g cols l out).1=[]
 |[],_,h=>absurd rfl h
 |x::r,out,h=>by
  rw[dq6]at h ⊢
  cases c:dq5 g x cols out !=0 with
  |true=>rfl
  |false=>rw[c,cond_false]at h;rw[cond_false];exact ds5 g cols r _ h
def yesX:Ex:=cstX (vBool true)
def unQ:Pl:=.mk (opB 1 zeX ⟨#[]⟩) []
end Go.Proofs.YtndgolmgaenlfaaGreatDoor
