/- Expressions as canonical text: what both texts write; constants and signs; Expressions as canonical text, by both texts; Lists of expressions and oper. Conditions: each part's own, as it says. -/
import Derived.Test.YtndgolmgaenlfaaGreatDoorFA
import Derived.Test.YtndgolmgaenlfaaGreatDoorMB
import Derived.Test.YtndgolmgaenlfaaGreatDoorGC
import Derived.Test.YtndgolmgaenlfaaGreatDoorLA
import Derived.Test.YtndgolmgaenlfaaGreatDoorMA
set_option linter.unusedVariables false
set_option linter.unusedSimpArgs false
namespace Go.Proofs.YtndgolmgaenlfaaGreatDoor
set_option maxRecDepth 4000
open Go Go.Abs Go.Val Go.RowKit Go.Proofs.Tryz
attribute [local irreducible] go SGo an1 Ev au8 EvO EvS
def cr1(v:V):List UInt8:=
 bif v.k==1 then(bif v.n==1 then [84,82,85,69]else [70,65,76,83,69])else
 bif v.k==2 then(bif decide (v.n<0)then [40]++Lib.itoa v.n++ [41]else Lib.itoa v.n)else
 bif v.k==4 then txt v else [78,85,76,76]
def sgT(op:Int):List UInt8:=
 bif op==7 then [43]else bif op==8 then [45]else bif op==9 then [42]else bif op==10 then [47]else bif op==11 then [37]else bif op==12 then [61]else
 bif op==13 then [60,62]else bif op==14 then [60]else bif op==15 then [60,61]else bif op==16 then [62]else bif op==17 then [62,61]else
 bif op==18 then [65,78,68]else bif op==19 then [79,82]else [73,78]
def oprF(op:Int):Bool:=decide (op≥5) &&decide (op≤21)
theorem cr2{v:V}(h:ci0 v=true)(h4:v.k=4):(txt v).length≤202:=by
 obtain⟨k,n,d,s,l⟩:=v;simp only[V.k]at h4;subst h4;have hok:Val.okV (.mk 4 n d s l)=true:=by simpa[ci0,cg9,V.k]using h
 have h4:=cb9 hok;have hl2:=ca8 s.data.toList;have hsl:s.data.toList.length=s.size:=Oc
 have:txt (.mk 4 n d s l)=[39]++dbl s.data.toList++ [39]:=by simp only[txt,hok];rfl
 rw[this];simp only[fk1,fk0,fk4];omega
theorem cr3{v:V}(h:ci0 v=true)(hn:inR .i64 v.n):(cr1 v).length≤202:=by
 have h1:=cb3 hn;unfold cr1
 cases h4:v.k==4 with
 |true=>
  have h4':v.k=4:=by simpa using h4
  have:=cr2 h h4';simp only[h4',cond_true];simp;exact this
 |false=>
  cases v.k==1<;>cases v.k==2<;>cases v.n==1<;>cases decide (v.n<0)<;>simp only[cond_true,cond_false,fk1,fk0,fk4]<;>omega
theorem cr4(v:V)(h:ci0 v=true):Ev E 288 [enc v] (.d (.str (bs (cr1 v)))):=Ev.fit fun hfit=>by
 obtain⟨-,hn,-⟩:=bn8 (hfit (enc v) Oc);have h1:=bw5 v.n;have ln:=cb3 hn;have z1:(⟨(Lib.itoa v.n).toArray⟩:ByteArray).size≤21:=ln;have z2:(⟨#[40]⟩:ByteArray).size=1:=rfl;have z3:(⟨#[41]⟩:ByteArray).size=1:=rfl
 cases h4:v.k==4 with
 |true=>
  have h4':v.k=4:=by simpa using h4
  have h2:=cc4 v (by have:=cr2 h h4';omega);have e:cr1 v=txt v:=by simp[cr1,h4']
  have g1:(v.k==1)=false:=by rw[h4'];rfl
  have g2:(v.k==2)=false:=by rw[h4'];rfl
  rw[e];refine ye1 func288 ntmps288 fun _ _ _=>?_
  repeat'(first|refine yz ?_|refine yp b152 h2 ?_|refine yx ?_|(refine yy ?_ ?_<;>intro _)|exact zD|exact zL)
 |false=>
  refine ye1 func288 ntmps288 fun _ _ _=>?_
  repeat'(first|refine yz ?_|refine yp bq3 h1 ?_|refine yx ?_|(refine yy ?_ ?_<;>intro _)|(refine qV rfl ?_ ?_<;>intro _)|exact zD|exact zL)
  all_goals(refine congrArg D.str ?_;simp_all [cr1,fn2];first|rfl|(rw[if_neg Oa];first|done|rfl))
theorem cr5(op:Int):Ev E 291 [.int op] (.d (.str (bs (sgT op)))):=by
 refine ye1 func291 ntmps291 fun _ _ _=>?_
 repeat'(first|refine yz ?_|refine yx ?_|(refine yy ?_ ?_<;>intro _)|(refine qV rfl ?_ ?_<;>intro _)|exact zD|exact zL)
 all_goals(refine congrArg D.str ?_;simp_all [sgT,fn2];rfl)
theorem cr6(op:Int):(sgT op).length≤3:=by
 unfold sgT
 repeat'(rw[fn2];split)
 all_goals simp
def txN(op:Int)(v:V)(nm:List UInt8)(ds:Bool)(ts os:List (List UInt8)):List UInt8:=
 bif op==1 then cr1 v else
 bif op==2 then nm else
 bif op==3 then os.getD 0 []++ [46]++nm else
 bif op==4 then os.getD 0 []++ [58]++nm else
 bif op==5 then [78,79,84,32]++os.getD 0 []else
 bif op==6 then [45]++os.getD 0 []else
 bif op==21 then os.getD 0 []++ [32,73,83,32,78,85,76,76]else
 bif op==22 then [91]++Lib.join ts [44,32]++ [93]else
 bif op==23 then nm++ [40]++Lib.join ts [44,32]++ [41]else
 bif op==24 then(bif ts.isEmpty then nm++ [40,42,41]else bif ds then nm++ [40,68,73,83,84,73,78,67,84,32]++ts.getD 0 []++ [41]else nm++ [40]++ts.getD 0 []++ [41])else
 os.getD 0 []++ [32]++sgT op++ [32]++os.getD 1 []
mutual
def txE:Ex→List UInt8
 |.mk op v nm ds ks=>txN op v nm.data.toList ds (txL ks) (opL ks)
def txL:List Ex→List (List UInt8)
 |[]=>[]
 |x::r=>txE x::txL r
def opL:List Ex→List (List UInt8)
 |[]=>[]
 |x::r=>(bif oprF x.op then [40]++txE x++ [41]else txE x)::opL r
end
def opT(x:Ex):List UInt8:=bif oprF x.op then [40]++txE x++ [41]else txE x
theorem cr7(l:List Ex):txL l=l.map txE:=by
 induction l with
 |nil=>simp[txL]
 |cons v r ih=>simp[txL,ih]
theorem cr8(l:List Ex):opL l=l.map opT:=by
 induction l with
 |nil=>simp[opL]
 |cons v r ih=>simp[opL,ih,opT]
mutual
def alE(P:Ex→Prop):Ex→Prop
 |.mk op v nm ds ks=>P (.mk op v nm ds ks)∧alL P ks
def alL(P:Ex→Prop):List Ex→Prop
 |[]=>True
 |x::r=>alE P x∧alL P r
end
theorem cr9{P:Ex→Prop}:∀{l:List Ex},alL P l→∀x∈l,alE P x
 |[],_,x,hx=>by simp at hx
 |y::r,h,x,hx=>by
  rcases fk7.1 hx with e|e
  ·rw[e];exact h.1
  ·exact cr9 h.2 x e
theorem cs0{P:Ex→Prop}:∀{l:List Ex},(∀x∈l,alE P x)→alL P l
 |[],_=>trivial
 |y::r,h=>⟨h y Oc,cs0 fun x hx=>h x (by simp[hx])⟩
theorem cs1{P Q:Ex→Prop}(hpq:∀e,P e→Q e):∀e,alE P e→alE Q e:=
 bz0 (P:=fun e=>alE P e→alE Q e) fun op v nm ds ks ih h=>⟨hpq _ h.1,cs0 fun x hx=>ih x hx (cr9 h.2 x hx)⟩
theorem cs2{P Q:Ex→Prop}:∀e,alE P e→alE Q e→alE (fun e=>P e∧Q e) e:=
 bz0 (P:=fun e=>alE P e→alE Q e→alE (fun e=>P e∧Q e) e) fun op v nm ds ks ih h h'=>⟨⟨h.1,h'.1⟩,cs0 fun x hx=>ih x hx (cr9 h.2 x hx) (cr9 h'.2 x hx)⟩
def okN(e:Ex):Prop:=1≤e.op∧e.op≤24∧ch2 e=true∧(e.op=1→ci0 e.v=true)
theorem cs3:∀{l:List Ex} {w:Bool},cm9 l w=0→∀x∈l,cm8 x w=0
 |[],_,_,x,hx=>by simp at hx
 |y::r,w,h,x,hx=>by
  rw[cm9]at h
  cases hz:cm8 y w !=0 with
  |true=>
   rw[hz]at h;simp at hz;exact absurd h hz
  |false=>
   rw[hz]at h;rcases fk7.1 hx with e|e
   ·rw[e];simpa using hz
   ·exact cs3 h x e
theorem cs4:∀(e:Ex) (w:Bool),cm8 e w=0→alE okN e:=by
 refine bz0 (P:=fun e=>∀(w:Bool),cm8 e w=0→alE okN e) fun op v nm ds ks ih w h=>?_
 rw[cm8]at h
 cases hs:cm7 (.mk op v nm ds ks) w !=0 with
 |true=>
  rw[hs]at h;simp at hs;exact absurd h hs
 |false=>
  rw[hs]at h;refine⟨?_,cs0 fun x hx=>ih x hx _ (cs3 h x hx)⟩;have hs':cm7 (.mk op v nm ds ks) w=0:=by simpa using hs
  unfold cm7 at hs'
  cases h1:(decide ((Ex.mk op v nm ds ks).op<1)||decide ((Ex.mk op v nm ds ks).op>24))||(!ch2 (.mk op v nm ds ks)|| !ch8 (.mk op v nm ds ks))with
  |true=>rw[h1]at hs';simp at hs'
  |false=>
   rw[h1]at hs';simp only[fn9,decide_eq_false_iff_not,Bool.not_eq_false']at h1;refine⟨by omega,by omega,h1.2.1,fun h2=>?_⟩
   cases h3:ci0 (Ex.mk op v nm ds ks).v with
   |true=>rfl
   |false=>
    have h4:((Ex.mk op v nm ds ks).op==1&& !ci0 (Ex.mk op v nm ds ks).v)=true:=by rw[h2,h3];rfl
    rw[h4]at hs';simp at hs'
def smN(e:Ex):Prop:=okN e∧e.nm.size≤200∧inR .i64 e.v.n
theorem cs5(sep:List UInt8)(hs:sep.length≤2):∀(xs:List (List UInt8)),(Lib.join xs sep).length≤(xs.map fun x=>x.length+2).sum
 |[]=>fl2 _
 |a::r=>by
  rw[Lib.join_cons,fk1]
  have key:∀q:List (List UInt8),(Lib.joinTail sep q).length≤(q.map fun x=>x.length+2).sum:=by
   intro q
   induction q with
   |nil=>exact fl2 _
   |cons b q ih=>
    have hc:Lib.joinTail sep (b::q)=(sep++b)++Lib.joinTail sep q:=rfl;rw[hc,fk1,fk1,fm5,List.sum_cons];omega
  have:=key r;rw[fm5,List.sum_cons];omega
theorem cs6(x:Ex):(opT x).length≤(txE x).length+2:=by
 unfold opT
 cases oprF x.op<;>simp only[cond_true,cond_false,fk1,fk0,fk4]<;>omega
theorem cs7:∀e:Ex,alE smN e→(txE e).length+4≤1000*nd e:=by
 refine bz0 (P:=fun e=>alE smN e→(txE e).length+4≤1000*nd e) fun op v nm ds ks ih h=>?_
 obtain⟨⟨⟨h1,h2,h3,h4⟩,h5,h6⟩,-⟩:=h.1,h.2;have hk:=cr9 h.2;have hnl:nm.data.toList.length≤200:=by simpa[Ex.nm]using h5
 have hsum:(ks.map fun x=>(txE x).length+4).sum≤1000*ndL ks:=by
  clear h h1 h2 h3 h4 h5 h6
  induction ks with
  |nil=>exact fl9 _
  |cons a r ihr=>
   have:=ih a Oc (hk a Oc);have:=ihr (fun x hx=>ih x (by simp[hx])) (fun x hx=>hk x (by simp[hx]));rw[fm5,List.sum_cons,ndL];omega
 have hj:(Lib.join (txL ks) [44,32]).length≤1000*ndL ks:=by
  refine fo2 (cs5 [44,32] Oc _) (fo2 ?_ hsum);rw[cr7];clear h h1 h2 h3 h4 h5 h6 hsum ih hk
  induction ks with
  |nil=>exact fl2 _
  |cons a r ihr=>simp only[fm5,List.sum_cons];omega
 have hgt:∀j,((txL ks).getD j []).length≤1000*ndL ks:=by
  intro j;rw[cr7,fo9,fk6]
  cases hx:ks[j]? with
  |none=>simp
  |some x=>
   have hm:=fj9 hx;have h1:=ih x hm (hk x hm);have h2:=ci3 hm;simp only[fn5,fp4];omega
 have h01:((opL ks).getD 0 []).length+((opL ks).getD 1 []).length≤1000*ndL ks:=by
  rw[cr8]
  match ks,ih,hk with
  |[],_,_=>simp
  |[a],ih,hk=>
   have:=ih a Oc (hk a Oc);have:=cs6 a;simp[ndL];omega
  |a::b::r,ih,hk=>
   have:=ih a Oc (hk a Oc);have:=ih b Oc (hk b Oc);have:=cs6 a;have:=cs6 b;simp[ndL];omega
 have hcst:op=1→(cr1 v).length≤202:=fun e=>cr3 (h4 e) h6
 have hsg:=cr6 op;have ht0:=hgt 0;rw[nd,txE,txN]
 repeat'(rw[fn2];split)
 all_goals(try simp only[fk1,fk0,fk4])
 all_goals first|omega|(have:=hcst (by simpa using ‹(op==1)=true›);omega)
end Go.Proofs.YtndgolmgaenlfaaGreatDoor
namespace Go.Proofs.YtndgolmgaenlfaaGreatDoor
set_option maxRecDepth 4000
open Go Go.Abs Go.Val Go.RowKit Go.Proofs.Tryz
attribute [local irreducible] go SGo an1 Ev au8 EvO EvS
theorem cs8{l:List Ex}{i:Nat}{x:Ex}(h:l[i]? =some x):cc1 ((l.take (i+1)).map txE)=cc1 ((l.take i).map txE)++ [.str (bs (txE x))]:=by
 have hi:=(fk2.1 h).1;rw[ft6 hi];rw[fj7 hi]at h
 cases h
 simp only[cc1,fo8,fm5,fr0]
structure STe(l:List Ex) where
 i:Nat
 hi:i≤l.length
theorem cs9(l:List Ex)(hT:∀x∈l,Ev E 231 [by1 x] (.d (.str (bs (txE x)))))(hn:l.length≤1000000)(hlen:(Lib.join (l.map txE) [44,32]).length≤1073741824):
  Ev E 290 [.sl (by0 l)] (.d (.str (bs (Lib.join (l.map txE) [44,32])))):=by
 have hle:(by0 l).length=l.length:=by7 l;have e1:(l.map fun x=>bs (txE x)).map D.str=cc1 (l.map txE):=by simp[cc1]
 have e2:(l.map fun x=>bs (txE x)).map (·.data.toList)=l.map txE:=by simp[ca7]
 have hj:=cc0 (l.map fun x=>bs (txE x)) (bs [44,32]) Og (by rw[e2,ca7];omega);rw[e1,e2,ca7]at hj;refine ye1 func290 ntmps290 fun _ _ _=>?_
 repeat'(first|refine yz ?_|refine yx ?_|(refine yy ?_ ?_<;>intro _)|exact zD|exact zL)
 refine ac7 (α:=STe l) (fun p=>⟨[(3,aw6 (cc1 ((l.take p.i).map txE))),(6,.d (.sl (by0 l))),(7,.d (.int (by0 l).length)),(8,.d (.int p.i))],aw7 9 1 (cc1 ((l.take p.i).map txE))⟩) (fun p=>l.length-p.i) ⟨0,by omega⟩ (by rw[fp2];exact(zle 0)) ?_;rintro⟨i,hi⟩;dsimp only;rcases fj8 i l.length with hlt|hge
 ·have g1:decide ((i:Int)<((by0 l).length:Int))=true:=by rw[hle];simpa using hlt
  have hx0:=fj7 hlt;generalize l[i]=x at hx0;have hx:(by0 l)[(i:Int).toNat]? =some (by1 x):=by5 (by rw[fm2];exact hx0);have ht:=hT x (fj9 hx0);have hta:=cs8 hx0;have hll:(cc1 ((l.take i).map txE)).length≤i:=by simp[cc1];omega
  generalize cc1 ((l.take i).map txE)=out at*
  match out,hll with
  |[],hll=>
   dsimp only[aw6,aw7]
   repeat'(first|refine yz ?_|refine yi (by1 x) hx ?_|refine yp br4 ht ?_|(refine qS rfl ⟨by simp,by simp[D.cells];rfl,by(show(0+1)*16≤140737488355328;omega),by(show 0+1≤9223372036854775807;omega)⟩ ?_)|refine yx ?_|(refine yy ?_ ?_<;>intro _)|exact zD|exact zL)
   refine ac1 ?_;refine⟨⟨i+1,by omega⟩,by dsimp only;omega,?_⟩;dsimp only;rw[hta];exact(bh0 [1])
  |a::q,hll=>
   dsimp only[aw6,aw7]
   repeat'(first|refine yz ?_|refine yi (by1 x) hx ?_|refine yp br4 ht ?_|(refine qS rfl ⟨by simp,by simp[D.cells];rfl,by(show((a::q).length+1)*16≤140737488355328;omega),by(show(a::q).length+1≤9223372036854775807;omega)⟩ ?_)|refine yx ?_|(refine yy ?_ ?_<;>intro _)|exact zD|exact zL)
   refine ac1 ?_;refine⟨⟨i+1,by omega⟩,by dsimp only;omega,?_⟩;dsimp only;rw[hta];exact(bh0 [2])
 ·have g1:decide ((i:Int)<((by0 l).length:Int))=false:=by rw[hle];simp;omega
  rw[fl4 hge];generalize cc1 (l.map txE)=out at*
  match out,hj with
  |[],hj=>
   dsimp only[aw6,aw7]
   repeat'(first|refine yz ?_|refine yp b84 hj ?_|refine yx ?_|(refine yy ?_ ?_<;>intro _)|exact zD|exact zL)
  |a::q,hj=>
   dsimp only[aw6,aw7];refine qA ?_;refine au2 0 rfl ?_
   repeat'(first|refine yz ?_|refine yp b84 hj ?_|refine yx ?_|(refine yy ?_ ?_<;>intro _)|exact zD|exact zL)
theorem ct0(x:Ex)(hl:(txE x).length≤1073741824)(h1:Ev E 231 [by1 x] (.d (.str (bs (txE x))))):Ev E 289 [by1 x] (.d (.str (bs (opT x)))):=by
 have z1:(bs (txE x)).size=(txE x).length:=ca6 _;have z2:(⟨#[40]⟩:ByteArray).size=1:=rfl;have z3:(⟨#[41]⟩:ByteArray).size=1:=rfl;refine ye1 func289 ntmps289 fun _ _ _=>?_
 repeat'(first|refine yz ?_|refine yp br4 h1 ?_|refine yx ?_|(refine yy ?_ ?_<;>intro _)|(refine qV rfl ?_ ?_<;>intro _)|exact zD|exact zL)
 all_goals(refine congrArg D.str ?_;simp_all [opT,oprF,fn2];first|done|rfl|(rw[if_neg Oa];first|done|rfl))
set_option maxHeartbeats 4000000 in
theorem ct1:∀e:Ex,alE smN e→nd e≤1000→Ev E 231 [by1 e] (.d (.str (bs (txE e)))):=by
 refine bz0 (P:=fun e=>alE smN e→nd e≤1000→Ev E 231 [by1 e] (.d (.str (bs (txE e))))) fun op v nm ds ks ih h hn=>?_
 obtain⟨⟨⟨h1,h2,h3,h4⟩,h5,h6⟩,-⟩:=h.1,h.2;have hk:=cr9 h.2;rw[nd]at hn;have hT:∀x∈ks,Ev E 231 [by1 x] (.d (.str (bs (txE x)))):=fun x hx=>ih x hx (hk x hx) (by have:=ci3 hx;omega)
 have hZ:∀x∈ks,(txE x).length≤1000000:=fun x hx=>by
  have:=cs7 x (hk x hx);have:=ci3 hx;omega
 have hO:∀x∈ks,Ev E 289 [by1 x] (.d (.str (bs (opT x)))):=fun x hx=>ct0 x (by have:=hZ x hx;omega) (hT x hx)
 have hOz:∀x∈ks,(bs (opT x)).size≤1000002:=fun x hx=>by
  rw[ca6];have:=cs6 x;have:=hZ x hx;omega
 simp only[Ex.op]at h1 h2;have h5':=h5;replace h5:nm.size≤200:=h5;have hnm:bs nm.data.toList=nm:=ca5 nm;have hkl:kn0 (.mk op v nm ds ks)=(ks.length:Int):=by unfold kn0;rw[by6];rfl
 have hle:=by6 (.mk op v nm ds ks);have hks:(Ex.mk op v nm ds ks).ks=ks:=rfl;unfold ch2 at h3;rw[hkl]at h3;simp only[Ex.op,Ex.nm,Ex.ds]at h3;clear h hk ih hkl
 have hnn:ks.length≤ndL ks:=by
  have key:∀l:List Ex,l.length≤ndL l:=by
   intro l
   induction l with
   |nil=>exact fl9 _
   |cons a r ihr=>rw[ndL,fk0,ci2];omega
  exact key ks
 have hJ:(Lib.join (ks.map txE) [44,32]).length≤1073741824:=by
  refine fo2 (cs5 [44,32] Oc _) ?_
  have key:∀l:List Ex,(∀x∈l,(txE x).length≤1000000)→((l.map txE).map fun x=>x.length+2).sum≤1000002*l.length:=by
   intro l
   induction l with
   |nil=>intro _;exact fl9 _
   |cons a r ihr=>
    intro hl;have:=hl a Oc;have:=ihr fun x hx=>hl x (by simp[hx])
    simp only[fm5,List.sum_cons,fk0];omega
  have:=key ks hZ;omega
 have q1:(⟨#[46]⟩:ByteArray).size=1:=rfl;have q2:(⟨#[58]⟩:ByteArray).size=1:=rfl;have q3:(⟨#[78,79,84,32]⟩:ByteArray).size=4:=rfl;have q4:(⟨#[45]⟩:ByteArray).size=1:=rfl;have q5:(⟨#[32,73,83,32,78,85,76,76]⟩:ByteArray).size=8:=rfl;have q6:(⟨#[91]⟩:ByteArray).size=1:=rfl;have q7:(⟨#[93]⟩:ByteArray).size=1:=rfl;have q8:(⟨#[40]⟩:ByteArray).size=1:=rfl;have q9:(⟨#[41]⟩:ByteArray).size=1:=rfl;have q10:(⟨#[40,42,41]⟩:ByteArray).size=3:=rfl;have q11:(⟨#[40,68,73,83,84,73,78,67,84,32]⟩:ByteArray).size=10:=rfl;have q12:(⟨#[32]⟩:ByteArray).size=1:=rfl;have hcase:op=1∨op=2∨op=3∨op=4∨op=5∨op=6∨op=21∨op=22∨op=23∨op=24∨(7≤op∧op≤20):=Oa
 rcases hcase with rfl|rfl|rfl|rfl|rfl|rfl|rfl|rfl|rfl|rfl|hop
 ·have hc:=cr4 v (h4 rfl);rw[txE];refine ye1 func231 ntmps231 fun _ _ _=>?_
  repeat'(first|refine yz ?_|refine yp b288 hc ?_|refine yx ?_|(refine yy ?_ ?_<;>intro _)|exact zD|exact zL)
 ·rw[txE,show txN 2 v nm.data.toList ds (txL ks) (opL ks)=nm.data.toList from rfl,hnm];refine ye1 func231 ntmps231 fun _ _ _=>?_
  exact Ok
 ·have hks2:∃x,ks=[x]:=by
   have:ks.length=1:=by
    have:((ks.length:Int)==1)=true:=h3;simp at this;omega
   match ks,this with
   |[x],_=>exact⟨x,rfl⟩
  obtain⟨x,rfl⟩:=hks2;have hx:(bx9 (.mk 3 v nm ds [x]))[(0:Int).toNat]? =some (by1 x):=rfl;have hl1:(bx9 (.mk 3 v nm ds [x])).length=1:=rfl;have a1:=hO x Oc;have z1:=hOz x Oc;rw[txE,show txN 3 v nm.data.toList ds (txL [x]) (opL [x])=opT x++ [46]++nm.data.toList from rfl,←ca4,←ca4,hnm];refine ye1 func231 ntmps231 fun _ _ _=>?_
  repeat'(first|refine yz ?_|refine yi (by1 x) hx ?_|refine yp bs0 a1 ?_|refine yx ?_|(refine yy ?_ ?_<;>intro _)|exact zD|exact zL)
 ·have hks2:∃x,ks=[x]:=by
   have:ks.length=1:=by
    have:((ks.length:Int)==1)=true:=h3;simp at this;omega
   match ks,this with
   |[x],_=>exact⟨x,rfl⟩
  obtain⟨x,rfl⟩:=hks2;have hx:(bx9 (.mk 4 v nm ds [x]))[(0:Int).toNat]? =some (by1 x):=rfl;have hl1:(bx9 (.mk 4 v nm ds [x])).length=1:=rfl;have a1:=hO x Oc;have z1:=hOz x Oc;rw[txE,show txN 4 v nm.data.toList ds (txL [x]) (opL [x])=opT x++ [58]++nm.data.toList from rfl,←ca4,←ca4,hnm];refine ye1 func231 ntmps231 fun _ _ _=>?_
  repeat'(first|refine yz ?_|refine yi (by1 x) hx ?_|refine yp bs0 a1 ?_|refine yx ?_|(refine yy ?_ ?_<;>intro _)|exact zD|exact zL)
 ·have hks2:∃x,ks=[x]:=by
   have:ks.length=1:=by
    have:((ks.length:Int)==1)=true:=h3;simp at this;omega
   match ks,this with
   |[x],_=>exact⟨x,rfl⟩
  obtain⟨x,rfl⟩:=hks2;have hx:(bx9 (.mk 5 v nm ds [x]))[(0:Int).toNat]? =some (by1 x):=rfl;have hl1:(bx9 (.mk 5 v nm ds [x])).length=1:=rfl;have a1:=hO x Oc;have z1:=hOz x Oc;rw[txE,show txN 5 v nm.data.toList ds (txL [x]) (opL [x])=[78,79,84,32]++opT x from rfl,←ca4];refine ye1 func231 ntmps231 fun _ _ _=>?_
  repeat'(first|refine yz ?_|refine yi (by1 x) hx ?_|refine yp bs0 a1 ?_|refine yx ?_|(refine yy ?_ ?_<;>intro _)|exact zD|exact zL)
 ·have hks2:∃x,ks=[x]:=by
   have:ks.length=1:=by
    have:((ks.length:Int)==1)=true:=h3;simp at this;omega
   match ks,this with
   |[x],_=>exact⟨x,rfl⟩
  obtain⟨x,rfl⟩:=hks2;have hx:(bx9 (.mk 6 v nm ds [x]))[(0:Int).toNat]? =some (by1 x):=rfl;have hl1:(bx9 (.mk 6 v nm ds [x])).length=1:=rfl;have a1:=hO x Oc;have z1:=hOz x Oc;rw[txE,show txN 6 v nm.data.toList ds (txL [x]) (opL [x])=[45]++opT x from rfl,←ca4];refine ye1 func231 ntmps231 fun _ _ _=>?_
  repeat'(first|refine yz ?_|refine yi (by1 x) hx ?_|refine yp bs0 a1 ?_|refine yx ?_|(refine yy ?_ ?_<;>intro _)|exact zD|exact zL)
 ·have hks2:∃x,ks=[x]:=by
   have:ks.length=1:=by
    have:((ks.length:Int)==1)=true:=h3;simp at this;omega
   match ks,this with
   |[x],_=>exact⟨x,rfl⟩
  obtain⟨x,rfl⟩:=hks2;have hx:(bx9 (.mk 21 v nm ds [x]))[(0:Int).toNat]? =some (by1 x):=rfl;have hl1:(bx9 (.mk 21 v nm ds [x])).length=1:=rfl;have a1:=hO x Oc;have z1:=hOz x Oc;rw[txE,show txN 21 v nm.data.toList ds (txL [x]) (opL [x])=opT x++ [32,73,83,32,78,85,76,76]from rfl,←ca4];refine ye1 func231 ntmps231 fun _ _ _=>?_
  repeat'(first|refine yz ?_|refine yi (by1 x) hx ?_|refine yp bs0 a1 ?_|refine yx ?_|(refine yy ?_ ?_<;>intro _)|exact zD|exact zL)
 ·have hj:Ev E 290 [.sl (bx9 (.mk 22 v nm ds ks))] (.d (.str (bs (Lib.join (ks.map txE) [44,32])))):=cs9 ks hT Oa hJ;rw[txE,cr7,show txN 22 v nm.data.toList ds (ks.map txE) (opL ks)=[91]++Lib.join (ks.map txE) [44,32]++ [93]from rfl,←ca4,←ca4];have z1:(bs (Lib.join (ks.map txE) [44,32])).size≤1073741824:=by rw[ca6];exact hJ
  refine ye1 func231 ntmps231 fun _ _ _=>?_
  repeat'(first|refine yz ?_|refine yp b290 hj ?_|refine yx ?_|(refine yy ?_ ?_<;>intro _)|exact zD|exact zL)
 ·have hj:Ev E 290 [.sl (bx9 (.mk 23 v nm ds ks))] (.d (.str (bs (Lib.join (ks.map txE) [44,32])))):=cs9 ks hT Oa hJ;rw[txE,cr7,show txN 23 v nm.data.toList ds (ks.map txE) (opL ks)=nm.data.toList++ [40]++Lib.join (ks.map txE) [44,32]++ [41]from rfl,←ca4,←ca4,←ca4,hnm];have z1:(bs (Lib.join (ks.map txE) [44,32])).size≤1073741824:=by rw[ca6];exact hJ
  refine ye1 func231 ntmps231 fun _ _ _=>?_
  repeat'(first|refine yz ?_|refine yp b290 hj ?_|refine yx ?_|(refine yy ?_ ?_<;>intro _)|exact zD|exact zL)
 ·have hks2:ks=[]∨∃x,ks=[x]:=by
   have:ks.length=1∨ks.length=0:=by
    have:((ks.length:Int)==1||((ks.length:Int)==0&&(isS nm ⟨#[99,111,117,110,116]⟩ && !ds)))=true:=h3;simp at this;rcases this with h|h
    ·left;omega
    ·right;exact fu4.2 h.1
   match ks,this with
   |[],_=>exact .inl rfl
   |[x],_=>exact .inr ⟨x,rfl⟩
  rcases hks2 with rfl|⟨x,rfl⟩
  ·rw[txE,show txN 24 v nm.data.toList ds (txL []) (opL [])=nm.data.toList++ [40,42,41]from rfl,←ca4,hnm];refine ye1 func231 ntmps231 fun _ _ _=>?_
   exact Ok
  ·have hx:(bx9 (.mk 24 v nm ds [x]))[(0:Int).toNat]? =some (by1 x):=rfl;have ht:=hT x Oc;have z1:(bs (txE x)).size≤1000000:=by rw[ca6];exact hZ x Oc
   skip
   cases ds with
   |true=>
    rw[txE,show txN 24 v nm.data.toList true (txL [x]) (opL [x])=nm.data.toList++ [40,68,73,83,84,73,78,67,84,32]++txE x++ [41] by simp[txN,txL],←ca4,←ca4,←ca4,hnm];refine ye1 func231 ntmps231 fun _ _ _=>?_
    repeat'(first|refine yz ?_|refine yi (by1 x) hx ?_|refine yp br4 ht ?_|refine yx ?_|(refine yy ?_ ?_<;>intro _)|exact zD|exact zL)
   |false=>
    rw[txE,show txN 24 v nm.data.toList false (txL [x]) (opL [x])=nm.data.toList++ [40]++txE x++ [41] by simp[txN,txL],←ca4,←ca4,←ca4,hnm];refine ye1 func231 ntmps231 fun _ _ _=>?_
    repeat'(first|refine yz ?_|refine yi (by1 x) hx ?_|refine yp br4 ht ?_|refine yx ?_|(refine yy ?_ ?_<;>intro _)|exact zD|exact zL)
 ·have n1:(op==1)=false:=by simp;omega
  have n2:(op==2)=false:=Og
  have n3:(op==3)=false:=Og
  have n4:(op==4)=false:=Og
  have n5:(op==5)=false:=Og
  have n6:(op==6)=false:=Og
  have n21:(op==21)=false:=Og
  have n22:(op==22)=false:=Og
  have n23:(op==23)=false:=Og
  have n24:(op==24)=false:=Og
  have hks2:∃x y,ks=[x,y]:=by
   rw[n1,n2,n3,n4,n5,n6,n21,n22,n23,n24]at h3;have:ks.length=2:=by simp at h3;omega
   match ks,this with
   |[x,y],_=>exact⟨x,y,rfl⟩
  obtain⟨x,y,rfl⟩:=hks2;have hx:(bx9 (.mk op v nm ds [x,y]))[(0:Int).toNat]? =some (by1 x):=rfl;have hy:(bx9 (.mk op v nm ds [x,y]))[(1:Int).toNat]? =some (by1 y):=rfl;have hl2:(bx9 (.mk op v nm ds [x,y])).length=2:=rfl;have a1:=hO x Oc;have a2:=hO y Oc;have z1:=hOz x Oc;have z2:=hOz y Oc;have a3:=cr5 op;have z3:(bs (sgT op)).size≤3:=by rw[ca6];exact cr6 op
  rw[txE,show txN op v nm.data.toList ds (txL [x,y]) (opL [x,y])=opT x++ [32]++sgT op++ [32]++opT y by simp[txN,opL,opT,n1,n2,n3,n4,n5,n6,n21,n22,n23,n24],←ca4,←ca4,←ca4,←ca4];refine ye1 func231 ntmps231 fun _ _ _=>?_
  repeat'(first|refine yz ?_|refine yi (by1 x) hx ?_|refine yi (by1 y) hy ?_|refine yp bs0 a1 ?_|refine yp bs0 a2 ?_|refine yp b291 a3 ?_|refine yx ?_|(refine yy ?_ ?_<;>intro _)|exact zD|exact zL)
theorem ct2{α:Type}{l:List α}{i:Nat}{x:α}(h:l[i]? =some x):l.drop i=x::l.drop (i+1):=by
 obtain⟨hi,rfl⟩:=fk2.1 h;exact List.drop_eq_getElem_cons hi
theorem ct3{α:Type}{f:α→D}{l:List α}{i:Nat}{x:α}(h:l[i]? =some x):(l.map f)[((i:Nat):Int).toNat]? =some (f x):=by
 rw[show((i:Nat):Int).toNat=i by omega,fk6,h];rfl
theorem ct4{α:Type}{f:α→D}{l:List α}(h:Fit (.sl (l.map f))):l.length≤9223372036854775807∧∀x∈l,Fit (f x):=by
 obtain⟨h1,h2⟩:=h.sls;exact⟨by simpa using h1,fun x hx=>h2 _ (fl3.2 ⟨x,hx,rfl⟩)⟩
def ct5:Option Nat→Int|some i=>(i:Int)|none=> -1
theorem ct6{α:Type}{l:List α}{f:α→Bool}{i:Nat}{x:α}(hx:l[i]? =some x)(hc:f x=true)(h:∀j,j<i→∀y,l[j]? =some y→f y=false):l.findIdx? f=some i:=by
 have hi:=(fk2.1 hx).1;rw[fu5];refine⟨hi,?_,fun j hj=>?_⟩
 ·rw[fj7 hi]at hx
  cases hx
  exact hc
 ·have:=h j hj _ (fj7 Oa);simpa using this
theorem ct7{α:Type}{l:List α}{f:α→Bool}(h:∀j,j<l.length→∀y,l[j]? =some y→f y=false):l.findIdx? f=none:=by
 rw[fu6];intro x hx;obtain⟨j,hj⟩:=fm0 hx;exact h j (fk2.1 hj).1 x hj
theorem ct8{α:Type}{l:List α}{f:α→Bool}:decide (ct5 (l.findIdx? f)≥0)=l.any f:=by
 cases h:l.findIdx? f with
 |none=>
  rw[fu6]at h;have:l.any f=false:=by rw[fq2];intro x hx;simpa using h x hx
  rw[this];rfl
 |some i=>
  obtain⟨hi,h1,-⟩:=fu5.1 h;have:l.any f=true:=fs8.2 ⟨_,fq5 hi,h1⟩;rw[this];simp[ct5]
structure SFc{α:Type}(l:List α)(f:α→Bool) where
 i:Nat
 hi:i≤l.length
 ok:∀j,j<i→∀y,l[j]? =some y→f y=false
theorem SFc.next{α:Type}{l:List α}{f:α→Bool}{i:Nat}{x:α}(hx:l[i]? =some x)(hc:f x=false)(h:∀j,j<i→∀y,l[j]? =some y→f y=false):∀j,j<i+1→∀y,l[j]? =some y→f y=false:=by
 intro j hj y hy;rcases Nat.lt_succ_iff_lt_or_eq.1 hj with h1|rfl
 ·exact h j h1 y hy
 ·rw[hx]at hy;cases hy;exact hc
theorem ct9(fn:FuncId)(hb:an1 E fn)(f:ByteArray→Bool)(l:List (ByteArray))(hf:∀x∈l,Ev E fn [D.str x] (.d (.bool (f x)))):Ev E 187 [.sl (l.map D.str),.imm (.func (.func fn) #[] #[])] (.d (.int (ct5 (l.findIdx? f)))):=Ev.fit fun hfit=>by
 have hmax:=(ct4 (hfit (.sl (l.map D.str)) Oc)).1;have hle:(l.map D.str).length=l.length:=Oc
 refine ye2 func187 ntmps187 fun _ _ _=>?_
 repeat'(refine yz ?_)
 refine ac7 (α:=SFc l f) (fun p=>⟨[(0,.d (.sl (l.map D.str))),(1,.d (.imm (.func (.func fn) #[] #[]))),(7,.d (.int (l.map D.str).length)),(8,.d (.int p.i))],[]⟩) (fun p=>l.length-p.i) ⟨0,by omega,fun j hj=>absurd hj Oa⟩ (zle 0) ?_;rintro⟨i,hi,ok⟩;dsimp only;rcases fj8 i l.length with hlt|hge
 ·have g1:decide ((i:Int)<((l.map D.str).length:Int))=true:=by rw[hle];simpa using hlt
  have hx0:=fj7 hlt;generalize l[i]=y at hx0;have hx:=ct3 (f:=D.str) hx0;have h:=hf y (fj9 hx0)
  cases hc:f y with
  |true=>
   rw[hc]at h;rw[ct6 hx0 hc ok]
   repeat'(first|refine yz ?_|refine yi (D.str y) hx ?_|refine yp hb h ?_|exact zD)
  |false=>
   rw[hc]at h
   repeat'(first|refine yz ?_|refine yi (D.str y) hx ?_|refine yp hb h ?_)
   refine ac1 ?_;exact⟨⟨i+1,by omega,SFc.next hx0 hc ok⟩,by dsimp only;omega,(zle 0)⟩
 ·have g1:decide ((i:Int)<((l.map D.str).length:Int))=false:=by rw[hle];simp;omega
  rw[ct7 fun j hj=>ok j Oa]
  exact Ok
theorem cu0(fn:FuncId)(hb:an1 E fn)(f:ByteArray→Bool)(l:List (ByteArray))(hf:∀x∈l,Ev E fn [D.str x] (.d (.bool (f x)))):Ev E 120 [.sl (l.map D.str),.imm (.func (.func fn) #[] #[])] (.d (.bool (l.any f))):=by
 have h:=ct9 fn hb f l hf;rw[←ct8];refine ye2 func120 ntmps120 fun _ _ _=>?_
 repeat'(first|refine yz ?_|refine yp b187 h ?_|exact zD)
theorem cu1(fn:FuncId)(hb:an1 E fn)(f:Ex→Bool)(l:List (Ex))(hf:∀x∈l,Ev E fn [by1 x] (.d (.bool (f x)))):Ev E 130 [.sl (l.map by1),.imm (.func (.func fn) #[] #[])] (.d (.int (ct5 (l.findIdx? f)))):=Ev.fit fun hfit=>by
 have hmax:=(ct4 (hfit (.sl (l.map by1)) Oc)).1;have hle:(l.map by1).length=l.length:=Oc
 refine ye2 func130 ntmps130 fun _ _ _=>?_
 repeat'(refine yz ?_)
 refine ac7 (α:=SFc l f) (fun p=>⟨[(0,.d (.sl (l.map by1))),(1,.d (.imm (.func (.func fn) #[] #[]))),(7,.d (.int (l.map by1).length)),(8,.d (.int p.i))],[]⟩) (fun p=>l.length-p.i) ⟨0,by omega,fun j hj=>absurd hj Oa⟩ (zle 0) ?_;rintro⟨i,hi,ok⟩;dsimp only;rcases fj8 i l.length with hlt|hge
 ·have g1:decide ((i:Int)<((l.map by1).length:Int))=true:=by rw[hle];simpa using hlt
  have hx0:=fj7 hlt;generalize l[i]=y at hx0;have hx:=ct3 (f:=by1) hx0;have h:=hf y (fj9 hx0)
  cases hc:f y with
  |true=>
   rw[hc]at h;rw[ct6 hx0 hc ok]
   repeat'(first|refine yz ?_|refine yi (by1 y) hx ?_|refine yp hb h ?_|exact zD)
  |false=>
   rw[hc]at h
   repeat'(first|refine yz ?_|refine yi (by1 y) hx ?_|refine yp hb h ?_)
   refine ac1 ?_;exact⟨⟨i+1,by omega,SFc.next hx0 hc ok⟩,by dsimp only;omega,(zle 0)⟩
 ·have g1:decide ((i:Int)<((l.map by1).length:Int))=false:=by rw[hle];simp;omega
  rw[ct7 fun j hj=>ok j Oa]
  exact Ok
theorem cu2(fn:FuncId)(hb:an1 E fn)(f:Ex→Bool)(l:List (Ex))(hf:∀x∈l,Ev E fn [by1 x] (.d (.bool (f x)))):Ev E 67 [.sl (l.map by1),.imm (.func (.func fn) #[] #[])] (.d (.bool (l.any f))):=by
 have h:=cu1 fn hb f l hf;rw[←ct8];refine ye2 func67 ntmps67 fun _ _ _=>?_
 repeat'(first|refine yz ?_|refine yp b130 h ?_|exact zD)
theorem cu3(fn:FuncId)(hb:an1 E fn)(f:EP→Bool)(l:List (EP))(hf:∀x∈l,Ev E fn [co1 x] (.d (.bool (f x)))):Ev E 266 [.sl (l.map co1),.imm (.func (.func fn) #[] #[])] (.d (.int (ct5 (l.findIdx? f)))):=Ev.fit fun hfit=>by
 have hmax:=(ct4 (hfit (.sl (l.map co1)) Oc)).1;have hle:(l.map co1).length=l.length:=Oc
 refine ye2 func266 ntmps266 fun _ _ _=>?_
 repeat'(refine yz ?_)
 refine ac7 (α:=SFc l f) (fun p=>⟨[(0,.d (.sl (l.map co1))),(1,.d (.imm (.func (.func fn) #[] #[]))),(7,.d (.int (l.map co1).length)),(8,.d (.int p.i))],[]⟩) (fun p=>l.length-p.i) ⟨0,by omega,fun j hj=>absurd hj Oa⟩ (zle 0) ?_;rintro⟨i,hi,ok⟩;dsimp only;rcases fj8 i l.length with hlt|hge
 ·have g1:decide ((i:Int)<((l.map co1).length:Int))=true:=by rw[hle];simpa using hlt
  have hx0:=fj7 hlt;generalize l[i]=y at hx0;have hx:=ct3 (f:=co1) hx0;have h:=hf y (fj9 hx0)
  cases hc:f y with
  |true=>
   rw[hc]at h;rw[ct6 hx0 hc ok]
   repeat'(first|refine yz ?_|refine yi (co1 y) hx ?_|refine yp hb h ?_|exact zD)
  |false=>
   rw[hc]at h
   repeat'(first|refine yz ?_|refine yi (co1 y) hx ?_|refine yp hb h ?_)
   refine ac1 ?_;exact⟨⟨i+1,by omega,SFc.next hx0 hc ok⟩,by dsimp only;omega,(zle 0)⟩
 ·have g1:decide ((i:Int)<((l.map co1).length:Int))=false:=by rw[hle];simp;omega
  rw[ct7 fun j hj=>ok j Oa]
  exact Ok
theorem cu4(fn:FuncId)(hb:an1 E fn)(f:EP→Bool)(l:List (EP))(hf:∀x∈l,Ev E fn [co1 x] (.d (.bool (f x)))):Ev E 196 [.sl (l.map co1),.imm (.func (.func fn) #[] #[])] (.d (.bool (l.any f))):=by
 have h:=cu3 fn hb f l hf;rw[←ct8];refine ye2 func196 ntmps196 fun _ _ _=>?_
 repeat'(first|refine yz ?_|refine yp b266 h ?_|exact zD)
theorem cu5:∀a b:List UInt8,(Op.bytesLess a b=true∧Op.bytesLess b a=false∧a≠b)∨(Op.bytesLess a b=false∧Op.bytesLess b a=true∧a≠b)∨(Op.bytesLess a b=false∧Op.bytesLess b a=false∧a=b)
 |[],[]=>.inr (.inr ⟨rfl,rfl,rfl⟩)
 |[],_::_=>.inl ⟨rfl,rfl,by simp⟩
 |_::_,[]=>.inr (.inl ⟨rfl,rfl,by simp⟩)
 |x::a,y::b=>by
  have ih:=cu5 a b;simp only[Op.bytesLess];rcases Nat.lt_trichotomy x.toNat y.toNat with h|h|h
  ·have h1:x<y:=h;have h2: ¬ y<x:=fun h'=>Nat.lt_asymm h h'
   have h3:x≠y:=fun e=>by subst e;omega
   have h4:(y==x)=false:=by rw[beq_eq_false_iff_ne];exact fun e=>h3 e.symm
   left;refine⟨by simp[h1],by simp[h2,h4],fun e=>h3 (List.cons.inj e).1⟩
  ·have e:x=y:=UInt8.toNat_inj.1 h;subst e;have h2: ¬ x<x:=fun h'=>fr9 _ h'
   simp only[h2,decide_false,beq_self_eq_true,fn0,fm9];rcases ih with⟨i1,i2,i3⟩|⟨i1,i2,i3⟩|⟨i1,i2,i3⟩
   ·exact .inl ⟨i1,i2,fun e=>i3 (List.cons.inj e).2⟩
   ·exact .inr (.inl ⟨i1,i2,fun e=>i3 (List.cons.inj e).2⟩)
   ·exact .inr (.inr ⟨i1,i2,by rw[i3]⟩)
  ·have h1:y<x:=h;have h2: ¬ x<y:=fun h'=>Nat.lt_asymm h h'
   have h3:x≠y:=fun e=>by subst e;omega
   have h4:(x==y)=false:=by rw[beq_eq_false_iff_ne];exact h3
   right;left;refine⟨by simp[h2,h4],by simp[h1],fun e=>h3 (List.cons.inj e).1⟩
theorem cu6(a b:ByteArray):(Op.bytesLess b.toList a.toList||b.toList==a.toList)= !Op.bytesLess a.toList b.toList:=by
 rcases cu5 a.toList b.toList with⟨h1,h2,h3⟩|⟨h1,h2,h3⟩|⟨h1,h2,h3⟩
 ·rw[h1,h2,show(b.toList==a.toList)=false by rw[beq_eq_false_iff_ne];exact fun e=>h3 e.symm];rfl
 ·rw[h1,h2];rfl
 ·rw[h1,h2,h3];simp
structure SRc(l:List ByteArray) where
 i:Nat
 hi:i+1≤l.length
 ok:co9 l=co9 (l.drop i)
theorem cu7{l:List ByteArray}{i:Nat}{a b:ByteArray}(ha:l[i]? =some a)(hb:l[i+1]? =some b):co9 (l.drop i)=(Op.bytesLess a.toList b.toList&&co9 (l.drop (i+1))):=by
 rw[ct2 ha,ct2 hb];rfl
theorem cu8{l:List ByteArray}{i:Nat}(h:i+1=l.length):co9 (l.drop i)=true:=by
 obtain⟨a,ha⟩:∃a,l[i]? =some a:=⟨_,fj7 Oa⟩;rw[ct2 ha,fk5 Oa];rfl
theorem cu9(l:List ByteArray):Ev E 203 [.sl (l.map .str)] (.d (.bool (co9 l))):=Ev.fit fun hfit=>by
 have hmax:=(ct4 (hfit (.sl (l.map .str)) Oc)).1;have hle:(l.map D.str).length=l.length:=Oc
 by_cases h0:l=[]
 ·subst h0;refine ye1 func203 ntmps203 fun _ _ _=>?_
  repeat'(refine yz ?_)
  refine ac7 (α:=Unit) (fun p=>⟨[(0,.d (.sl [])),(3,.d (.int 1))],[]⟩) (fun p=>0) () (zle 0) ?_;rintro-;have g1:decide ((1:Int)<(([]:List D).length:Int))=false:=rfl
  exact Ok
 have hp:=ft2.2 h0;refine ye1 func203 ntmps203 fun _ _ _=>?_
 repeat'(refine yz ?_)
 refine ac7 (α:=SRc l) (fun p=>⟨[(0,.d (.sl (l.map .str))),(3,.d (.int ((p.i+1:Nat):Int)))],[]⟩) (fun p=>l.length-p.i) ⟨0,by omega,rfl⟩ (zle 0) ?_;rintro⟨i,hi,ok⟩;dsimp only;rcases fj8 (i+1) l.length with hlt|hge
 ·have g1:decide (((i+1:Nat):Int)<((l.map D.str).length:Int))=true:=by rw[hle];simp;omega
  have ha0:=fj7 (show i<l.length by omega);have hb0:=fj7 hlt;generalize l[i]=a at ha0;generalize l[i+1]=b at hb0;have hb:=ct3 (f:=D.str) hb0
  have ha:(l.map D.str)[(((i+1:Nat):Int) -1).toNat]? =some (.str a):=by
   rw[show(((i+1:Nat):Int) -1)=(i:Int) by omega];exact ct3 (f:=D.str) ha0
  have g2:=cu6 a b;rw[ok,cu7 ha0 hb0]
  cases hc:Op.bytesLess a.toList b.toList with
  |true=>
   have hcn:(!Op.bytesLess a.toList b.toList)=false:=by rw[hc];rfl
   rw[hc]at g2
   repeat'(first|refine yz ?_|refine yi (.str b) hb ?_|refine yi (.str a) ha ?_)
   refine ac1 ?_;exact⟨⟨i+1,hlt,by rw[ok,cu7 ha0 hb0,hc];rfl⟩,by dsimp only;omega,(zle 0)⟩
  |false=>
   have hcn:(!Op.bytesLess a.toList b.toList)=true:=by rw[hc];rfl
   rw[hc]at g2
   repeat'(first|refine yz ?_|refine yi (.str b) hb ?_|refine yi (.str a) ha ?_|exact zD)
 ·have g1:decide (((i+1:Nat):Int)<((l.map D.str).length:Int))=false:=by rw[hle];simp;omega
  rw[ok,cu8 Oa]
  exact Ok
theorem cv0(s:ByteArray):Ev E 268 [.str s] (.d (.bool (!cm2 s))):=by
 have h:=cm4 s;refine ye1 func268 ntmps268 fun _ _ _=>?_
 repeat'(first|refine yz ?_|refine yp br0 h ?_|exact zD)
theorem cv1(l:List ByteArray):Ev E 201 [.sl (l.map .str)] (.d (.bool (l.all cm2))):=by
 have h:=cu0 268 b268 (fun s=> !cm2 s) l fun s _=>cv0 s
 have e:(!(l.any fun s=> !cm2 s))=l.all cm2:=by rw[List.not_any_eq_all_not];simp
 rw[←e];refine ye1 func201 ntmps201 fun _ _ _=>?_
 repeat'(first|refine yz ?_|refine yp b120 h ?_|exact zD)
theorem cv2(e:Ex):bx9 e=e.ks.map by1:=by
 obtain⟨op,v,nm,ds,ks⟩:=e;show by0 ks=ks.map by1
 induction ks with
 |nil=>rfl
 |cons x r ih=>simp only[by0,fm5,ih];rfl
theorem cv3(op:Int)(v:V)(nm:ByteArray)(ds:Bool)(ks:List Ex):co7 (.mk op v nm ds ks)=(op==24||ks.any co7):=by
 have:hagL ks=ks.any co7:=by
  induction ks with
  |nil=>rfl
  |cons x r ih=>rw[hagL,ih];rfl
 rw[co7,this]
theorem cv4(e:Ex):Ev E 63 [by1 e] (.d (.bool (co7 e))):=by
 refine bz0 (P:=fun e=>Ev E 63 [by1 e] (.d (.bool (co7 e)))) (fun op v nm ds ks ih=>?_) e;have h:=cu2 63 b63 co7 ks ih;have hk:=cv2 (.mk op v nm ds ks);simp only[Ex.ks]at hk;rw[←hk]at h;rw[cv3]
 cases c1:op==24 with
 |true=>
  refine ye1 func63 ntmps63 fun _ _ _=>?_
  exact Ok
 |false=>
  refine ye1 func63 ntmps63 fun _ _ _=>?_
  repeat'(first|refine yz ?_|refine yp b67 h ?_|refine yx ?_|exact zD)
theorem cv5(e:EP):Ev E 198 [co1 e] (.d (.bool (cp3 e))):=by
 obtain⟨vr,ty,dir,mode,mn,mx,ps⟩:=e;refine ye1 func198 ntmps198 fun _ _ _=>?_
 repeat'(first|refine yz ?_|(refine yy ?_ ?_<;>intro _)|(refine qV rfl ?_ ?_<;>intro _))
 all_goals(refine congrArg D.bool ?_;simp_all [cp3,fn2])
 all_goals first|omega|(rw[fk9];simp;omega)
theorem cv6(e:EP):Ev E 205 [co1 e] (.d (.bool (cp4 e))):=by
 obtain⟨vr,ty,dir,mode,mn,mx,ps⟩:=e;have hl:(ty.map D.str).length=ty.length:=Oc
 refine ye1 func205 ntmps205 fun _ _ _=>?_
 repeat'(first|refine yz ?_|(refine yy ?_ ?_<;>intro _))
 all_goals(refine congrArg D.bool ?_;simp_all [cp4])
 all_goals first|omega|(rw[fk9];simp;omega)
theorem cv7(e:EP):Ev E 197 [co1 e] (.d (.bool (!cp3 e))):=by
 have h:=cv5 e;refine ye1 func197 ntmps197 fun _ _ _=>?_
 repeat'(first|refine yz ?_|refine yp b198 h ?_|exact zD)
theorem cv8(e:EP):Ev E 204 [co1 e] (.d (.bool (!cp4 e))):=by
 have h:=cv6 e;refine ye1 func204 ntmps204 fun _ _ _=>?_
 repeat'(first|refine yz ?_|refine yp b205 h ?_|exact zD)
structure SKy(l:List PP) where
 i:Nat
 hi:i≤l.length
theorem cv9{l:List PP}{i:Nat}{x:PP}(h:l[i]? =some x):(co8 (l.take (i+1))).map D.str=(co8 (l.take i)).map D.str++ [.str x.key]:=by
 rw[fm8,h];simp[co8]
theorem cw0(l:List PP)(hl:l.length≤1000000):Ev E 202 [.sl (l.map cn9)] (.d (.sl ((co8 l).map .str))):=by
 have hle:(l.map cn9).length=l.length:=Oc
 refine ye1 func202 ntmps202 fun _ _ _=>?_
 repeat'(refine yz ?_)
 refine ac7 (α:=SKy l) (fun p=>⟨[(3,bf9 0 ((co8 (l.take p.i)).map .str)),(6,.d (.sl (l.map cn9))),(7,.d (.int (l.map cn9).length)),(8,.d (.int p.i))],aw7 9 1 ((co8 (l.take p.i)).map .str)⟩) (fun p=>l.length-p.i) ⟨0,by omega⟩ (zle 0) ?_;rintro⟨i,hi⟩;dsimp only;have hol:((co8 (l.take i)).map D.str).length≤1000000:=by simp[co8];omega
 rcases fj8 i l.length with hlt|hge
 ·have g1:decide ((i:Int)<((l.map cn9).length:Int))=true:=by rw[hle];simpa using hlt
  have hx0:=fj7 hlt;generalize l[i]=x at hx0;have hx:=ct3 (f:=cn9) hx0;have hnx:=cv9 hx0;generalize(co8 (l.take i)).map D.str=o at*
  match o,hol with
  |[],hol=>
   dsimp only[bf9,aw7]
   repeat'(first|refine yz ?_|refine yi (cn9 x) hx ?_|(refine qS rfl ⟨by simp,fun d hd=>by(obtain rfl:=fk8.1 hd;rfl),by(show(0+1)*16≤140737488355328;omega),by(show 0+1≤9223372036854775807;omega)⟩ ?_))
   refine ac1 ?_;refine⟨⟨i+1,by omega⟩,by dsimp only;omega,?_⟩;dsimp only;rw[hnx];exact(bh0 [1])
  |a::q,hol=>
   dsimp only[bf9,aw7]
   repeat'(first|refine yz ?_|refine yi (cn9 x) hx ?_|(refine qS rfl ⟨by simp,fun d hd=>by(obtain rfl:=fk8.1 hd;rfl),by(show((a::q).length+1)*16≤140737488355328;omega),by(show(a::q).length+1≤9223372036854775807;omega)⟩ ?_))
   refine ac1 ?_;refine⟨⟨i+1,by omega⟩,by dsimp only;omega,?_⟩;dsimp only;rw[hnx];exact(bh0 [2])
 ·have g1:decide ((i:Int)<((l.map cn9).length:Int))=false:=by rw[hle];simp;omega
  rw[fl4 hge];generalize(co8 l).map D.str=o at*
  match o with
  |[]=>
   dsimp only[bf9,aw7]
   exact Ok
  |a::q=>
   dsimp only[bf9,aw7];refine qA ?_;refine au2 0 rfl ?_
   exact Ok
structure SLo(l:List EP) where
 i:Nat
 n:Int
 hi:i≤l.length
 h0:0≤n
 h1:n≤13*i
 ok:cp1 l=(l.drop i).foldl (fun n e=>n+cp0 e) n
theorem cw1(e:EP):0≤cp0 e∧cp0 e≤13:=by
 unfold cp0
 cases e.mode==0<;>simp<;>omega
theorem cw2(p:PA):Ev E 195 [co2 p] (.d (.bool (cp2 p))):=Ev.fit fun hfit=>by
 obtain⟨vr,ns,es⟩:=p;have hft:=hfit (co2 ⟨vr,ns,es⟩) Oc;have hmn:=(ct4 (hft.aggs (.sl (ns.map co0)) Oc)).1;have hme:=(ct4 (hft.aggs (.sl (es.map co1)) Oc)).1;have hln:(ns.map co0).length=ns.length:=Oc
 have hle:(es.map co1).length=es.length:=Oc
 unfold cp2;dsimp only
 cases c1:ns.length==0 with
 |true=>
  have g1:(((ns.map co0).length:Int)==0)=true:=by rw[hln];simp at c1 ⊢;omega
  refine ye1 func195 ntmps195 fun _ _ _=>?_
  exact Ok
 |false=>
  have g1:(((ns.map co0).length:Int)==0)=false:=by rw[hln];simp at c1 ⊢;omega
  cases c2:decide (es.length>6)with
  |true=>
   have g2:decide (((es.map co1).length:Int)>6)=true:=by rw[hle];simp at c2 ⊢;omega
   refine ye1 func195 ntmps195 fun _ _ _=>?_
   exact Ok
  |false=>
   have g2:decide (((es.map co1).length:Int)>6)=false:=by rw[hle];simp at c2 ⊢;omega
   have h6:es.length≤6:=by simp at c2;omega
   rw[fm9,fm9];refine ye1 func195 ntmps195 fun _ _ _=>?_
   repeat'(first|refine yz ?_|refine yx ?_)
   refine ac7 (α:=SLo es) (fun p=>⟨[(3,.d (.int p.n)),(17,.d (.sl (es.map co1))),(18,.d (.int (es.map co1).length)),(19,.d (.int p.i))],[]⟩) (fun p=>es.length-p.i) ⟨0,0,by omega,by omega,by omega,rfl⟩ (zle 0) ?_;rintro⟨i,n,hi,h0,h1,ok⟩;dsimp only at ok ⊢;rcases fj8 i es.length with hlt|hge
   ·have g3:decide ((i:Int)<((es.map co1).length:Int))=true:=by rw[hle];simpa using hlt
    have hx0:=fj7 hlt;generalize es[i]=e at hx0;have hx:=ct3 (f:=co1) hx0;have hr:=cw1 e;rw[ct2 hx0,fo0]at ok
    cases c3:e.mode==0 with
    |true=>
     have hn:cp0 e=1:=by unfold cp0;rw[c3];rfl
     rw[hn]at ok
     repeat'(first|refine yz ?_|refine yi (co1 e) hx ?_)
     refine ac1 ?_;exact⟨⟨i+1,n+1,by omega,by omega,by omega,ok⟩,by dsimp only;omega,(zle 0)⟩
    |false=>
     have hn:cp0 e=min (max e.mx 0) 13:=by unfold cp0;rw[c3];rfl
     rw[hn]at ok hr;have hin:inR .i64 (n+min (max e.mx 0) 13):=by simp only[inR];omega
     repeat'(first|refine yz ?_|refine yi (co1 e) hx ?_)
     refine ac1 ?_;exact⟨⟨i+1,n+min (max e.mx 0) 13,by omega,by omega,by omega,ok⟩,by dsimp only;omega,(zle 0)⟩
   ·have g3:decide ((i:Int)<((es.map co1).length:Int))=false:=by rw[hle];simp;omega
    have hn:cp1 es=n:=by rw[ok,fk5 hge];rfl
    rw[hn]
    exact Ok
end Go.Proofs.YtndgolmgaenlfaaGreatDoor
namespace Go.Proofs.YtndgolmgaenlfaaGreatDoor
set_option maxRecDepth 4000
open Go Go.Abs Go.Val Go.RowKit Go.Proofs.Tryz
def ltP(a b:ByteArray):Bool:=Op.bytesLess a.toList b.toList
theorem cw3:∀a b c:List UInt8,Op.bytesLess a b=true→Op.bytesLess b c=true→Op.bytesLess a c=true
 |_,[],_,h,_=>by rename_i a _ _;cases a<;>simp[Op.bytesLess]at h
 |_,_::_,[],_,h=>by simp[Op.bytesLess]at h
 |[],_::_,_::_,_,_=>rfl
 |x::a,y::b,z::c,h1,h2=>by
  simp only[Op.bytesLess,fn3,fl5,decide_eq_true_eq,beq_iff_eq]at h1 h2 ⊢;rcases h1 with p|⟨p,p'⟩
  ·have p0:x.toNat<y.toNat:=p;rcases h2 with q|⟨q,-⟩
   ·have q0:y.toNat<z.toNat:=q;exact .inl (show x.toNat<z.toNat by omega)
   ·subst q;exact .inl p
  ·subst p;rcases h2 with q|⟨q,q'⟩
   ·exact .inl q
   ·exact .inr ⟨q,cw3 a b c p' q'⟩
theorem cw4{a b:ByteArray}(h:a.toList=b.toList):a=b:=by
 rw[ByteArray.toList_eq,ByteArray.toList_eq]at h;exact ByteArray.ext (Array.toList_inj.1 h)
theorem cw5(a b:ByteArray):(a.toList==b.toList)=decide (a=b):=by
 rw[fk9,beq_iff_eq,decide_eq_true_eq];exact⟨cw4,fun h=>by rw[h]⟩
theorem cw6{a b c:ByteArray}(h1:ltP a b=true)(h2:ltP b c=true):ltP a c=true:=cw3 _ _ _ h1 h2
theorem cw7(a:ByteArray):ltP a a=false:=by
 unfold ltP;rcases cu5 a.toList a.toList with⟨-,-,h⟩|⟨-,-,h⟩|⟨h,-,-⟩
 ·exact absurd rfl h
 ·exact absurd rfl h
 ·exact h
theorem cw8(a b:ByteArray):ltP a b=true∨a=b∨ltP b a=true:=by
 unfold ltP;rcases cu5 a.toList b.toList with⟨h,-,-⟩|⟨-,h,-⟩|⟨-,-,h⟩
 ·exact .inl h
 ·exact .inr (.inr h)
 ·exact .inr (.inl (cw4 h))
theorem cw9{a b:ByteArray}(h:ltP a b=true):a≠b:=fun e=>by rw[e,cw7]at h;cases h
theorem cx0{a b:ByteArray}(h:ltP a b=true):ltP b a=false:=by
 cases h2:ltP b a with
 |false=>rfl
 |true=>rw[←cw7 a];exact(cw6 h h2).symm
abbrev cx1(l:List ByteArray):Prop:=l.Pairwise fun a b=>ltP a b=true
def cx2(s:ByteArray):List ByteArray→List ByteArray
 |[]=>[s]
 |x::r=>bif ltP x s then x::cx2 s r else bif x.toList==s.toList then x::r else s::x::r
theorem cx3{s y:ByteArray}:∀{l:List ByteArray},y∈cx2 s l↔y=s∨y∈l
 |[]=>by simp[cx2]
 |x::r=>by
  have ih:=cx3 (s:=s) (y:=y) (l:=r);unfold cx2
  cases h1:ltP x s with
  |true=>rw[cond_true,fk7,ih,fk7];exact or_left_comm
  |false=>
   rw[cond_false]
   cases h2:x.toList==s.toList with
   |true=>
    obtain rfl:=cw4 (by simpa using h2:x.toList=s.toList);rw[cond_true,fk7];exact⟨.inr,fun h=>h.elim .inl id⟩
   |false=>rw[cond_false,fk7]
theorem cx4{s:ByteArray}:∀{l:List ByteArray},cx1 l→cx1 (cx2 s l)
 |[],_=>List.pairwise_singleton _ _
 |x::r,h=>by
  rw[cx1,ft3]at h;unfold cx2
  cases h1:ltP x s with
  |true=>
   rw[cond_true,cx1,ft3];refine⟨fun y hy=>?_,cx4 h.2⟩;rcases cx3.1 hy with rfl|hy
   ·exact h1
   ·exact h.1 y hy
  |false=>
   rw[cond_false]
   cases h2:x.toList==s.toList with
   |true=>rw[cond_true];exact ft3.2 h
   |false=>
    have h3:ltP s x=true:=by
     rcases cw8 x s with h|h|h
     ·rw[h]at h1;cases h1
     ·rw[h,beq_self_eq_true]at h2;cases h2
     ·exact h
    rw[cond_false,cx1,ft3];refine⟨fun y hy=>?_,ft3.2 h⟩;rcases fk7.1 hy with rfl|hy
    ·exact h3
    ·exact cw6 h3 (h.1 y hy)
theorem cx5:∀{a b:List ByteArray},cx1 a→cx1 b→(∀x,x∈a↔x∈b)→a=b
 |[],[],_,_,_=>rfl
 |[],y::q,_,_,h=>absurd ((h y).2 Oc) Oc
 |x::r,[],_,_,h=>absurd ((h x).1 Oc) Oc
 |x::r,y::q,ha,hb,h=>by
  rw[cx1,ft3]at ha hb
  have e:x=y:=by
   rcases fk7.1 ((h x).1 Oc)with e|hx
   ·exact e
   ·rcases fk7.1 ((h y).2 Oc)with e|hy
    ·exact e.symm
    ·have h1:=hb.1 x hx;have h2:=ha.1 y hy;rw[cx0 h1]at h2
     cases h2
  subst e;refine congrArg (x:: ·) (cx5 ha.2 hb.2 fun z=>?_);constructor
  ·intro hz;rcases fk7.1 ((h z).1 (by simp[hz]))with e|h'
   ·exact absurd e.symm (cw9 (ha.1 z hz))
   ·exact h'
  ·intro hz;rcases fk7.1 ((h z).2 (by simp[hz]))with e|h'
   ·exact absurd e.symm (cw9 (hb.1 z hz))
   ·exact h'
def cx6(acc l:List ByteArray):List ByteArray:=l.foldl (fun a s=>cx2 s a) acc
theorem cx7{y:ByteArray}:∀{l acc:List ByteArray},y∈cx6 acc l↔y∈acc∨y∈l
 |[],acc=>by simp[cx6]
 |s::r,acc=>by
  have ih:=cx7 (y:=y) (l:=r) (acc:=cx2 s acc);show y∈cx6 (cx2 s acc) r↔_;rw[ih,cx3,fk7];constructor
  ·rintro((h|h)|h)
   ·exact .inr (.inl h)
   ·exact .inl h
   ·exact .inr (.inr h)
  ·rintro(h|h|h)
   ·exact .inl (.inr h)
   ·exact .inl (.inl h)
   ·exact .inr h
theorem cx8:∀{l acc:List ByteArray},cx1 acc→cx1 (cx6 acc l)
 |[],_,h=>h
 |s::r,acc,h=>cx8 (l:=r) (cx4 (s:=s) h)
theorem cx9{acc l:List ByteArray}(h:cx1 acc):cx6 acc (cx6 [] l)=cx6 acc l:=
 cx5 (cx8 h) (cx8 h) fun x=>by rw[cx7,cx7,cx7];simp
theorem cy0{acc a b:List ByteArray}:cx6 acc (a++b)=cx6 (cx6 acc a) b:=by unfold cx6;rw[List.foldl_append]
theorem cy1(s:ByteArray):∀{l:List ByteArray},cx1 l→cx2 s l=l.takeWhile (fun x=>ltP x s)++s::(l.dropWhile fun x=>ltP x s).filter fun x=> !(x.toList==s.toList)
 |[],_=>rfl
 |x::r,h=>by
  rw[cx1,ft3]at h;unfold cx2
  cases h1:ltP x s with
  |true=>
   rw[cond_true,cy1 s h.2,List.takeWhile_cons_of_pos (p:=fun x=>ltP x s) h1,List.dropWhile_cons_of_pos (p:=fun x=>ltP x s) h1];rfl
  |false=>
   rw[cond_false,List.takeWhile_cons_of_neg (p:=fun x=>ltP x s) (by rw[h1];decide),List.dropWhile_cons_of_neg (p:=fun x=>ltP x s) (by rw[h1];decide),fm7]
   cases h2:x.toList==s.toList with
   |true=>
    obtain rfl:=cw4 (by simpa using h2:x.toList=s.toList);rw[cond_true,List.filter_cons_of_neg Oc];refine congrArg (x:: ·) (List.filter_eq_self.2 fun y hy=>?_).symm;rw[cw5];simpa using(cw9 (h.1 y hy)).symm
   |false=>
    have h3:ltP s x=true:=by
     rcases cw8 x s with h|h|h
     ·rw[h]at h1;cases h1
     ·rw[h,beq_self_eq_true]at h2;cases h2
     ·exact h
    rw[cond_false];refine congrArg (s:: ·) (List.filter_eq_self.2 fun y hy=>?_).symm;rw[cw5];rcases fk7.1 hy with rfl|hy
    ·simpa using(cw9 h3).symm
    ·simpa using(cw9 (cw6 h3 (h.1 y hy))).symm
mutual
def usX:Ex→List ByteArray
 |.mk op _ nm _ ks=>(bif op==2 then [nm]else [])++cy2 ks
def cy2:List Ex→List ByteArray
 |[]=>[]
 |x::r=>usX x++cy2 r
end
def cy3(e:Ex):List ByteArray:=cx6 [] (usX e)
theorem cy4(e:Ex):cx1 (cy3 e):=cx8 List.Pairwise.nil
theorem cy5{e:Ex}{s:ByteArray}:s∈cy3 e↔s∈usX e:=by unfold cy3;rw[cx7];simp
theorem cy6:∀l:List Ex,cy2 l=l.flatMap usX
 |[]=>rfl
 |x::r=>by rw[cy2,fm6,cy6 r]
theorem cy7(e:Ex):(usX e).length≤nd e:=by
 refine bz0 (P:=fun e=>(usX e).length≤nd e) (fun op v nm ds ks ih=>?_) e;rw[usX,ci2];show _≤ndL ks+1
 have key:∀l:List Ex,(∀x∈l,(usX x).length≤nd x)→(cy2 l).length≤ndL l:=by
  intro l
  induction l with
  |nil=>intro _;exact fl2 _
  |cons a r ihr=>
   intro h;have h1:=h a Oc;have h2:=ihr fun x hx=>h x (by simp[hx])
   simp only[cy2,fk1,ndL];omega
 have hk:=key ks ih;rw[fk1]
 cases op==2 with
 |true=>rw[cond_true];simp;omega
 |false=>rw[cond_false];simp;omega
theorem cy8(s:ByteArray):∀l:List ByteArray,(cx2 s l).length≤l.length+1
 |[]=>by simp[cx2]
 |x::r=>by
  have:=cy8 s r;unfold cx2
  cases ltP x s with
  |true=>rw[cond_true];simp;omega
  |false=>
   rw[cond_false]
   cases x.toList==s.toList with
   |true=>rw[cond_true];simp
   |false=>rw[cond_false];simp
theorem cy9:∀(l acc:List ByteArray),(cx6 acc l).length≤acc.length+l.length
 |[],acc=>by simp[cx6]
 |s::r,acc=>by
  have h1:=cy9 r (cx2 s acc);have h2:=cy8 s acc;show(cx6 (cx2 s acc) r).length≤_;simp only[fk0];omega
theorem cz0(e:Ex):(cy3 e).length≤nd e:=by
 have h1:=cy9 (usX e) [];have h2:=cy7 e;unfold cy3;simp only[fk4]at h1;omega
def cz1(ks:List ByteArray)(s:ByteArray):List ByteArray:=bif ks.any (fun x=>x.toList==s.toList)then ks else ks++ [s]
theorem cz2{ks:List ByteArray}{s:ByteArray}:(ks.any fun x=>x.toList==s.toList)=true↔s∈ks:=by
 rw[fs8];constructor
 ·rintro⟨x,hx,h⟩;obtain rfl:=cw4 (by simpa using h:x.toList=s.toList);exact hx
 ·intro h;exact⟨s,h,by simp⟩
theorem cz3{ks:List ByteArray}{s:ByteArray}:(ks.any fun x=>x.toList==s.toList)=false↔s ∉ ks:=by rw[←fq0,cz2]
theorem cz4{ks:List ByteArray}{s y:ByteArray}:y∈cz1 ks s↔y=s∨y∈ks:=by
 unfold cz1
 cases h:ks.any fun x=>x.toList==s.toList with
 |true=>
  have h:=cz2.1 h;rw[cond_true];exact⟨.inr,fun h'=>h'.elim (fun e=>e ▸ h) id⟩
 |false=>
  rw[cond_false,fm1,fk8];exact or_comm
theorem cz5{ks:List ByteArray}{s:ByteArray}(hn:ks.Nodup):(cz1 ks s).Nodup:=by
 unfold cz1
 cases h:ks.any fun x=>x.toList==s.toList with
 |true=>rw[cond_true];exact hn
 |false=>
  have h:=cz3.1 h;rw[cond_false];refine List.nodup_append.2 ⟨hn,List.nodup_cons.2 ⟨by simp,List.nodup_nil⟩,fun a ha b hb=>?_⟩;rw[fk8]at hb;subst hb;rintro rfl;exact h ha
theorem cz6(ks:List ByteArray)(s:ByteArray):(cz1 ks s).length≤ks.length+1:=by
 unfold cz1
 cases ks.any fun x=>x.toList==s.toList with
 |true=>rw[cond_true];omega
 |false=>rw[cond_false];simp
def cz7(ks l:List ByteArray):List ByteArray:=l.foldl cz1 ks
theorem cz8{y:ByteArray}:∀{l ks:List ByteArray},y∈cz7 ks l↔y∈ks∨y∈l
 |[],ks=>by simp[cz7]
 |s::r,ks=>by
  show y∈cz7 (cz1 ks s) r↔_;rw[cz8,cz4,fk7];constructor
  ·rintro((h|h)|h)
   ·exact .inr (.inl h)
   ·exact .inl h
   ·exact .inr (.inr h)
  ·rintro(h|h|h)
   ·exact .inl (.inr h)
   ·exact .inl (.inl h)
   ·exact .inr h
theorem cz9:∀{l ks:List ByteArray},ks.Nodup→(cz7 ks l).Nodup
 |[],_,h=>h
 |s::r,ks,h=>cz9 (l:=r) (cz5 (s:=s) h)
theorem da0:∀(l ks:List ByteArray),(cz7 ks l).length≤ks.length+l.length
 |[],ks=>by simp[cz7]
 |s::r,ks=>by
  have h1:=da0 r (cz1 ks s);have h2:=cz6 ks s;show(cz7 (cz1 ks s) r).length≤_;simp only[fk0];omega
theorem da1{ks a b:List ByteArray}:cz7 ks (a++b)=cz7 (cz7 ks a) b:=by unfold cz7;rw[List.foldl_append]
end Go.Proofs.YtndgolmgaenlfaaGreatDoor
namespace Go.Proofs.YtndgolmgaenlfaaGreatDoor
set_option maxRecDepth 4000
open Go Go.Abs Go.Val Go.RowKit Go.Maps Go.Sort Go.Shelf Go.Proofs Go.Proofs.Tryz
theorem da2(m:Nat):AnyZ.SortsIn Tryz.prog Tryz.sortedU_ren Fence.wide m:=
 ⟨fun blk off cap ss W hH hblk hsz=>callsIn_wide.2 (AnyM.slices_Sort_string Tryz.sortU blk off cap ss W hH hblk hsz),fun p cap W=>callsIn_wide.2 (AnyM.slices_Sort_string_none Tryz.sortU p cap W)⟩
set_option maxHeartbeats 1000000 in
theorem da3{H:Type}(w:World)(Bm b nn:Nat)(D0:DataW H)(R:Value→Option (DataW H × List MemPlace))(hBm:Bm<w.heap.size)(hm:w.cell? ⟨Bm,0,none⟩=some (.map (some b)))(hown:w.ownsMap Tryz.prog 9 R b nn D0)(hmax:Maps.size D0≤maxLen)(hbytes:Maps.size D0*16≤140737488355328):
  Calls Tryz.prog 109 #[.func (.func 264) #[] #[.pointer (some ⟨Bm,0,none⟩)]] w fun e w'=>∃(v:Value) (ss:List (List UInt8)),e=.returned v∧ss.Perm (strKeys D0)∧
   w'.ownsRow w.heap.size 9 1 v ss.length ((ss.mergeSort (fun x y=>decide (x≤y))).map encStr)∧(v=.slice none 0 0↔ss=[])∧Below w.heap.size w w':=by
 have hseq:SeqGives Fence.wide 2 Tryz.prog 264 #[.pointer (some ⟨Bm,0,none⟩)] encStr (fun ss=>ss.Perm (strKeys D0)) (Maps.size D0) w:=
  AnyZ.keys_gives (ρ:=Tryz.keysU_ren) {Tryz.keysU with} Fence.wide _ trivial rfl Oa Bm b nn D0 _ hBm hm hown
 exact callsIn_wide.1 (AnyZ.sorted_in Tryz.sortedU Fence.wide 5 trivial trivial trivial trivial rfl Oa (da2 _) (enters_of func177 Ob rfl) 264 _ trivial (enters_of func264 Ob rfl) _ _ hmax hbytes _ hseq)
def mpU(ks:List ByteArray):List (Value × D):=ks.map fun s=>(.string s,.bool true)
theorem da4(s:ByteArray):∀ks:List ByteArray,bi8 (.string s) (mpU ks)=ks.findIdx? fun x=>x.toList==s.toList
 |[]=>rfl
 |x::r=>by
  have ih:=da4 s r
  have e:vEq (.string s) (.string x)=(x.toList==s.toList):=by
   show(s==x)=_;rw[cw5,fk9,decide_eq_true_eq];rw[MapKept.bytes_beq];exact⟨fun h=>h.symm,fun h=>h.symm⟩
  show(bif vEq (.string s) (.string x)then some 0 else(bi8 (.string s) (mpU r)).map (· +1))=_;rw[e,ih,List.findIdx?_cons]
  cases x.toList==s.toList<;>rfl
theorem da5(s:ByteArray)(ks:List ByteArray):bi9 (.string s) (.bool true) (mpU ks)=mpU (cz1 ks s):=by
 unfold bi9 cz1;rw[da4]
 cases h:ks.findIdx? fun x=>x.toList==s.toList with
 |none=>
  rw[fu6]at h
  have:(ks.any fun x=>x.toList==s.toList)=false:=by
   rw[←fq0,fs8];rintro⟨x,hx,he⟩;rw[h x hx]at he;cases he
  rw[this,cond_false];simp[mpU]
 |some i=>
  obtain⟨hi,he,-⟩:=fu5.1 h;have:(ks.any fun x=>x.toList==s.toList)=true:=fs8.2 ⟨_,fq5 hi,he⟩;rw[this,cond_true];have hx:ks[i]=s:=cw4 (by simpa using he);show(mpU ks).set i (.string s,.bool true)=mpU ks;apply fs0;intro j;rw[fp1];split
  ·rename_i hj
   subst hj;have hl:i<(mpU ks).length:=by simp[mpU,hi]
   rw[if_pos hl];simp[mpU,fj7 hi,hx]
  ·rfl
theorem le_lt{x y:List UInt8}(h:x≤y)(hn:x≠y):Op.bytesLess x y=true:=by
 rcases cu5 x y with⟨h1,-,-⟩|⟨-,h2,-⟩|⟨-,-,h3⟩
 ·exact h1
 ·rw[bytesLess_eq,decide_eq_true_eq]at h2;exact absurd h2 (List.not_lt.2 h)
 ·exact absurd h3 hn
def toB(l:List (List UInt8)):List ByteArray:=l.map fun b=>⟨b.toArray⟩
theorem da6{ks:List ByteArray}{ss:List (List UInt8)}(hp:ss.Perm (ce5 ks))(hn:ks.Nodup):toB (ss.mergeSort fun x y=>decide (x≤y))=cx6 [] ks:=by
 have hsl:(ss.mergeSort fun x y=>decide (x≤y)).Pairwise fun x y=>x≤y:=by
  have:=List.pairwise_mergeSort (le:=fun x y:List UInt8=>decide (x≤y)) (fun a b c h1 h2=>by simp only[decide_eq_true_eq]at*;exact List.le_trans h1 h2) (fun a b=>by simp only[fn3,decide_eq_true_eq];exact List.le_total a b) ss;exact this.imp fun h=>by simpa using h
 have hbn:(ce5 ks).Nodup:=by
  unfold ce5;refine List.pairwise_map.2 (hn.imp fun{a b} h e=>h ?_);exact ByteArray.ext (Array.toList_inj.1 e)
 have hpm:(ss.mergeSort fun x y=>decide (x≤y)).Perm (ce5 ks):=(List.mergeSort_perm _ _).trans hp;have hnd:(ss.mergeSort fun x y=>decide (x≤y)).Nodup:=hpm.nodup_iff.2 hbn;generalize(ss.mergeSort fun x y=>decide (x≤y))=T at*;refine cx5 ?_ (cx8 List.Pairwise.nil) fun x=>?_
 ·unfold toB;refine List.pairwise_map.2 ((hsl.and hnd).imp fun{a b} h=>?_);unfold ltP;rw[ByteArray.toList_eq,ByteArray.toList_eq];exact le_lt h.1 h.2
 ·rw[cx7];unfold toB;rw[fl3];constructor
  ·rintro⟨b,hb,rfl⟩;obtain⟨s,hs,rfl⟩:=fl3.1 (hpm.mem_iff.1 hb);exact .inr hs
  ·rintro(h|h)
   ·cases h
   ·exact⟨x.data.toList,hpm.mem_iff.2 (fl3.2 ⟨x,h,rfl⟩),rfl⟩
theorem da7(mt:TypeId)(ks:List ByteArray)(hs:∀s∈ks,s.size≤maxLen)(hn:ks.Nodup)(hsz:ks.length≤1000000000):
  EvS E 109 [.clo 264 [.ptr 0 0]] [.var mt (.w (.mp 1)),.map .string (mpU ks)] (.d (.sl ((cx6 [] ks).map .str))) [.var mt (.w (.mp 1)),.map .string (mpU ks)]:=by
 intro w F σ vs hi hl hr
 match vs,hl with
 |[v0],_=>
  obtain⟨us,rfl,ul,ur⟩:=hr 0 _ _ rfl rfl
  match us,ul with
  |[u0],_=>
   obtain⟨b,c,n,e1,rfl⟩:=ur 0 _ _ rfl rfl;obtain⟨cs,g1,g2,g3,g4,g5,g6⟩:=hi.obs 0 _ _ rfl e1
   match cs,g2 with
   |[sv],_=>
    obtain⟨b1,c1,n1,f1,rfl⟩:=g4 0 (.mp 1) sv rfl rfl;obtain⟨es,k1,k2,k3,k4,k5,k6⟩:=hi.obs 1 _ _ rfl f1;have hml:(mpU ks).length=ks.length:=by simp[mpU]
    have hus:Tryz.prog.underlying 9=some .string:=Ob
    have hbl:b<w.heap.size:=(fs3.1 g1).1
    have hkey:∀(i:Nat) e,es[i]? =some e→∃s,ks[i]? =some s∧e.key=.string s∧e.born=i:=by
     intro i e he;have hil:i<ks.length:=by have:=(fs3.1 he).1;omega
     obtain⟨⟨q1,q2⟩,-⟩:=k3 i e (.string ks[i],.bool true) he (by simp[mpU,fj7 hil]);exact⟨ks[i],fj7 hil,q1,q2⟩
    let R:Value→Option (DataW Unit × List MemPlace):=fun _=>some (.lit (.bool true),[])
    have hrd:∀(i:Nat) e s,es[i]? =some e→ks[i]? =some s→WideElems.rd Tryz.prog 9 R e=some (.string s.data.toList,.lit (.bool true)):=by
     intro i e s he hk;obtain⟨s',h1,h2,-⟩:=hkey i e he;rw[hk]at h1
     cases h1
     unfold WideElems.rd;rw[h2,WideMaps.keyOf_string_mk hus (hs s (fj9 hk))];rfl
    have hrg:es.toList.map (WideElems.rg Tryz.prog 9 R)=ks.map fun s=>(Lit.string s.data.toList,(DataW.lit (.bool true):DataW Unit)):=by
     apply fs0;intro j;rw[fk6,fk6];rcases fj8 j ks.length with hj|hj
     ·obtain⟨e,he⟩:∃e,es[j]? =some e:=⟨es[j]'Oa,by simp⟩;have hk:=fj7 hj;rw[fs7,he,hk];simp only[fn5];unfold WideElems.rg;rw[hrd j e _ he hk];rfl
     ·rw[fn6 (l:=es.toList) (by rw[fs2];omega),fn6 hj];rfl
    have hfit:WideElems.Fit Tryz.prog 9 R es es.size:=by
     refine⟨by rw[k2,hml];unfold maxLen;omega,⟨?_,?_,?_⟩,?_⟩
     ·intro x hx;obtain⟨i,hi'⟩:=fm0 hx;rw[fs7]at hi';obtain⟨-,-,-,hb⟩:=hkey i x hi';have:=(fs3.1 hi').1;omega
     ·have:es.toList.map (·.born)=List.range es.size:=by
       apply fs0;intro j;rw[fk6,fs7];rcases fj8 j es.size with hj|hj
       ·obtain⟨e,he⟩:∃e,es[j]? =some e:=⟨es[j]'hj,by simp⟩;obtain⟨-,-,-,hb⟩:=hkey j e he;rw[he,fq9 hj,←hb];rfl
       ·rw[fs4 hj,fn6 (by simpa using hj)];rfl
      rw[this];exact List.nodup_range
     ·have:es.toList.map (·.key)=ks.map Value.string:=by
       apply fs0;intro j;rw[fk6,fs7,fk6];rcases fj8 j es.size with hj|hj
       ·obtain⟨e,he⟩:∃e,es[j]? =some e:=⟨es[j]'hj,by simp⟩;obtain⟨s,h1,h2,-⟩:=hkey j e he;rw[he,h1];exact congrArg some h2
       ·rw[fs4 hj,fn6 Oa];rfl
      rw[this];exact List.pairwise_map.2 (hn.imp fun{a b} h e=>h (by cases e;rfl))
     ·intro x hx;obtain⟨i,hi'⟩:=fm0 hx;rw[fs7]at hi';obtain⟨s,h1,-,-⟩:=hkey i x hi';exact⟨_,hrd i x s hi' h1⟩
    obtain⟨D0,hD0⟩:∃D0:DataW Unit,D0=.map ((es.toList.map (WideElems.rg Tryz.prog 9 R)).foldr DataW.insert []):=⟨_,rfl⟩;have hperm:=WideShapes.sorted_perm (es.toList.map (WideElems.rg Tryz.prog 9 R))
    have hDs:Maps.size D0=ks.length:=by
     rw[hD0];show(List.foldr DataW.insert [] _).length=_;rw[hperm.length_eq,hrg,fk3]
    have hDk:(strKeys D0).Perm (ce5 ks):=by
     rw[hD0];refine(hperm.map _).trans ?_;rw[hrg,List.map_map];exact List.Perm.refl _
    have hown:w.ownsMap Tryz.prog 9 R b1 es.size D0:=⟨es,es.size,k1,hfit,fl2 _,hD0⟩;have hmx:maxLen=9223372036854775807:=rfl;refine(da3 w b b1 es.size D0 R hbl ?_ hown (by rw[hDs];omega) (by rw[hDs];omega)).mono ?_
    ·simp only[World.cell?,g1];simp
    ·rintro e w' ⟨v,ss,rfl,hp,hrow,hnil,hb⟩;have hsi:=da6 (hp.trans hDk) hn;have hsl:ss.length=ks.length:=by rw[(hp.trans hDk).length_eq];simp[ce5]
     have hin:∀z∈ss.mergeSort (fun x y=>decide (x≤y)),z.length≤maxLen:=by
      intro z hz;have hz':z∈ce5 ks:=(hp.trans hDk).mem_iff.1 ((List.mergeSort_perm _ _).mem_iff.1 hz);obtain⟨s,h1,rfl⟩:=fl3.1 hz';rw[fs2];exact hs s h1
     have hD:(cx6 [] ks).map D.str=ce6 (ss.mergeSort fun x y=>decide (x≤y)):=by
      rw[←hsi];simp[toB,ce6]
     have hml2:(ss.mergeSort fun x y=>decide (x≤y)).length=ss.length:=List.length_mergeSort _;rw[hD];generalize ss.mergeSort (fun x y=>decide (x≤y))=T at*
     by_cases h0:ss=[]
     ·have hT:T=[]:=fu7 (by rw[hml2,h0];rfl);subst hT;obtain rfl:=hnil.2 h0;exact⟨_,F,σ,rfl,aa7.of_below hb fun k hk=>hk.1,fun _ h=>h,fun _ h=>.inl h,fun i p _ hp=>hp,(ab2.lend hi).ext (Ext.of_below hb hi.flt),Rd.slnil⟩
     ·have hv:v≠ .slice none 0 0:=fun h=>h0 (hnil.1 h)
      have hblk:∀k,v.ownBlock=some k→w.heap.size≤k:=fun k hk=>(hrow.lt k hk).1
      obtain⟨zc1,zc2⟩:=ce8 T
      obtain⟨g,cp,rfl,hob⟩:=aq1 (F:=F) (σ:=σ) (B:=fun _=>False) (xs:=ce6 T) (ownsRow_base_a hrow (fl9 _)) (fun k hk hh=>hh) hv (by simp[ce6,hml2]) zc1 zc2 (ce9 hin)
       (fun k hk hf=>by have:=hblk k hk;have:=hi.flt k hf;omega)
      have hge:=hblk g rfl;obtain⟨vs',q1,q2,q3,q4,q5,q6,q7,q8,-,q10⟩:=hob;have hgl:g<w'.heap.size:=(fs3.1 q1).1;have hE:Ext w F w' (fun k=>F k∨k=g):=⟨hb,fun _ h=>.inl h,fun k hk=>by rcases hk with h|rfl;exact .inl h;exact .inr hge,fun k hk=>by rcases hk with h|rfl;exact ft0 (hi.flt k h) hb.size;exact hgl⟩;refine⟨_,fun k=>F k∨k=g,σ,rfl,aa7.of_below hb fun k hk=>hk.1,fun _ h=>.inl h,fun k hk=>?_,fun i p _ hp=>hp,(ab2.lend hi).ext hE,?_⟩
      ·rcases hk with h|rfl
       ·exact .inl h
       ·exact .inr fun hh=>by have:=hh.1;omega
      ·have hex:∀i j,∃u,∀x cd,(ce6 T)[i]? =some x→x.cells[j]? =some cd→vs'[i*1+j]? =some u∧Rd w' F cd u:=by
        intro i j
        cases hx:(ce6 T)[i]? with
        |none=>exact⟨undef,fun x cd h=>by cases h⟩
        |some x=>
         cases hc:x.cells[j]? with
         |none=>exact⟨undef,fun x' cd h h'=>by cases h;rw[hc]at h';cases h'⟩
         |some cd=>
          obtain⟨u,r1,r2⟩:=q8 i x j cd hx hc;exact⟨u,fun x' cd' h h'=>by cases h;rw[hc]at h';cases h';exact⟨r1,r2⟩⟩
       show Rd w' (fun k=>F k∨k=g) (.sl (ce6 T)) (.slice (some ⟨g,0,none⟩) ss.length cp);rw[q3];refine .sl 1 (ce6 T) ⟨g,0,none⟩ cp (fun i j=>Classical.choose (hex i j)) Oa q5 (fun _=>.inr rfl) q6 q7 (fun i x j cd hx hc=>?_) (fun i x j cd hx hc=>?_)
       ·rw[aa2,aj1 q1,fo7];exact(Classical.choose_spec (hex i j) x cd hx hc).1
       ·exact(Classical.choose_spec (hex i j) x cd hx hc).2.mono (fun _ h=>.inl h) fun _ _=>rfl
end Go.Proofs.YtndgolmgaenlfaaGreatDoor
namespace Go.Proofs.YtndgolmgaenlfaaGreatDoor
set_option maxRecDepth 4000
open Go Go.Abs Go.Val Go.RowKit Go.Proofs.Tryz
attribute [local irreducible] go SGo an1 Ev au8 EvO EvS
theorem da8(v:V):bg5 (enc v)=5+v.s.size+bg6 (bn1 v):=by
 simp only[enc,bg5,bg6];omega
theorem da9(e:Ex):bg5 (by1 e)=4+bg5 (enc e.v)+e.nm.size+bg6 (bx9 e):=by
 rw[da8];simp only[by1,bg5,bg6];omega
theorem db0(e:Ex):9*nd e≤bg5 (by1 e):=by
 refine bz0 (P:=fun e=>9*nd e≤bg5 (by1 e)) (fun op v nm ds ks ih=>?_) e;rw[da9,da8,ci2]
 have key:∀l:List Ex,(∀x∈l,9*nd x≤bg5 (by1 x))→9*ndL l≤bg6 (by0 l):=by
  intro l
  induction l with
  |nil=>intro _;simp[ndL]
  |cons a r ihr=>
   intro h;have h1:=h a Oc;have h2:=ihr fun x hx=>h x (by simp[hx])
   simp only[ndL,by0];rw[bg6];have e:bg5 (.agg [.int a.op,.int a.v.k,.int a.v.n,.int a.v.d,.str a.v.s,.sl (bn1 a.v),.str a.nm,.bool a.ds,.sl (bx9 a)])=bg5 (by1 a):=rfl;omega
 have:=key ks ih;show 9*(ndL ks+1)≤4+(5+v.s.size+bg6 (bn1 v))+nm.size+bg6 (by0 ks);omega
theorem db1(e:Ex):dp e≤nd e:=by
 refine bz0 (P:=fun e=>dp e≤nd e) (fun op v nm ds ks ih=>?_) e;rw[ci7,ci2];show dpL ks+1≤ndL ks+1
 have key:∀l:List Ex,(∀x∈l,dp x≤nd x)→dpL l≤ndL l:=by
  intro l
  induction l with
  |nil=>intro _;simp[dpL]
  |cons a r ihr=>
   intro h;have h1:=h a Oc;have h2:=ihr fun x hx=>h x (by simp[hx])
   simp only[dpL,ndL];omega
 have:=key ks ih;omega
theorem db2(e:Ex):1≤nd e:=by rw[ci2];omega
theorem db3{e:Ex}{w:Bool}(h:cm8 e w=0):cm7 e w=0:=by
 cases hc:cm7 e w !=0 with
 |true=>have:=cn2 rfl hc;rw[h]at this;rw[this]at hc;cases hc
 |false=>simpa using hc
theorem db4{e:Ex}(h:cn6 e=0):cm8 e false=0:=by
 unfold cn6 at h
 cases h1:decide (dp e>24)with
 |true=>rw[h1]at h;simp at h
 |false=>
  rw[h1,cond_false]at h
  cases h2:decide (nd e>300)with
  |true=>rw[h2]at h;simp at h
  |false=>rw[h2,cond_false]at h;exact h
theorem db5{e:Ex}(h:cn6 e=0):dp e≤24∧nd e≤300∧cm8 e false=0:=by
 have hv:=db4 h;unfold cn6 at h
 cases h1:decide (dp e>24)with
 |true=>rw[h1]at h;simp at h
 |false=>
  rw[h1,cond_false]at h
  cases h2:decide (nd e>300)with
  |true=>rw[h2]at h;simp at h
  |false=>
   have:=of_decide_eq_false h1;have:=of_decide_eq_false h2;exact⟨by omega,by omega,hv⟩
theorem db6{e:Ex}(h1:dp e≤24)(h2:nd e≤300)(h3:cm8 e false=0):cn6 e=0:=by
 unfold cn6;rw[show decide (dp e>24)=false by simp;omega,show decide (nd e>300)=false by simp;omega,h3];rfl
theorem db7{op:Int}{v:V}{nm:ByteArray}{ds:Bool}{ks:List Ex}{w:Bool}(h:cm8 (.mk op v nm ds ks) w=0):∀x∈ks,cm8 x (w||op==24)=0:=by
 have h0:=db3 h;have h1:=cn1 (e:=.mk op v nm ds ks) (w:=w) h0;rw[h]at h1;exact cs3 h1.symm
def cstX(v:V):Ex:=.mk 1 v ⟨#[]⟩ false []
theorem db8{e:Ex}(h:cm7 e true=0):cm7 e false=0∧e.op≠24:=by
 unfold cm7 at h ⊢
 cases c1:(decide (e.op<1)||decide (e.op>24))||(!ch2 e|| !ch8 e)with
 |true=>rw[c1]at h;simp at h
 |false=>
 cases c2:(e.op==1&& !ci0 e.v)with
 |true=>rw[c1,c2]at h;simp at h
 |false=>
 cases c3:nlF e with
 |true=>rw[c1,c2,c3]at h;simp at h
 |false=>
 cases c4:e.op==24 with
 |true=>rw[c1,c2,c3,c4]at h;simp at h
 |false=>exact⟨rfl,by simpa using c4⟩
theorem db9{w:Bool}:∀{l:List Ex},(∀x∈l,cm8 x w=0)→cm9 l w=0
 |[],_=>rfl
 |x::r,h=>by
  rw[cm9,h x Oc];exact db9 fun y hy=>h y (by simp[hy])
theorem dc0(e:Ex):cm8 e true=0→cm8 e false=0:=by
 refine bz0 (P:=fun e=>cm8 e true=0→cm8 e false=0) (fun op v nm ds ks ih h=>?_) e;obtain⟨h1,h2⟩:=db8 (db3 h);have h3:=db7 h;rw[cn1 h1,show(false||(Ex.mk op v nm ds ks).op==24)=false by simpa using h2];exact db9 fun x hx=>ih x hx (by simpa using h3 x hx)
theorem dc1{e:Ex}{w:Bool}(h:cm8 e w=0):cm8 e false=0:=by
 cases w with
 |true=>exact dc0 e h
 |false=>exact h
theorem dc2{op:Int}{v:V}{nm:ByteArray}{ds:Bool}{ks:List Ex}(h:cn6 (.mk op v nm ds ks)=0):∀x∈ks,cn6 x=0:=by
 obtain⟨h1,h2,h3⟩:=db5 h;intro x hx;have d1:=ci8 hx;have d2:=ci3 hx;rw[ci7]at h1;rw[ci2]at h2;have h1:dpL ks+1≤24:=h1;have h2:ndL ks+1≤300:=h2;exact db6 Oa Oa (dc1 (db7 h3 x hx))
abbrev oXU(e:D):aa5:=.var 33 (.w (.d e))
theorem dc3:∀l:List Ex,l.length≤ndL l
 |[]=>fl2 _
 |a::r=>by
  have h1:=db2 a;have h2:=dc3 r;simp only[fk0,ndL];omega
attribute [local irreducible] RGo
abbrev dc4(m:Nat):aa5:=.var 198 (.w (.mp m))
abbrev dc5(a b:Nat):aa5:=.var 199 (.w (.clo 188 [.ptr a 0,.ptr b 0]))
abbrev dc6(ks:List ByteArray):aa5:=.map .string (mpU ks)
theorem dc7(ks:List ByteArray):EvS E 189 [.mp 0] [dc6 ks] (.clo 264 [.ptr 1 0]) [dc6 ks,dc4 0]:=by
 refine yn func189 ntmps189 fun _ _ _ _=>?_
 repeat'(first|refine yz ?_|refine ba6 rfl rfl rfl rfl rfl ?_|refine bb2 [0,1] rfl rfl rfl rfl rfl ?_)
 all_goals rfl
structure SVst(n:Nat) where
 i:Nat
 hi:i≤n
theorem dc8{ks:List Ex}{i:Nat}{x:Ex}(h:ks[i]? =some x)(K:List ByteArray):cz7 K (cy2 (ks.take (i+1)))=cz7 (cz7 K (cy2 (ks.take i))) (usX x):=by
 rw[cy6,cy6,fm8,h,fr2,da1];simp
theorem dc9{e:Ex}:Fit (by1 e)→∀s∈usX e,s.size≤maxLen:=by
 refine bz0 (P:=fun e=>Fit (by1 e)→∀s∈usX e,s.size≤maxLen) (fun op v nm ds ks ih hf s hs=>?_) e;obtain⟨-,-,h1,-,h2⟩:=by8 hf;rw[usX,fm1]at hs;rcases hs with hs|hs
 ·cases h:op==2 with
  |true=>
   rw[h,cond_true,fk8]at hs;subst hs;exact h1
  |false=>rw[h]at hs;cases hs
 ·rw[cy6,fq7]at hs;obtain⟨x,hx,hs⟩:=hs;exact ih x hx (h2 x hx) s hs
set_option maxHeartbeats 1000000 in
theorem dd0(e:Ex):nd e≤1000000→∀K:List ByteArray,EvS E 188 [.d (by1 e),.ptr 0 0,.ptr 1 0] [dc4 2,dc5 0 1,dc6 K] (.tup []) [dc4 2,dc5 0 1,dc6 (cz7 K (usX e))]:=by
 refine bz0 (P:=fun e=>nd e≤1000000→∀K:List ByteArray,EvS E 188 [.d (by1 e),.ptr 0 0,.ptr 1 0] [dc4 2,dc5 0 1,dc6 K] (.tup []) [dc4 2,dc5 0 1,dc6 (cz7 K (usX e))]) (fun op v nm ds ks ih hn K=>?_) e;rw[ci2]at hn;have hn':ndL ks+1≤1000000:=hn;have hle:(by0 ks).length=ks.length:=by7 ks;have hkl:=dc3 ks;obtain⟨vk,vn,vd,vS,vl⟩:=v;rw[usX,da1];show EvS E 188 [.d (.agg [.int op,.int vk,.int vn,.int vd,.str vS,.sl (bn2 vl),.str nm,.bool ds,.sl (by0 ks)]),.ptr 0 0,.ptr 1 0] _ _ _;generalize bn2 vl=VL;obtain⟨K1,hK1⟩:∃K1,K1=cz7 K (bif op==2 then [nm]else []):=⟨_,rfl⟩;rw[←hK1]
 cases c1:op==2 with
 |true=>
  rw[c1,cond_true]at hK1;have hK1:K1=cz1 K nm:=hK1;have hput:bi9 (.string nm) (.bool true) (mpU K)=mpU K1:=by rw[da5,hK1]
  refine yn func188 ntmps188 fun _ _ _ _=>?_
  repeat'(first|refine yz ?_|refine bk3 ?_)
  rw[hput];refine ac7 (α:=SVst ks.length) (fun p=>⟨[(1,.ptr 0 0),(2,.ptr 1 0),(3,.ptr 3 0),(13,.d (.sl (by0 ks))),(14,.d (.int (by0 ks).length)),(15,.d (.int p.i))],[dc4 2,dc5 0 1,dc6 (cz7 K1 (cy2 (ks.take p.i))),oXU (.agg [.int op,.int vk,.int vn,.int vd,.str vS,.sl VL,.str nm,.bool ds,.sl (by0 ks)])]⟩) (fun p=>ks.length-p.i) ⟨0,by omega⟩ (zle 4) ?_;rintro⟨i,hi⟩;dsimp only;rcases fj8 i ks.length with hlt|hge
  ·have g1:decide ((i:Int)<((by0 ks).length:Int))=true:=by rw[hle];simpa using hlt
   have hx0:=fj7 hlt;generalize ks[i]=x at hx0;have hx:(by0 ks)[(i:Int).toNat]? =some (by1 x):=by5 (by rw[fm2];exact hx0);have hm:=fj9 hx0;have hcx:=ih x hm (by have:=ci3 hm;omega) (cz7 K1 (cy2 (ks.take i)));rw[←dc8 hx0]at hcx
   repeat'(first|refine yz ?_|refine yi (by1 x) hx ?_|refine ba7 [0,1,2] rfl rfl rfl rfl (FnX.clo _ _) b188 (hcx) rfl rfl rfl rfl rfl ?_)
   refine ac1 ?_;exact⟨⟨i+1,by omega⟩,by dsimp only;omega,(zle 4)⟩
  ·have g1:decide ((i:Int)<((by0 ks).length:Int))=false:=by rw[hle];simp;omega
   rw[fl4 hge]
   repeat'(first|refine yz ?_|refine yo [0,1,2])
 |false=>
  rw[c1,cond_false]at hK1;have hK1:K1=K:=hK1;subst hK1;refine yn func188 ntmps188 fun _ _ _ _=>?_
  repeat'(refine yz ?_)
  refine ac7 (α:=SVst ks.length) (fun p=>⟨[(1,.ptr 0 0),(2,.ptr 1 0),(3,.ptr 3 0),(13,.d (.sl (by0 ks))),(14,.d (.int (by0 ks).length)),(15,.d (.int p.i))],[dc4 2,dc5 0 1,dc6 (cz7 K1 (cy2 (ks.take p.i))),oXU (.agg [.int op,.int vk,.int vn,.int vd,.str vS,.sl VL,.str nm,.bool ds,.sl (by0 ks)])]⟩) (fun p=>ks.length-p.i) ⟨0,by omega⟩ (zle 4) ?_;rintro⟨i,hi⟩;dsimp only;rcases fj8 i ks.length with hlt|hge
  ·have g1:decide ((i:Int)<((by0 ks).length:Int))=true:=by rw[hle];simpa using hlt
   have hx0:=fj7 hlt;generalize ks[i]=x at hx0;have hx:(by0 ks)[(i:Int).toNat]? =some (by1 x):=by5 (by rw[fm2];exact hx0);have hm:=fj9 hx0;have hcx:=ih x hm (by have:=ci3 hm;omega) (cz7 K1 (cy2 (ks.take i)));rw[←dc8 hx0]at hcx
   repeat'(first|refine yz ?_|refine yi (by1 x) hx ?_|refine ba7 [0,1,2] rfl rfl rfl rfl (FnX.clo _ _) b188 (hcx) rfl rfl rfl rfl rfl ?_)
   refine ac1 ?_;exact⟨⟨i+1,by omega⟩,by dsimp only;omega,(zle 4)⟩
  ·have g1:decide ((i:Int)<((by0 ks).length:Int))=false:=by rw[hle];simp;omega
   rw[fl4 hge]
   repeat'(first|refine yz ?_|refine yo [0,1,2])
theorem dd1(e:Ex)(hn:nd e≤1000000):Ev E 121 [by1 e] (.d (.sl ((cy3 e).map .str))):=Ev.fit fun hfit=>by
 have hv:=dd0 e hn [];have hl:=cy7 e;have hal:=da0 (usX e) []
 have hsz:∀s∈cz7 [] (usX e),s.size≤maxLen:=fun s hs=>by
  rw[cz8]at hs;rcases hs with h|h
  ·cases h
  ·exact dc9 (hfit (by1 e) Oc) s h
 have hs:=da7 198 (cz7 [] (usX e)) hsz (cz9 List.nodup_nil) (by simp only[fk4]at hal;omega)
 have hr:cx6 [] (cz7 [] (usX e))=cy3 e:=by
  refine cx5 (cx8 List.Pairwise.nil) (cy4 e) fun s=>?_
  rw[cx7,cy5,cz8];simp
 rw[hr]at hs;have hk:=dc7 (cz7 [] (usX e));refine ye1 func121 ntmps121 fun _ _ _=>?_
 repeat'(first|refine yz ?_|refine bj4 rfl rfl rfl rfl rfl rfl ?_|refine ba6 rfl rfl rfl rfl rfl ?_|refine ba7 [2,3,1] rfl rfl rfl rfl (FnX.clo _ _) b188 (hv) rfl rfl rfl rfl rfl ?_|refine yc [1] b189 (hk) ?_|refine yc [4,1] b109 (hs) ?_|exact zD)
attribute [local irreducible] PGo
def dd2(e:Ex)(cols:List ByteArray):Bool:=(cy3 e).all fun s=>bx6 cols s
def dd3(e:Ex)(cols:List ByteArray):Int:=bif cn6 e !=0 then cn6 e else bif !(dd2 e cols)then 6 else bif co7 e then 9 else 0
theorem dd4(cols:List ByteArray)(s:ByteArray):EvS E 122 [.d (.str s),.ptr 0 0] [ce4 cols] (.d (.bool (!bx6 cols s))) [ce4 cols]:=by
 have h:=ca3 cols s;refine yn func122 ntmps122 fun _ _ _ _=>?_
 repeat'(first|refine yz ?_|refine yp b60 h ?_|refine bb2 [0] rfl rfl rfl rfl rfl ?_)
 all_goals rfl
theorem dd5(cols l:List ByteArray)(hmax:l.length≤9223372036854775807):EvS E 187 [.d (.sl (l.map D.str)),.clo 122 [.ptr 0 0]] [ce4 cols] (.d (.int (ct5 (l.findIdx? fun s=> !bx6 cols s)))) [ce4 cols]:=by
 have hle:(l.map D.str).length=l.length:=Oc
 refine yn func187 ntmps187 fun _ _ _ _=>?_
 repeat'(refine yz ?_)
 refine ac7 (α:=SFc l fun s=> !bx6 cols s) (fun p=>⟨[(0,.d (.sl (l.map D.str))),(1,.clo 122 [.ptr 0 0]),(7,.d (.int (l.map D.str).length)),(8,.d (.int p.i))],[ce4 cols]⟩) (fun p=>l.length-p.i) ⟨0,by omega,fun j hj=>absurd hj Oa⟩ (zle 1) ?_;rintro⟨i,hi,ok⟩;dsimp only;rcases fj8 i l.length with hlt|hge
 ·have g1:decide ((i:Int)<((l.map D.str).length:Int))=true:=by rw[hle];simpa using hlt
  have hx0:=fj7 hlt;generalize l[i]=y at hx0;have hx:(l.map D.str)[((i:Nat):Int).toNat]? =some (.str y):=ct3 (f:=D.str) hx0;have h1:=dd4 cols y
  cases hc:bx6 cols y with
  |false=>
   rw[hc]at h1;rw[ct6 hx0 (show(!bx6 cols y)=true by rw[hc];rfl) ok]
   repeat'(first|refine yz ?_|refine yi (.str y) hx ?_|refine ba7 [0] rfl rfl rfl rfl (FnX.clo _ _) b122 (h1) rfl rfl rfl rfl rfl ?_|refine bb2 [0] rfl rfl rfl rfl rfl ?_)
   all_goals rfl
  |true=>
   rw[hc]at h1
   repeat'(first|refine yz ?_|refine yi (.str y) hx ?_|refine ba7 [0] rfl rfl rfl rfl (FnX.clo _ _) b122 (h1) rfl rfl rfl rfl rfl ?_)
   refine ac1 ?_;exact⟨⟨i+1,by omega,SFc.next hx0 (show(!bx6 cols y)=false by rw[hc];rfl) ok⟩,by dsimp only;omega,(zle 1)⟩
 ·have g1:decide ((i:Int)<((l.map D.str).length:Int))=false:=by rw[hle];simp;omega
  rw[ct7 fun j hj=>ok j Oa]
  repeat'(first|refine yz ?_|refine bb2 [0] rfl rfl rfl rfl rfl ?_)
  all_goals rfl
theorem dd6(cols l:List ByteArray)(hmax:l.length≤9223372036854775807):EvS E 120 [.d (.sl (l.map D.str)),.clo 122 [.ptr 0 0]] [ce4 cols] (.d (.bool (l.any fun s=> !bx6 cols s))) [ce4 cols]:=by
 have h:=dd5 cols l hmax;rw[←ct8];refine yn func120 ntmps120 fun _ _ _ _=>?_
 repeat'(first|refine yz ?_|refine yc [0] b187 (h) ?_|refine bb2 [0] rfl rfl rfl rfl rfl ?_)
 all_goals rfl
theorem dd7(cols l:List ByteArray):(!(l.any fun s=> !bx6 cols s))=l.all fun s=>bx6 cols s:=by
 induction l with
 |nil=>rfl
 |cons x r ih=>rw[fo4,fn8,←ih];cases bx6 cols x<;>simp
theorem dd8(e:Ex)(cols:List ByteArray)(hn:nd e≤1000000):Ev E 62 [by1 e,.sl (cols.map .str)] (.d (.bool (dd2 e cols))):=by
 have hu:=dd1 e hn;have hul:=cz0 e;have h:=dd6 cols (cy3 e) Oa;unfold dd2;rw[←dd7];refine ye2 func62 ntmps62 fun _ _ _=>?_
 repeat'(first|refine yz ?_|refine yp b121 hu ?_|refine ba6 rfl rfl rfl rfl rfl ?_|refine yc [1] b120 (h) ?_|exact zD)
theorem dd9(e:Ex)(cols:List ByteArray)(hd:dp e≤1000000)(hn:nd e≤1000000):Ev E 42 [by1 e,.sl (cols.map .str)] (.d (.int (dd3 e cols))):=by
 have hk:=cn7 e hd hn;have h1:=dd8 e cols hn;have h2:=cv4 e;unfold dd3;generalize dd2 e cols=kn at*;generalize co7 e=ha at*
 cases hc:cn6 e !=0 with
 |true=>
  rw[cond_true];generalize cn6 e=z at*;refine ye2 func42 ntmps42 fun _ _ _=>?_
  repeat'(first|refine yz ?_|refine yp b61 hk ?_|exact zD)
 |false=>
  rw[cond_false];have h0:cn6 e=0:=by simpa using hc
  rw[h0]at hk
  cases kn with
  |false=>
   refine ye2 func42 ntmps42 fun _ _ _=>?_
   repeat'(first|refine yz ?_|refine yp b61 hk ?_|refine yp b62 h1 ?_|exact zD)
  |true=>
   cases ha with
   |true=>
    refine ye2 func42 ntmps42 fun _ _ _=>?_
    repeat'(first|refine yz ?_|refine yp b61 hk ?_|refine yp b62 h1 ?_|refine yp b63 h2 ?_|exact zD)
   |false=>
    refine ye2 func42 ntmps42 fun _ _ _=>?_
    repeat'(first|refine yz ?_|refine yp b61 hk ?_|refine yp b62 h1 ?_|refine yp b63 h2 ?_|exact zD)
end Go.Proofs.YtndgolmgaenlfaaGreatDoor
namespace Go.Proofs.YtndgolmgaenlfaaGreatDoor
set_option maxRecDepth 4000
open Go Go.Abs Go.Val Go.RowKit Go.Proofs.Tryz
attribute [local irreducible] go SGo an1 Ev au8 EvO
def de0(a _b:V):Int:=bif !(Val.okV a)then 1 else bif a.k==0 then 0 else 1
theorem de1{a:V}(h:Val.okV a=true)(hk:a.k=0):a=bo3:=by
 obtain⟨k,n,d,s,l⟩:=a;obtain rfl:k=0:=hk;unfold Val.okV at h;rw[bu9 8 0 n d s l Od Od]at h;simp[bo5,s0,V.k,V.n,V.d,V.s,V.l]at h;obtain⟨⟨⟨h2,h3⟩,h4⟩,h1⟩:=h;subst h1 h2 h4
 have hs:s=⟨#[]⟩:=by
  apply ByteArray.ext;apply Array.toList_inj.1;have:=ByteArray.toList_eq s;rw[h3]at this;exact this.symm
 rw[hs];rfl
theorem de2(a:ByteArray):Ev E 305 [.str a] (.d (.bool false)):=by
 have h:(!(a.toList==a.toList))=false:=Oc
 rw[←h];refine ye1 func305 ntmps305 fun _ _ _=>?_
 exact Ok
theorem de3:Ev E 254 [.str ⟨#[]⟩,.str ⟨#[]⟩] (.d (.int 0)):=by
 have h1:Op.bytesLess (⟨#[]⟩:ByteArray).toList (⟨#[]⟩:ByteArray).toList=false:=Ob
 have h2:((⟨#[]⟩:ByteArray).toList==(⟨#[]⟩:ByteArray).toList)=true:=beq_self_eq_true _;have g2:(!(Op.bytesLess (⟨#[]⟩:ByteArray).toList (⟨#[]⟩:ByteArray).toList||(⟨#[]⟩:ByteArray).toList==(⟨#[]⟩:ByteArray).toList))=false:=by rw[h1,h2];rfl
 refine ye2 func254 ntmps254 fun _ _ _=>?_
 repeat'(first|refine yz ?_|refine yp b305 (de2 _) ?_|refine yx ?_|(refine yy ?_ ?_<;>intro _)|exact zD|exact zL)
structure SN0(n:Nat) where
 i:Nat
 hi:i≤n
theorem de4:Ev E 252 [.sl [.int 0,.int 0,.int 0]] (.d (.int 0)):=by
 refine ye1 func252 ntmps252 fun _ _ _=>?_
 repeat'(first|refine yz ?_|refine yx ?_|(refine yy ?_ ?_<;>intro _)|exact zD|exact zL)
 refine ac7 (α:=SN0 3) (fun p=>⟨[(3,.d (.int 0)),(6,.d (.sl [.int 0,.int 0,.int 0])),(7,.d (.int (([.int 0,.int 0,.int 0]:List D).length:Int))),(8,.d (.int p.i))],[]⟩) (fun p=>3-p.i) ⟨0,by omega⟩ (zle 0) ?_;rintro⟨i,hi⟩;dsimp only;rcases fj8 i 3 with hlt|hge
 ·have g1:=yT ((i:Int)<(([.int 0,.int 0,.int 0]:List D).length:Int)) (show(i:Int)<3 by omega)
  have hx:([.int 0,.int 0,.int 0]:List D)[(i:Int).toNat]? =some (.int 0):=by
   rw[fm2]
   match i,hlt with
   |0,_=>rfl
   |1,_=>rfl
   |2,_=>rfl
  have g2:((0:Int) !=0)=false:=rfl
  repeat'(first|refine yz ?_|refine yi (.int 0) hx ?_|refine yx ?_|(refine yy ?_ ?_<;>intro _)|exact zD|exact zL)
  refine ac1 ?_;exact⟨⟨i+1,by omega⟩,by dsimp only;omega,(zle 0)⟩
 ·have g1:=yF ((i:Int)<(([.int 0,.int 0,.int 0]:List D).length:Int)) (show ¬ (i:Int)<3 by omega)
  exact Ok
theorem de5:Ev E 255 [.sl [],.sl [],.imm (.func (.func 251) #[] #[])] (.d (.int 0)):=by
 have g1:decide (((0:Nat):Int)<(([]:List D).length:Int))=false:=rfl;have g2:decide ((([]:List D).length:Int)<(([]:List D).length:Int))=false:=rfl;refine ye3 func255 ntmps255 fun _ _ _=>?_
 repeat'(first|refine yz ?_|refine yx ?_|(refine yy ?_ ?_<;>intro _)|exact zD|exact zL)
 refine ac7 (α:=Unit) (fun _=>⟨[(0,.d (.sl [])),(1,.d (.sl [])),(2,.d (.imm (.func (.func 251) #[] #[]))),(11,.d (.sl [])),(12,.d (.int (([]:List D).length:Int))),(13,.d (.int ((0:Nat):Int)))],[]⟩) (fun _=>0) () (zle 0) ?_;rintro-
 exact Ok
def de6(k:Int):Int:=bif k==3 then 2 else bif k==7 then 9 else k
theorem de7(v:V):Ev E 301 [enc v] (.d (.int (de6 v.k))):=by
 unfold de6
 cases h1:v.k==3 with
 |true=>
  refine ye1 func301 ntmps301 fun _ _ _=>?_
  exact Ok
 |false=>
 cases h2:v.k==7 with
 |true=>
  refine ye1 func301 ntmps301 fun _ _ _=>?_
  exact Ok
 |false=>
  refine ye1 func301 ntmps301 fun _ _ _=>?_
  exact Ok
theorem de8:Ev E 251 [enc bo3,enc bo3] (.d (.int 0)):=by
 have ca:=de7 bo3;have hcc:=bw7 (de6 0) (de6 0);have hcn:=bw7 0 0;have hcs:=de3;have hcf:=de5;have hor:=de4;have h0:Lib.compareInt (de6 0) (de6 0)=0:=Od
 have h00:Lib.compareInt 0 0=0:=Od
 rw[h0]at hcc;rw[h00]at hcn;have h1:((0:Int) !=0)=false:=rfl;have h2:(de6 0==2)=false:=Od
 have ca:Ev E 301 [enc bo3] (.d (.int (de6 0))):=ca;refine ye2 func251 ntmps251 fun _ _ _=>?_
 repeat'(first|refine yz ?_|refine qP (d:=11) rfl rfl rfl rfl rfl rfl bs1 (ca) ?_|refine qP (d:=19) rfl rfl rfl rfl rfl rfl bs1 (ca) ?_|refine yp bs1 ca ?_|refine qP (d:=14) rfl rfl rfl rfl rfl rfl b253 (hcc) ?_|refine yp b253 hcn ?_|refine yp b254 hcs ?_|refine yp b255 hcf ?_|refine yp b252 hor ?_|refine yx ?_|(refine yy ?_ ?_<;>intro _)|exact zD|exact zL)
theorem de9(a:V)(h:Val.okV a=true)(hk:(a.k==0)=false):Ev E 251 [enc a,enc bo3] (.d (.int 1)):=by
 have ca:=de7 a;have cb:Ev E 301 [enc bo3] (.d (.int (de6 0))):=de7 bo3;have hcc:=bw7 (de6 a.k) (de6 0)
 have h0:Lib.compareInt (de6 a.k) (de6 0)=1:=by
  have hk':a.k≠0:=by simpa using hk
  rcases cb8 h with e|e|e|e|e|e|e|e|e
  ·exact absurd e hk'
  all_goals(rw[e];decide)
 rw[h0]at hcc;have h1:((1:Int) !=0)=true:=rfl;refine ye2 func251 ntmps251 fun _ _ _=>?_
 repeat'(first|refine yz ?_|refine qP (d:=11) rfl rfl rfl rfl rfl rfl bs1 (ca) ?_|refine yp bs1 cb ?_|refine yp b253 hcc ?_|refine yx ?_|(refine yy ?_ ?_<;>intro _)|exact zD|exact zL)
theorem df0(a b:V)(hb:b=bo3:=by rfl):Ev E 175 [enc a,enc b] (.d (.int (de0 a b))):=by
 subst hb;have va:=bv7 bx3 a;have vb:=bv7 bx3 bo3;rw[show Val.okV bo3=true by decide+kernel]at vb;unfold de0
 cases h1:Val.okV a with
 |true=>
  rw[h1]at va
  cases h2:a.k==0 with
  |true=>
   obtain rfl:=de1 h1 (by simpa using h2);have ho:=de8;refine ye2 func175 ntmps175 fun _ _ _=>?_
   repeat'(first|refine yz ?_|refine yp br3 vb ?_|refine yp b251 ho ?_|refine yx ?_|(refine yy ?_ ?_<;>intro _)|exact zD|exact zL)
  |false=>
   have ho:=de9 a h1 h2;refine ye2 func175 ntmps175 fun _ _ _=>?_
   repeat'(first|refine yz ?_|refine qP (d:=8) rfl rfl rfl rfl rfl rfl br3 (va) ?_|refine yp br3 vb ?_|refine yp b251 ho ?_|refine yx ?_|(refine yy ?_ ?_<;>intro _)|exact zD|exact zL)
 |false=>
  rw[h1]at va;refine ye2 func175 ntmps175 fun _ _ _=>?_
  repeat'(first|refine yz ?_|refine qP (d:=8) rfl rfl rfl rfl rfl rfl br3 (va) ?_|refine yp br3 vb ?_|refine yx ?_|(refine yy ?_ ?_<;>intro _)|exact zD|exact zL)
theorem df1(x:Int):Ev E 102 [.int x,.int x] (.d (.int 0)):=by
 have g1:decide (x<x)=false:=Oc
 have g2:decide (x>x)=false:=Oc
 refine ye2 func102 ntmps102 fun _ _ _=>?_
 exact Ok
theorem df2{x:Int}(h:x>0):Ev E 102 [.int x,.int 0] (.d (.int 1)):=by
 have g1:decide (x<0)=false:=Og
 have g2:decide (x>0)=true:=by simpa using h
 refine ye2 func102 ntmps102 fun _ _ _=>?_
 exact Ok
theorem df3:Ev E 165 [.str ⟨#[]⟩,.str ⟨#[]⟩] (.d (.int 0)):=by
 have h1:Op.bytesLess (⟨#[]⟩:ByteArray).toList (⟨#[]⟩:ByteArray).toList=false:=Ob
 have h2:((⟨#[]⟩:ByteArray).toList==(⟨#[]⟩:ByteArray).toList)=true:=beq_self_eq_true _;have g2:(!(Op.bytesLess (⟨#[]⟩:ByteArray).toList (⟨#[]⟩:ByteArray).toList||(⟨#[]⟩:ByteArray).toList==(⟨#[]⟩:ByteArray).toList))=false:=by rw[h1,h2];rfl
 refine ye2 func165 ntmps165 fun _ _ _=>?_
 exact Ok
theorem df4:Ev E 166 [.sl [],.sl []] (.d (.int 0)):=by
 have hi:Ev E 102 [.int (([]:List D).length:Int),.int (([]:List D).length:Int)] (.d (.int 0)):=df1 _;have g1:decide (((0:Nat):Int)<(([]:List D).length:Int))=false:=rfl;refine ye2 func166 ntmps166 fun _ _ _=>?_
 repeat'(first|refine yz ?_|refine yx ?_|(refine yy ?_ ?_<;>intro _)|exact zD|exact zL)
 refine ac7 (α:=Unit) (fun _=>⟨[(0,.d (.sl [])),(1,.d (.sl [])),(5,.d (.int ((0:Nat):Int)))],[]⟩) (fun _=>0) () (zle 0) ?_;rintro-
 repeat'(first|refine yz ?_|refine yp b102 hi ?_|refine yx ?_|(refine yy ?_ ?_<;>intro _)|exact zD|exact zL)
theorem df5:Ev E 101 [enc bo3,enc bo3] (.d (.int 0)):=by
 have h0:=df1 0;have hs:=df3;have hl:=df4;have g:((0:Int) !=0)=false:=rfl;refine ye2 func101 ntmps101 fun _ _ _=>?_
 repeat'(first|refine yz ?_|refine yp b102 h0 ?_|refine yp b165 hs ?_|refine yp b166 hl ?_|refine yx ?_|(refine yy ?_ ?_<;>intro _)|exact zD|exact zL)
def rcls(k:Int):Int:=bif k==0 then 0 else bif k==1 then 1 else bif k==2||k==3 then 2 else bif k==4 then 3 else bif k==5 then 4 else bif k==6 then 5 else bif k==8 then 6 else 7
theorem df6(k:Int):Ev E 103 [.int k] (.d (.int (rcls k))):=by
 unfold rcls
 cases h0:k==0 with
 |true=>
  refine ye1 func103 ntmps103 fun _ _ _=>?_
  exact Ok
 |false=>
 cases h1:k==1 with
 |true=>
  refine ye1 func103 ntmps103 fun _ _ _=>?_
  exact Ok
 |false=>
 cases h2:k==2 with
 |true=>
  refine ye1 func103 ntmps103 fun _ _ _=>?_
  exact Ok
 |false=>
 cases h3:k==3 with
 |true=>
  refine ye1 func103 ntmps103 fun _ _ _=>?_
  exact Ok
 |false=>
 cases h4:k==4 with
 |true=>
  refine ye1 func103 ntmps103 fun _ _ _=>?_
  exact Ok
 |false=>
 cases h5:k==5 with
 |true=>
  refine ye1 func103 ntmps103 fun _ _ _=>?_
  exact Ok
 |false=>
 cases h6:k==6 with
 |true=>
  refine ye1 func103 ntmps103 fun _ _ _=>?_
  exact Ok
 |false=>
 cases h8:k==8 with
 |true=>
  refine ye1 func103 ntmps103 fun _ _ _=>?_
  exact Ok
 |false=>
  refine ye1 func103 ntmps103 fun _ _ _=>?_
  exact Ok
theorem df7(a b:V)(hb:b=bo3:=by rfl):Ev E 52 [enc a,enc b] (.d (.int (de0 a b))):=by
 subst hb;have va:=bv8 a;have vb:=bv8 bo3;rw[show Val.okV bo3=true by decide+kernel]at vb;have rb:Ev E 103 [.int 0] (.d (.int 0)):=df6 0;unfold de0
 cases h1:Val.okV a with
 |false=>
  have hy:=bt4 false;rw[show tt false=0 from rfl]at hy;rw[h1]at va;refine ye2 func52 ntmps52 fun _ _ _=>?_
  repeat'(first|refine yz ?_|refine qP (d:=13) rfl rfl rfl rfl rfl rfl b99 (va) ?_|refine yp b99 vb ?_|refine yp b100 hy ?_|refine yx ?_|(refine yy ?_ ?_<;>intro _)|exact zD|exact zL)
 |true=>
  rw[h1]at va
  cases h2:a.k==0 with
  |true=>
   obtain rfl:=de1 h1 (by simpa using h2);have hn:=bw1 bo3;rw[show bp0 bo3=false by decide+kernel]at hn;have hi:=df1 0;have hf:=df5;have g:((0:Int) !=0)=false:=rfl;refine ye2 func52 ntmps52 fun _ _ _=>?_
   repeat'(first|refine yz ?_|refine yp b99 vb ?_|refine yp b103 rb ?_|refine yp b102 hi ?_|refine yp b104 hn ?_|refine yp b101 hf ?_|refine yx ?_|(refine yy ?_ ?_<;>intro _)|exact zD|exact zL)
  |false=>
   have hp:rcls a.k>0:=by
    have hk':a.k≠0:=by simpa using h2
    rcases cb8 h1 with e|e|e|e|e|e|e|e|e
    ·exact absurd e hk'
    all_goals(rw[e];decide)
   have hi:=df2 hp;have ra:=df6 a.k;have g:((1:Int) !=0)=true:=rfl;refine ye2 func52 ntmps52 fun _ _ _=>?_
   repeat'(first|refine yz ?_|refine qP (d:=13) rfl rfl rfl rfl rfl rfl b99 (va) ?_|refine yp b99 vb ?_|refine qP (d:=29) rfl rfl rfl rfl rfl rfl b103 (ra) ?_|refine yp b103 rb ?_|refine yp b102 hi ?_|refine yx ?_|(refine yy ?_ ?_<;>intro _)|exact zD|exact zL)
end Go.Proofs.YtndgolmgaenlfaaGreatDoor
namespace Go.Proofs.YtndgolmgaenlfaaGreatDoor
set_option maxRecDepth 4000
open Go Go.Abs Go.Val Go.Proofs.Tryz
attribute [local irreducible] go SGo an1 Ev au8 EvO EvS PGo RGo de0
theorem df8(l:List ByteArray):EvS E 110 [.d (.sl (l.map .str))] [] (.clo 178 [.ptr 0 0]) [ce4 l]:=by
 refine yn func110 ntmps110 fun _ _ _ _=>?_
 repeat'(first|refine yz ?_|refine ba6 rfl rfl rfl rfl rfl ?_|refine bb2 [0] rfl rfl rfl rfl rfl ?_)
 rfl
def df9(k:Int):Nat:=bif k==1 then 1 else bif k==2 then 1 else bif k==4 then 1 else bif k==3 then 3 else 0
theorem dg0(k:Int):Ev E 172 [.int k] (.d (.int (df9 k))):=by
 unfold df9;rcases ce3 k with rfl|rfl|rfl|rfl|⟨h1,h2,h3,h4⟩
 ·refine ye1 func172 ntmps172 fun _ _ _=>?_
  exact Ok
 ·refine ye1 func172 ntmps172 fun _ _ _=>?_
  exact Ok
 ·refine ye1 func172 ntmps172 fun _ _ _=>?_
  exact Ok
 ·refine ye1 func172 ntmps172 fun _ _ _=>?_
  exact Ok
 ·rw[h1,h2,h3,h4];refine ye1 func172 ntmps172 fun _ _ _=>?_
  exact Ok
def cntN(k:Int):Int:=bif df9 k==0 then-1 else(df9 k:Int)
theorem dg1(k:Int):Ev E 269 [.int k] (.d (.int (cntN k))):=by
 unfold cntN df9;rcases ce3 k with rfl|rfl|rfl|rfl|⟨h1,h2,h3,h4⟩
 ·refine ye1 func269 ntmps269 fun _ _ _=>?_
  exact Ok
 ·refine ye1 func269 ntmps269 fun _ _ _=>?_
  exact Ok
 ·refine ye1 func269 ntmps269 fun _ _ _=>?_
  exact Ok
 ·refine ye1 func269 ntmps269 fun _ _ _=>?_
  exact Ok
 ·rw[h1,h2,h3,h4];refine ye1 func269 ntmps269 fun _ _ _=>?_
  exact Ok
structure SMm(f:Int→Int→Int)(x:Int)(r:List Int) where
 i:Nat
 m:Int
 hi:i≤r.length
 hm:inR .i64 m
 ok:r.foldl f x=(r.drop i).foldl f m
theorem dg2(x:Int)(r:List Int):Ev E 173 [.sl (iL (x::r))] (.d (.int (r.foldl min x))):=Ev.fit fun hfit=>by
 obtain⟨hmax,hel⟩:=bx5 (hfit (.sl (iL (x::r))) Oc);have hxr:=(hel x Oc).int;have hle:=ce1 (x::r);simp only[fk0]at hmax hle;have g0:decide (((iL (x::r)).length:Int)<1)=false:=by rw[hle];simp;omega
 have h0:(iL (x::r))[(0:Int).toNat]? =some (.int x):=rfl;refine ye1 func173 ntmps173 fun _ _ _=>?_
 repeat'(first|refine yz ?_|refine yi (.int x) h0 ?_)
 refine ac7 (α:=SMm min x r) (fun p=>⟨[(0,.d (.sl (iL (x::r)))),(3,.d (.int p.m)),(4,.d (.int ((p.i+1:Nat):Int)))],[]⟩) (fun p=>r.length-p.i) ⟨0,x,by omega,hxr,rfl⟩ (zle 0) ?_;rintro⟨i,m,hi,hm,ok⟩;dsimp only;rcases fj8 i r.length with hlt|hge
 ·have g1:decide (((i+1:Nat):Int)<((iL (x::r)).length:Int))=true:=by rw[hle];simp;omega
  have hx0:=fj7 hlt;generalize r[i]=y at hx0;have hx:(iL (x::r))[((i+1:Nat):Int).toNat]? =some (.int y):=ce2 (by simpa using hx0);have hyr:=(hel y (by simp[fj9 hx0])).int
  repeat'(first|refine yz ?_|refine yi (.int y) hx ?_)
  refine ac1 ?_;refine⟨⟨i+1,min m y,hlt,?_,by rw[ok,bu4 hx0,fo0]⟩,by dsimp only;omega,(zle 0)⟩;simp only[inR,Int.min_def]at hm hyr ⊢;split<;>assumption
 ·have g1:decide (((i+1:Nat):Int)<((iL (x::r)).length:Int))=false:=by rw[hle];simp;omega
  rw[ok,fk5 hge]
  exact Ok
theorem dg3(x:Int)(r:List Int):Ev E 108 [.sl (iL (x::r))] (.d (.int (r.foldl max x))):=Ev.fit fun hfit=>by
 obtain⟨hmax,hel⟩:=bx5 (hfit (.sl (iL (x::r))) Oc);have hxr:=(hel x Oc).int;have hle:=ce1 (x::r);simp only[fk0]at hmax hle;have g0:decide (((iL (x::r)).length:Int)<1)=false:=by rw[hle];simp;omega
 have h0:(iL (x::r))[(0:Int).toNat]? =some (.int x):=rfl;refine ye1 func108 ntmps108 fun _ _ _=>?_
 repeat'(first|refine yz ?_|refine yi (.int x) h0 ?_)
 refine ac7 (α:=SMm max x r) (fun p=>⟨[(0,.d (.sl (iL (x::r)))),(3,.d (.int p.m)),(4,.d (.int ((p.i+1:Nat):Int)))],[]⟩) (fun p=>r.length-p.i) ⟨0,x,by omega,hxr,rfl⟩ (zle 0) ?_;rintro⟨i,m,hi,hm,ok⟩;dsimp only;rcases fj8 i r.length with hlt|hge
 ·have g1:decide (((i+1:Nat):Int)<((iL (x::r)).length:Int))=true:=by rw[hle];simp;omega
  have hx0:=fj7 hlt;generalize r[i]=y at hx0;have hx:(iL (x::r))[((i+1:Nat):Int).toNat]? =some (.int y):=ce2 (by simpa using hx0);have hyr:=(hel y (by simp[fj9 hx0])).int
  repeat'(first|refine yz ?_|refine yi (.int y) hx ?_)
  refine ac1 ?_;refine⟨⟨i+1,max m y,hlt,?_,by rw[ok,bu4 hx0,fo0]⟩,by dsimp only;omega,(zle 0)⟩;simp only[inR,Int.max_def]at hm hyr ⊢;split<;>assumption
 ·have g1:decide (((i+1:Nat):Int)<((iL (x::r)).length:Int))=false:=by rw[hle];simp;omega
  rw[ok,fk5 hge]
  exact Ok
theorem dg4:∀(r:List Int) (x:Int),decide (r.foldl min x<0)=(x::r).any fun v=>decide (v<0)
 |[],x=>by simp only[fq4,fo4,fp7,fr1];(try rfl)
 |y::r,x=>by
  rw[fo0,dg4 r (min x y),fo4,fo4,fo4,←Bool.or_assoc];congr 1;rw[fk9];simp only[decide_eq_true_eq,fn3];omega
theorem dg5(n:Int):∀(r:List Int) (x:Int),decide (r.foldl max x≥n)=(x::r).any fun v=>decide (v≥n)
 |[],x=>by simp only[fq4,fo4,fp7,fr1];(try rfl)
 |y::r,x=>by
  rw[fo0,dg5 n r (max x y),fo4,fo4,fo4,←Bool.or_assoc];congr 1;rw[fk9];simp only[decide_eq_true_eq,fn3];omega
def dg6:List ByteArray→Bool
 |[]=>true
 |[_]=>true
 |a::b::r=>Op.bytesLess a.toList b.toList&&dg6 (b::r)
theorem dg7:∀a b:List UInt8,(Op.bytesLess a b=true∧Op.bytesLess b a=false∧a≠b)∨(Op.bytesLess a b=false∧Op.bytesLess b a=true∧a≠b)∨(Op.bytesLess a b=false∧Op.bytesLess b a=false∧a=b)
 |[],[]=>.inr (.inr ⟨rfl,rfl,rfl⟩)
 |[],_::_=>.inl ⟨rfl,rfl,by simp⟩
 |_::_,[]=>.inr (.inl ⟨rfl,rfl,by simp⟩)
 |x::a,y::b=>by
  have ih:=dg7 a b;simp only[Op.bytesLess];rcases Nat.lt_trichotomy x.toNat y.toNat with h|h|h
  ·have h1:x<y:=h;have h2: ¬ y<x:=fun h'=>Nat.lt_asymm h h'
   have h3:x≠y:=fun e=>by subst e;omega
   have h4:(y==x)=false:=by rw[beq_eq_false_iff_ne];exact fun e=>h3 e.symm
   left;refine⟨by simp[h1],by simp[h2,h4],fun e=>h3 (List.cons.inj e).1⟩
  ·have e:x=y:=UInt8.toNat_inj.1 h;subst e;have h2: ¬ x<x:=fun h'=>fr9 _ h'
   simp only[h2,decide_false,beq_self_eq_true,fn0,fm9];rcases ih with⟨i1,i2,i3⟩|⟨i1,i2,i3⟩|⟨i1,i2,i3⟩
   ·exact .inl ⟨i1,i2,fun e=>i3 (List.cons.inj e).2⟩
   ·exact .inr (.inl ⟨i1,i2,fun e=>i3 (List.cons.inj e).2⟩)
   ·exact .inr (.inr ⟨i1,i2,by rw[i3]⟩)
  ·have h1:y<x:=h;have h2: ¬ x<y:=fun h'=>Nat.lt_asymm h h'
   have h3:x≠y:=fun e=>by subst e;omega
   have h4:(x==y)=false:=by rw[beq_eq_false_iff_ne];exact h3
   right;left;refine⟨by simp[h2,h4],by simp[h1],fun e=>h3 (List.cons.inj e).1⟩
theorem dg8(a b:ByteArray):(Op.bytesLess b.toList a.toList||b.toList==a.toList)= !Op.bytesLess a.toList b.toList:=by
 rcases dg7 a.toList b.toList with⟨h1,h2,h3⟩|⟨h1,h2,h3⟩|⟨h1,h2,h3⟩
 ·rw[h1,h2,show(b.toList==a.toList)=false by rw[beq_eq_false_iff_ne];exact fun e=>h3 e.symm];rfl
 ·rw[h1,h2];rfl
 ·rw[h1,h2,h3];simp
structure SRs(l:List ByteArray) where
 i:Nat
 hi:i+1≤l.length
 ok:dg6 l=dg6 (l.drop i)
theorem dg9{l:List ByteArray}{i:Nat}{a b:ByteArray}(ha:l[i]? =some a)(hb:l[i+1]? =some b):dg6 (l.drop i)=(Op.bytesLess a.toList b.toList&&dg6 (l.drop (i+1))):=by
 rw[bu4 ha,bu4 hb];rfl
theorem dh0{l:List ByteArray}{i:Nat}(h:i+1=l.length):dg6 (l.drop i)=true:=by
 obtain⟨a,ha⟩:∃a,l[i]? =some a:=⟨_,fj7 Oa⟩;rw[bu4 ha,fk5 Oa];rfl
theorem dh1(l:List ByteArray):Ev E 270 [.sl (l.map .str)] (.d (.bool (dg6 l))):=Ev.fit fun hfit=>by
 have hmax:=(bx5 (hfit (.sl (l.map .str)) Oc)).1;have hle:(l.map D.str).length=l.length:=Oc
 by_cases h0:l=[]
 ·subst h0;refine ye1 func270 ntmps270 fun _ _ _=>?_
  repeat'(refine yz ?_)
  refine ac7 (α:=Unit) (fun p=>⟨[(0,.d (.sl [])),(3,.d (.int 1))],[]⟩) (fun p=>0) () (zle 0) ?_;rintro-;have g1:decide ((1:Int)<(([]:List D).length:Int))=false:=rfl
  exact Ok
 have hp:=ft2.2 h0;refine ye1 func270 ntmps270 fun _ _ _=>?_
 repeat'(refine yz ?_)
 refine ac7 (α:=SRs l) (fun p=>⟨[(0,.d (.sl (l.map .str))),(3,.d (.int ((p.i+1:Nat):Int)))],[]⟩) (fun p=>l.length-p.i) ⟨0,by omega,rfl⟩ (zle 0) ?_;rintro⟨i,hi,ok⟩;dsimp only;rcases fj8 (i+1) l.length with hlt|hge
 ·have g1:decide (((i+1:Nat):Int)<((l.map D.str).length:Int))=true:=by rw[hle];simp;omega
  have ha0:=fj7 (show i<l.length by omega);have hb0:=fj7 hlt;generalize l[i]=a at ha0;generalize l[i+1]=b at hb0;have hb:=bx4 (f:=D.str) hb0
  have ha:(l.map D.str)[(((i+1:Nat):Int) -1).toNat]? =some (.str a):=by
   rw[show(((i+1:Nat):Int) -1)=(i:Int) by omega];exact bx4 (f:=D.str) ha0
  have g2:=dg8 a b;rw[ok,dg9 ha0 hb0]
  cases hc:Op.bytesLess a.toList b.toList with
  |true=>
   rw[hc]at g2
   repeat'(first|refine yz ?_|refine yi (.str b) hb ?_|refine yi (.str a) ha ?_)
   refine ac1 ?_;exact⟨⟨i+1,hlt,by rw[ok,dg9 ha0 hb0,hc];rfl⟩,by dsimp only;omega,(zle 0)⟩
  |false=>
   rw[hc]at g2
   repeat'(first|refine yz ?_|refine yi (.str b) hb ?_|refine yi (.str a) ha ?_|exact zD)
 ·have g1:decide (((i+1:Nat):Int)<((l.map D.str).length:Int))=false:=by rw[hle];simp;omega
  rw[ok,dh0 Oa]
  exact Ok
def nmE(s:ByteArray):Bool:=s.toList==(⟨#[]⟩:ByteArray).toList
def dh2(a:AT):Bool:=
 bif df9 a.k==0||a.vs.length !=df9 a.k then false else
 bif a.vs.any fun v=>decide (v<0)then false else
 bif (a.k !=3&&decide (a.ty.length>0))||((a.k !=1&&a.k !=2) && !nmE a.nm)then false else
 bif a.k==2 then bo9 a.v else dg6 a.ty&&de0 a.v bo3==0
abbrev oAT(a:AT):aa5:=.var 60 (.w (.d (cc6 a)))
structure SRt(l:List ByteArray) where
 i:Nat
 hi:i+1≤l.length∨l=[]
 ok:dg6 l=dg6 (l.drop i)
theorem dh3(a:AT):Ev E 107 [cc6 a] (.d (.bool (dh2 a))):=Ev.fit fun hfit=>by
 obtain⟨k,vs,nm,ty,v⟩:=a;have hft:=hfit (cc6 ⟨k,vs,nm,ty,v⟩) Oc;have hmax:=(bx5 (hft.aggs (.sl (ty.map .str)) Oc)).1;have hle:=ce1 vs;have hlt:(ty.map D.str).length=ty.length:=Oc
 have hpl:=bv9 bx3 v;have hor:=df0 v bo3;have hna:=dg0 k;rcases ce3 k with rfl|rfl|rfl|rfl|hk
 ·cases hl:vs.length==3 with
  |false=>
   have g1:(((iL vs).length:Int) !=3)=true:=by rw[hle];simp at hl ⊢;omega
   have ea:dh2 ⟨3,vs,nm,ty,v⟩=false:=by unfold dh2;simp[df9,bne,hl]
   rw[ea];refine ye1 func107 ntmps107 fun _ _ _=>?_
   repeat'(first|refine yz ?_|refine yp bq5 hna ?_|refine yx ?_|exact zD)
  |true=>
   have hl':vs.length=3:=by simpa using hl
   obtain⟨x,r,rfl⟩:=ft9 (fun h:vs=[]=>by rw[h]at hl';simp at hl');have g1:(((iL (x::r)).length:Int) !=3)=false:=by rw[hle,hl'];rfl
   have hmin:=dg2 x r;have hmn:=dg4 r x
   cases hm:decide (r.foldl min x<0)with
   |true=>
    have ea:dh2 ⟨3,x::r,nm,ty,v⟩=false:=by unfold dh2;rw[hm]at hmn;dsimp only;rw[←hmn,hl'];rfl
    rw[ea];refine ye1 func107 ntmps107 fun _ _ _=>?_
    repeat'(first|refine yz ?_|refine yp bq5 hna ?_|refine yp bq6 hmin ?_|refine yx ?_|exact zD)
   |false=>
    rw[hm]at hmn
    cases hn:nmE nm with
    |false=>
     have g3:(nm.toList==(⟨#[]⟩:ByteArray).toList)=false:=hn;have g3n:(!(nm.toList==(⟨#[]⟩:ByteArray).toList))=true:=by rw[g3];rfl
     have ea:dh2 ⟨3,x::r,nm,ty,v⟩=false:=by unfold dh2;dsimp only;rw[←hmn,hl',hn];rfl
     rw[ea];refine ye1 func107 ntmps107 fun _ _ _=>?_
     repeat'(first|refine yz ?_|refine yp bq5 hna ?_|refine yp bq6 hmin ?_|refine yx ?_|exact zD)
    |true=>
     have g3:(nm.toList==(⟨#[]⟩:ByteArray).toList)=true:=hn;have g3n:(!(nm.toList==(⟨#[]⟩:ByteArray).toList))=false:=by rw[g3];rfl
     have ea:dh2 ⟨3,x::r,nm,ty,v⟩=(dg6 ty&&de0 v bo3==0):=by unfold dh2;dsimp only;rw[←hmn,hl',hn];rfl
     rw[ea];refine ye1 func107 ntmps107 fun _ _ _=>?_
     repeat'(first|refine yz ?_|refine yp bq5 hna ?_|refine yp bq6 hmin ?_|refine yx ?_)
     refine ac7 (α:=SRt ty) (fun p=>⟨[(1,.ptr 0 0),(4,.d (.int ((p.i+1:Nat):Int)))],[oAT ⟨3,x::r,nm,ty,v⟩]⟩) (fun p=>ty.length-p.i) ⟨0,(by cases ty with|nil=>exact .inr rfl|cons _ _=>left;simp),rfl⟩ (zle 1) ?_;rintro⟨i,hi,ok⟩;dsimp only;rcases fj8 (i+1) ty.length with hlt2|hge
     ·have g4:decide (((i+1:Nat):Int)<((ty.map D.str).length:Int))=true:=by rw[hlt];simp;omega
      have ha0:=fj7 (show i<ty.length by omega);have hb0:=fj7 hlt2;generalize ty[i]=a at ha0;generalize ty[i+1]=b at hb0;have hb:=bx4 (f:=D.str) hb0
      have ha:(ty.map D.str)[(((i+1:Nat):Int) -1).toNat]? =some (.str a):=by
       rw[show(((i+1:Nat):Int) -1)=(i:Int) by omega];exact bx4 (f:=D.str) ha0
      have hnx:=dg9 ha0 hb0
      cases hc:Op.bytesLess a.toList b.toList with
      |true=>
       have hcn:(!Op.bytesLess a.toList b.toList)=false:=by rw[hc];rfl
       rw[hc,fn0]at hnx
       repeat'(first|refine yz ?_|refine yi (.str b) hb ?_|refine yi (.str a) ha ?_)
       refine ac1 ?_;exact⟨⟨i+1,.inl Oa,ok.trans hnx⟩,by dsimp only;omega,(zle 1)⟩
      |false=>
       have hcn:(!Op.bytesLess a.toList b.toList)=true:=by rw[hc];rfl
       rw[hc,fp0]at hnx;rw[ok,hnx]
       repeat'(first|refine yz ?_|refine yi (.str b) hb ?_|refine yi (.str a) ha ?_|exact zD)
     ·have g4:decide (((i+1:Nat):Int)<((ty.map D.str).length:Int))=false:=by rw[hlt];simp;omega
      have he:dg6 (ty.drop i)=true:=by
       rcases hi with hi|hi
       ·exact dh0 Oa
       ·rw[hi];simp[dg6]
      rw[ok,he,fn0]
      repeat'(first|refine yz ?_|refine yp b175 hor ?_|exact zD)
 ·cases hl:vs.length==1 with
  |false=>
   have g1:(((iL vs).length:Int) !=1)=true:=by rw[hle];simp at hl ⊢;omega
   have ea:dh2 ⟨1,vs,nm,ty,v⟩=false:=by unfold dh2;simp[df9,bne,hl]
   rw[ea];refine ye1 func107 ntmps107 fun _ _ _=>?_
   repeat'(first|refine yz ?_|refine yp bq5 hna ?_|refine yx ?_|exact zD)
  |true=>
   have hl':vs.length=1:=by simpa using hl
   obtain⟨x,r,rfl⟩:=ft9 (fun h:vs=[]=>by rw[h]at hl';simp at hl');have g1:(((iL (x::r)).length:Int) !=1)=false:=by rw[hle,hl'];rfl
   have hmin:=dg2 x r;have hmn:=dg4 r x
   cases hm:decide (r.foldl min x<0)with
   |true=>
    have ea:dh2 ⟨1,x::r,nm,ty,v⟩=false:=by unfold dh2;rw[hm]at hmn;dsimp only;rw[←hmn,hl'];rfl
    rw[ea];refine ye1 func107 ntmps107 fun _ _ _=>?_
    repeat'(first|refine yz ?_|refine yp bq5 hna ?_|refine yp bq6 hmin ?_|refine yx ?_|exact zD)
   |false=>
    rw[hm]at hmn
    cases hty:decide (ty.length>0)with
    |true=>
     have g2:decide (((ty.map D.str).length:Int)>0)=true:=by rw[hlt];simpa using hty
     have ea:dh2 ⟨1,x::r,nm,ty,v⟩=false:=by unfold dh2;dsimp only;rw[←hmn,hl',hty];rfl
     rw[ea];refine ye1 func107 ntmps107 fun _ _ _=>?_
     repeat'(first|refine yz ?_|refine yp bq5 hna ?_|refine yp bq6 hmin ?_|refine yx ?_|exact zD)
    |false=>
     have g2:decide (((ty.map D.str).length:Int)>0)=false:=by rw[hlt];simpa using hty
     have hty0:ty=[]:=by simpa using hty
     subst hty0;have ea:dh2 ⟨1,x::r,nm,[],v⟩=(dg6 [] &&de0 v bo3==0):=by unfold dh2;dsimp only;rw[←hmn,hl'];rfl
     rw[ea];refine ye1 func107 ntmps107 fun _ _ _=>?_
     repeat'(first|refine yz ?_|refine yp bq5 hna ?_|refine yp bq6 hmin ?_|refine yx ?_)
     refine ac7 (α:=Unit) (fun p=>⟨[(1,.ptr 0 0),(4,.d (.int 1))],[oAT ⟨1,x::r,nm,[],v⟩]⟩) (fun p=>0) () (zle 1) ?_;rintro-;have g4:decide ((1:Int)<(([]:List D).length:Int))=false:=rfl
     repeat'(first|refine yz ?_|refine yp b175 hor ?_|exact zD)
 ·cases hl:vs.length==1 with
  |false=>
   have g1:(((iL vs).length:Int) !=1)=true:=by rw[hle];simp at hl ⊢;omega
   have ea:dh2 ⟨2,vs,nm,ty,v⟩=false:=by unfold dh2;simp[df9,bne,hl]
   rw[ea];refine ye1 func107 ntmps107 fun _ _ _=>?_
   repeat'(first|refine yz ?_|refine yp bq5 hna ?_|refine yx ?_|exact zD)
  |true=>
   have hl':vs.length=1:=by simpa using hl
   obtain⟨x,r,rfl⟩:=ft9 (fun h:vs=[]=>by rw[h]at hl';simp at hl');have g1:(((iL (x::r)).length:Int) !=1)=false:=by rw[hle,hl'];rfl
   have hmin:=dg2 x r;have hmn:=dg4 r x
   cases hm:decide (r.foldl min x<0)with
   |true=>
    have ea:dh2 ⟨2,x::r,nm,ty,v⟩=false:=by unfold dh2;rw[hm]at hmn;dsimp only;rw[←hmn,hl'];rfl
    rw[ea];refine ye1 func107 ntmps107 fun _ _ _=>?_
    repeat'(first|refine yz ?_|refine yp bq5 hna ?_|refine yp bq6 hmin ?_|refine yx ?_|exact zD)
   |false=>
    rw[hm]at hmn
    cases hty:decide (ty.length>0)with
    |true=>
     have g2:decide (((ty.map D.str).length:Int)>0)=true:=by rw[hlt];simpa using hty
     have ea:dh2 ⟨2,x::r,nm,ty,v⟩=false:=by unfold dh2;dsimp only;rw[←hmn,hl',hty];rfl
     rw[ea];refine ye1 func107 ntmps107 fun _ _ _=>?_
     repeat'(first|refine yz ?_|refine yp bq5 hna ?_|refine yp bq6 hmin ?_|refine yx ?_|exact zD)
    |false=>
     have g2:decide (((ty.map D.str).length:Int)>0)=false:=by rw[hlt];simpa using hty
     have hty0:ty=[]:=by simpa using hty
     subst hty0;have ea:dh2 ⟨2,x::r,nm,[],v⟩=bo9 v:=by unfold dh2;dsimp only;rw[←hmn,hl'];rfl
     rw[ea];refine ye1 func107 ntmps107 fun _ _ _=>?_
     repeat'(first|refine yz ?_|refine yp bq5 hna ?_|refine yp bq6 hmin ?_|refine yp b174 hpl ?_|refine yx ?_|exact zD)
 ·cases hl:vs.length==1 with
  |false=>
   have g1:(((iL vs).length:Int) !=1)=true:=by rw[hle];simp at hl ⊢;omega
   have ea:dh2 ⟨4,vs,nm,ty,v⟩=false:=by unfold dh2;simp[df9,bne,hl]
   rw[ea];refine ye1 func107 ntmps107 fun _ _ _=>?_
   repeat'(first|refine yz ?_|refine yp bq5 hna ?_|refine yx ?_|exact zD)
  |true=>
   have hl':vs.length=1:=by simpa using hl
   obtain⟨x,r,rfl⟩:=ft9 (fun h:vs=[]=>by rw[h]at hl';simp at hl');have g1:(((iL (x::r)).length:Int) !=1)=false:=by rw[hle,hl'];rfl
   have hmin:=dg2 x r;have hmn:=dg4 r x
   cases hm:decide (r.foldl min x<0)with
   |true=>
    have ea:dh2 ⟨4,x::r,nm,ty,v⟩=false:=by unfold dh2;rw[hm]at hmn;dsimp only;rw[←hmn,hl'];rfl
    rw[ea];refine ye1 func107 ntmps107 fun _ _ _=>?_
    repeat'(first|refine yz ?_|refine yp bq5 hna ?_|refine yp bq6 hmin ?_|refine yx ?_|exact zD)
   |false=>
    rw[hm]at hmn
    cases hty:decide (ty.length>0)with
    |true=>
     have g2:decide (((ty.map D.str).length:Int)>0)=true:=by rw[hlt];simpa using hty
     have ea:dh2 ⟨4,x::r,nm,ty,v⟩=false:=by unfold dh2;dsimp only;rw[←hmn,hl',hty];rfl
     rw[ea];refine ye1 func107 ntmps107 fun _ _ _=>?_
     repeat'(first|refine yz ?_|refine yp bq5 hna ?_|refine yp bq6 hmin ?_|refine yx ?_|exact zD)
    |false=>
     have g2:decide (((ty.map D.str).length:Int)>0)=false:=by rw[hlt];simpa using hty
     have hty0:ty=[]:=by simpa using hty
     subst hty0
     cases hn:nmE nm with
     |false=>
      have g3:(nm.toList==(⟨#[]⟩:ByteArray).toList)=false:=hn;have g3n:(!(nm.toList==(⟨#[]⟩:ByteArray).toList))=true:=by rw[g3];rfl
      have ea:dh2 ⟨4,x::r,nm,[],v⟩=false:=by unfold dh2;dsimp only;rw[←hmn,hl',hn];rfl
      rw[ea];refine ye1 func107 ntmps107 fun _ _ _=>?_
      repeat'(first|refine yz ?_|refine yp bq5 hna ?_|refine yp bq6 hmin ?_|refine yx ?_|exact zD)
     |true=>
      have g3:(nm.toList==(⟨#[]⟩:ByteArray).toList)=true:=hn;have g3n:(!(nm.toList==(⟨#[]⟩:ByteArray).toList))=false:=by rw[g3];rfl
      have ea:dh2 ⟨4,x::r,nm,[],v⟩=(dg6 [] &&de0 v bo3==0):=by unfold dh2;dsimp only;rw[←hmn,hl',hn];rfl
      rw[ea];refine ye1 func107 ntmps107 fun _ _ _=>?_
      repeat'(first|refine yz ?_|refine yp bq5 hna ?_|refine yp bq6 hmin ?_|refine yx ?_)
      refine ac7 (α:=Unit) (fun p=>⟨[(1,.ptr 0 0),(4,.d (.int 1))],[oAT ⟨4,x::r,nm,[],v⟩]⟩) (fun p=>0) () (zle 1) ?_;rintro-;have g4:decide ((1:Int)<(([]:List D).length:Int))=false:=rfl
      repeat'(first|refine yz ?_|refine yp b175 hor ?_|exact zD)
 ·obtain⟨h3,h1,h2,h4⟩:=hk;have e0:df9 k=0:=by unfold df9;rw[h1,h2,h4,h3];rfl
  have ea:dh2 ⟨k,vs,nm,ty,v⟩=false:=by unfold dh2;dsimp only;rw[e0];rfl
  rw[e0]at hna;rw[ea];refine ye1 func107 ntmps107 fun _ _ _=>?_
  repeat'(first|refine yz ?_|refine yp bq5 hna ?_|exact zD)
def dh4(a:AT):Bool:=
 bif cntN a.k !=(a.vs.length:Int)|| !dg6 a.ty then false else
 bif (a.k !=3&&decide (a.ty.length>0))||((a.k !=1&&a.k !=2) && !nmE a.nm)then false else
 bif a.k==2 then bo9 a.v else de0 a.v bo3==0
theorem dh5(a:AT):Ev E 207 [cc6 a] (.d (.bool (dh4 a))):=by
 obtain⟨k,vs,nm,ty,v⟩:=a;have hle:=ce1 vs;have hlt:(ty.map D.str).length=ty.length:=Oc
 have h1:=dg1 k;have h2:=dh1 ty;have h3:=df7 v bo3;have h4:=bw0 v;refine ye1 func207 ntmps207 fun _ _ _=>?_
 repeat'(first|refine yz ?_|refine yp b269 h1 ?_|refine yp b270 h2 ?_|refine yp b271 bt3 ?_|refine yp b52 h3 ?_|refine yp b272 h4 ?_|(refine yy ?_ ?_<;>intro _)|(refine qV rfl ?_ ?_<;>intro _))
 all_goals(refine congrArg D.bool ?_;clear h1 h2 h3 h4;simp_all [dh4,nmE,fn2])
def dh6(vs:List Int)(n:Int):Bool:=vs.all fun v=> !(decide (v<0)||decide (v≥n))
structure SAf{α:Type}(l:List α)(f:α→Bool) where
 i:Nat
 hi:i≤l.length
 ok:l.all f=(l.drop i).all f
theorem dh7{α:Type}{l:List α}{f:α→Bool}{i:Nat}{x:α}(h:l[i]? =some x):(l.drop i).all f=(f x&&(l.drop (i+1)).all f):=by rw[bu4 h,fn8]
theorem dh8(a:AT)(n:Int):Ev E 208 [cc6 a,.int n] (.d (.bool (dh6 a.vs n))):=Ev.fit fun hfit=>by
 obtain⟨k,vs,nm,ty,v⟩:=a;have hmax:=(bx5 ((hfit (cc6 ⟨k,vs,nm,ty,v⟩) Oc).aggs (cc5 vs) Oc)).1;have hle:=ce1 vs;unfold dh6;refine ye2 func208 ntmps208 fun _ _ _=>?_
 repeat'(refine yz ?_)
 refine ac7 (α:=SAf vs fun v=> !(decide (v<0)||decide (v≥n))) (fun p=>⟨[(1,.d (.int n)),(2,.ptr 0 0),(5,.d (.int p.i))],[oAT ⟨k,vs,nm,ty,v⟩]⟩) (fun p=>vs.length-p.i) ⟨0,by omega,rfl⟩ (zle 1) ?_;rintro⟨i,hi,ok⟩;dsimp only at ok ⊢;rcases fj8 i vs.length with hlt|hge
 ·have g1:decide ((i:Int)<((iL vs).length:Int))=true:=by rw[hle];simpa using hlt
  have hx0:=fj7 hlt;generalize vs[i]=y at hx0;have hx:=ce2 hx0;rw[dh7 hx0]at ok;rw[ok]
  cases c1:decide (y<0)with
  |true=>
   repeat'(first|refine yz ?_|refine yi (.int y) hx ?_|refine yx ?_|exact zD)
  |false=>
   cases c2:decide (y≥n)with
   |true=>
    repeat'(first|refine yz ?_|refine yi (.int y) hx ?_|refine yx ?_|exact zD)
   |false=>
    repeat'(first|refine yz ?_|refine yi (.int y) hx ?_|refine yx ?_)
    refine ac1 ?_;exact⟨⟨i+1,by omega,by rw[ok,c1,c2];rfl⟩,by dsimp only;omega,(zle 1)⟩
 ·have g1:decide ((i:Int)<((iL vs).length:Int))=false:=by rw[hle];simp;omega
  rw[ok,fk5 hge]
  exact Ok
theorem dh9(s:ByteArray):Ev E 180 [.str s] (.d (.bool (!bz2 s))):=by
 have h:=bz7 s;refine ye1 func180 ntmps180 fun _ _ _=>?_
 repeat'(first|refine yz ?_|refine yp b179 h ?_|exact zD)
theorem di0{α:Type}{l:List α}{f:α→Bool}{i:Nat}{x:α}(hx:l[i]? =some x)(hc:f x=true)(h:∀j,j<i→∀y,l[j]? =some y→f y=false):l.findIdx? f=some i:=by
 have hi:=(fk2.1 hx).1;rw[fu5];refine⟨hi,?_,fun j hj=>?_⟩
 ·rw[fj7 hi]at hx
  cases hx
  exact hc
 ·have:=h j hj _ (fj7 Oa);simpa using this
theorem di1{α:Type}{l:List α}{f:α→Bool}(h:∀j,j<l.length→∀y,l[j]? =some y→f y=false):l.findIdx? f=none:=by
 rw[fu6];intro x hx;obtain⟨j,hj⟩:=fm0 hx;exact h j (fk2.1 hj).1 x hj
theorem di2{α:Type}{l:List α}{f:α→Bool}:decide (optI (l.findIdx? f)≥0)=l.any f:=by
 cases h:l.findIdx? f with
 |none=>
  rw[fu6]at h;have:l.any f=false:=by rw[fq2];intro x hx;simpa using h x hx
  rw[this];rfl
 |some i=>
  obtain⟨hi,h1,-⟩:=fu5.1 h;have:l.any f=true:=fs8.2 ⟨_,fq5 hi,h1⟩;rw[this];simp[optI]
structure SFi{α:Type}(l:List α)(f:α→Bool) where
 i:Nat
 hi:i≤l.length
 ok:∀j,j<i→∀y,l[j]? =some y→f y=false
theorem SFi.next{α:Type}{l:List α}{f:α→Bool}{i:Nat}{x:α}(hx:l[i]? =some x)(hc:f x=false)(h:∀j,j<i→∀y,l[j]? =some y→f y=false):∀j,j<i+1→∀y,l[j]? =some y→f y=false:=by
 intro j hj y hy;rcases Nat.lt_succ_iff_lt_or_eq.1 hj with h1|rfl
 ·exact h j h1 y hy
 ·rw[hx]at hy;cases hy;exact hc
theorem di3(fn:FuncId)(hb:an1 E fn)(f:ByteArray→Bool)(l:List ByteArray)(hf:∀x∈l,Ev E fn [.str x] (.d (.bool (f x)))):Ev E 187 [.sl (l.map .str),.imm (.func (.func fn) #[] #[])] (.d (.int (optI (l.findIdx? f)))):=Ev.fit fun hfit=>by
 have hmax:=(bx5 (hfit (.sl (l.map .str)) Oc)).1;have hle:(l.map D.str).length=l.length:=Oc
 refine ye2 func187 ntmps187 fun _ _ _=>?_
 repeat'(refine yz ?_)
 refine ac7 (α:=SFi l f) (fun p=>⟨[(0,.d (.sl (l.map .str))),(1,.d (.imm (.func (.func fn) #[] #[]))),(7,.d (.int (l.map D.str).length)),(8,.d (.int p.i))],[]⟩) (fun p=>l.length-p.i) ⟨0,by omega,fun j hj=>absurd hj Oa⟩ (zle 0) ?_;rintro⟨i,hi,ok⟩;dsimp only;rcases fj8 i l.length with hlt|hge
 ·have g1:decide ((i:Int)<((l.map D.str).length:Int))=true:=by rw[hle];simpa using hlt
  have hx0:=fj7 hlt;generalize l[i]=y at hx0;have hx:=bx4 (f:=D.str) hx0;have h:=hf y (fj9 hx0)
  cases hc:f y with
  |true=>
   rw[hc]at h;rw[di0 hx0 hc ok]
   repeat'(first|refine yz ?_|refine yi (.str y) hx ?_|refine yp hb h ?_|exact zD)
  |false=>
   rw[hc]at h
   repeat'(first|refine yz ?_|refine yi (.str y) hx ?_|refine yp hb h ?_)
   refine ac1 ?_;exact⟨⟨i+1,by omega,SFi.next hx0 hc ok⟩,by dsimp only;omega,(zle 0)⟩
 ·have g1:decide ((i:Int)<((l.map D.str).length:Int))=false:=by rw[hle];simp;omega
  rw[di1 fun j hj=>ok j Oa]
  exact Ok
theorem di4(fn:FuncId)(hb:an1 E fn)(f:ByteArray→Bool)(l:List ByteArray)(hf:∀x∈l,Ev E fn [.str x] (.d (.bool (f x)))):Ev E 120 [.sl (l.map .str),.imm (.func (.func fn) #[] #[])] (.d (.bool (l.any f))):=by
 have h:=di3 fn hb f l hf;rw[←di2];refine ye2 func120 ntmps120 fun _ _ _=>?_
 repeat'(first|refine yz ?_|refine yp b187 h ?_|exact zD)
def di5(a:AT):Bool:= !((a.k==1||a.k==2) && !bz2 a.nm) && !(a.ty.any fun t=> !bz2 t)
theorem di6(a:AT):Ev E 112 [cc6 a] (.d (.bool (di5 a))):=by
 obtain⟨k,vs,nm,ty,v⟩:=a;have h1:=bz7 nm;have h2:=di4 180 b180 (fun t=> !bz2 t) ty fun x _=>dh9 x
 refine ye1 func112 ntmps112 fun _ _ _=>?_
 repeat'(first|refine yz ?_|refine yp b179 h1 ?_|refine yp b120 h2 ?_|(refine yy ?_ ?_<;>intro _)|(refine qV rfl ?_ ?_<;>intro _))
 all_goals(refine congrArg D.bool ?_;clear h1 h2;simp_all [di5])
theorem di7(a:AT):Ev E 210 [cc6 a] (.d (.bool (di5 a))):=Ev.fit fun hfit=>by
 obtain⟨k,vs,nm,ty,v⟩:=a;have hmax:=(bx5 ((hfit (cc6 ⟨k,vs,nm,ty,v⟩) Oc).aggs (.sl (ty.map .str)) Oc)).1;have hlt:(ty.map D.str).length=ty.length:=Oc
 have h1:=bz8 nm;have hna:(!(ty.any fun t=> !bz2 t))=ty.all bz2:=by rw[List.not_any_eq_all_not];simp
 unfold di5;dsimp only;rw[hna];refine ye1 func210 ntmps210 fun _ _ _=>?_
 repeat'(refine yz ?_)
 refine ac7 (α:=SAf ty bz2) (fun p=>⟨[(1,.ptr 0 0),(3,.d (.int p.i))],[oAT ⟨k,vs,nm,ty,v⟩]⟩) (fun p=>ty.length-p.i) ⟨0,by omega,rfl⟩ (zle 1) ?_;rintro⟨i,hi,ok⟩;dsimp only at ok ⊢;rcases fj8 i ty.length with hlt2|hge
 ·have g1:decide ((i:Int)<((ty.map D.str).length:Int))=true:=by rw[hlt];simpa using hlt2
  have hx0:=fj7 hlt2;generalize ty[i]=y at hx0;have hx:=bx4 (f:=D.str) hx0;have h:=bz8 y;rw[dh7 hx0]at ok
  cases hc:bz2 y with
  |true=>
   rw[hc]at h
   repeat'(first|refine yz ?_|refine yi (.str y) hx ?_|refine yp bq1 h ?_)
   refine ac1 ?_;exact⟨⟨i+1,by omega,by rw[ok,hc];rfl⟩,by dsimp only;omega,(zle 1)⟩
  |false=>
   rw[hc]at h;rw[ok,hc,fp0,Bool.and_false]
   repeat'(first|refine yz ?_|refine yi (.str y) hx ?_|refine yp bq1 h ?_|exact zD)
 ·have g1:decide ((i:Int)<((ty.map D.str).length:Int))=false:=by rw[hlt];simp;omega
  rw[ok,fk5 hge,List.all_nil,Bool.and_true]
  repeat'(first|refine yz ?_|refine yp bq1 h1 ?_|(refine yy ?_ ?_<;>intro _))
  all_goals(refine congrArg D.bool ?_;clear h1;simp_all)
def twF(l:List ByteArray):Bool:=(List.range l.length).any fun i=>(List.range i).any fun k=>match l[i]?,l[k]? with|some a,some b=>a.toList==b.toList|_,_=>false
structure SRg(f:Nat→Bool)(n:Nat) where
 i:Nat
 hi:i≤n
 ok:(List.range i).any f=false
theorem di8{f:Nat→Bool}{i:Nat}(h:(List.range i).any f=false)(hc:f i=false):(List.range (i+1)).any f=false:=by
 rw[List.range_succ,List.any_append,h,fo4,hc];rfl
theorem di9{f:Nat→Bool}{i n:Nat}(hi:i<n)(hc:f i=true):(List.range n).any f=true:=fs8.2 ⟨i,fo6.2 hi,hc⟩
theorem dj0(l:List ByteArray):Ev E 209 [.sl (l.map .str)] (.d (.bool (twF l))):=Ev.fit fun hfit=>by
 have hmax:=(bx5 (hfit (.sl (l.map .str)) Oc)).1;have hle:(l.map D.str).length=l.length:=Oc
 obtain⟨f,hf⟩:∃f:Nat→Nat→Bool,f=fun i k=>match l[i]?,l[k]? with|some a,some b=>a.toList==b.toList|_,_=>false:=⟨_,rfl⟩
 have he:∀i k a b,l[i]? =some a→l[k]? =some b→f i k=(a.toList==b.toList):=fun i k a b ha hb=>by rw[hf];simp only[ha,hb]
 have et:twF l=(List.range l.length).any fun i=>(List.range i).any (f i):=by rw[hf];rfl
 rw[et];clear hf et;refine ye1 func209 ntmps209 fun _ _ _=>?_
 repeat'(refine yz ?_)
 refine ac7 (α:=SRg (fun i=>(List.range i).any (f i)) l.length) (fun p=>⟨[(0,.d (.sl (l.map .str))),(3,.d (.int p.i))],[]⟩) (fun p=>l.length-p.i) ⟨0,by omega,rfl⟩ (zle 0) ?_;rintro⟨i,hi,ok⟩;dsimp only at ok ⊢;rcases fj8 i l.length with hlt|hge
 ·have g1:decide ((i:Int)<((l.map D.str).length:Int))=true:=by rw[hle];simpa using hlt
  have hx0:=fj7 hlt;generalize l[i]=a at hx0;have hx:=bx4 (f:=D.str) hx0
  repeat'(refine yz ?_)
  refine ac7 (α:=SRg (f i) i) (fun p=>⟨[(0,.d (.sl (l.map .str))),(3,.d (.int i)),(4,.d (.int p.i))],[]⟩) (fun p=>i-p.i) ⟨0,by omega,rfl⟩ (zle 0) ?_;rintro⟨k,hk,ok2⟩;dsimp only at ok2 ⊢;rcases fj8 k i with hlt2|hge2
  ·have g2:decide ((k:Int)<(i:Int))=true:=by simpa using hlt2
   have hy0:=fj7 (show k<l.length by omega);generalize l[k]=b at hy0;have hy:=bx4 (f:=D.str) hy0
   cases hc:a.toList==b.toList with
   |true=>
    have h1:=he i k a b hx0 hy0;rw[hc]at h1;rw[di9 hlt (di9 hlt2 h1)]
    repeat'(first|refine yz ?_|refine yi (.str a) hx ?_|refine yi (.str b) hy ?_|exact zD)
   |false=>
    have h1:=he i k a b hx0 hy0;rw[hc]at h1
    repeat'(first|refine yz ?_|refine yi (.str a) hx ?_|refine yi (.str b) hy ?_)
    refine ac1 ?_;exact⟨⟨k+1,by omega,di8 ok2 h1⟩,by dsimp only;omega,(zle 0)⟩
  ·have g2:decide ((k:Int)<(i:Int))=false:=by simp;omega
   obtain rfl:k=i:=Oa
   repeat'(refine yz ?_)
   refine ac1 ?_;exact⟨⟨k+1,by omega,di8 ok ok2⟩,by dsimp only;omega,(zle 0)⟩
 ·have g1:decide ((i:Int)<((l.map D.str).length:Int))=false:=by rw[hle];simp;omega
  obtain rfl:i=l.length:=Oa
  rw[ok]
  exact Ok
def dj1(l:List AT)(v:Int):Bool:=l.any fun a=>a.vs.any fun y=>y==v
structure SNo{α:Type}(l:List α)(f:α→Bool) where
 i:Nat
 hi:i≤l.length
 ok:l.any f=(l.drop i).any f
theorem dj2{α:Type}{l:List α}{f:α→Bool}{i:Nat}{x:α}(h:l[i]? =some x):(l.drop i).any f=(f x||(l.drop (i+1)).any f):=by rw[bu4 h,fo4]
theorem dj3(l:List AT)(v:Int):Ev E 211 [.sl (l.map cc6),.int v] (.d (.bool (dj1 l v))):=Ev.fit fun hfit=>by
 obtain⟨hmax,hel⟩:=bx5 (hfit (.sl (l.map cc6)) Oc);have hle:(l.map cc6).length=l.length:=Oc
 unfold dj1;refine ye2 func211 ntmps211 fun _ _ _=>?_
 repeat'(refine yz ?_)
 refine ac7 (α:=SNo l fun a=>a.vs.any fun y=>y==v) (fun p=>⟨[(0,.d (.sl (l.map cc6))),(1,.d (.int v)),(5,.d (.int p.i))],[]⟩) (fun p=>l.length-p.i) ⟨0,by omega,rfl⟩ (zle 0) ?_;rintro⟨i,hi,ok⟩;dsimp only at ok ⊢;rcases fj8 i l.length with hlt|hge
 ·have g1:decide ((i:Int)<((l.map cc6).length:Int))=true:=by rw[hle];simpa using hlt
  have hx0:=fj7 hlt;generalize l[i]=a at hx0;have hx:=bx4 (f:=cc6) hx0;have hmx:=(bx5 ((hel a (fj9 hx0)).aggs (cc5 a.vs) Oc)).1;have hlv:=ce1 a.vs;rw[dj2 hx0]at ok
  repeat'(refine yz ?_)
  refine ac7 (α:=SNo a.vs fun y=>y==v) (fun p=>⟨[(0,.d (.sl (l.map cc6))),(1,.d (.int v)),(5,.d (.int i)),(6,.d (.int p.i))],[]⟩) (fun p=>a.vs.length-p.i) ⟨0,by omega,rfl⟩ (zle 0) ?_;rintro⟨j,hj,ok2⟩;dsimp only at ok2 ⊢;rcases fj8 j a.vs.length with hlt2|hge2
  ·have g2:decide ((j:Int)<((iL a.vs).length:Int))=true:=by rw[hlv];simpa using hlt2
   have hy0:=fj7 hlt2;generalize a.vs[j]=y at hy0;have hy:=ce2 hy0;rw[dj2 hy0]at ok2
   cases hc:y==v with
   |true=>
    rw[ok,ok2,hc,Bool.true_or,Bool.true_or]
    repeat'(first|refine yz ?_|refine yi (cc6 a) hx ?_|refine yi (.int y) hy ?_|exact zD)
   |false=>
    repeat'(first|refine yz ?_|refine yi (cc6 a) hx ?_|refine yi (.int y) hy ?_)
    refine ac1 ?_;exact⟨⟨j+1,by omega,by rw[ok2,hc,fm9]⟩,by dsimp only;omega,(zle 0)⟩
  ·have g2:decide ((j:Int)<((iL a.vs).length:Int))=false:=by rw[hlv];simp;omega
   rw[fk5 hge2,fp7]at ok2
   repeat'(first|refine yz ?_|refine yi (cc6 a) hx ?_)
   refine ac1 ?_;exact⟨⟨i+1,by omega,by rw[ok,ok2,fm9]⟩,by dsimp only;omega,(zle 0)⟩
 ·have g1:decide ((i:Int)<((l.map cc6).length:Int))=false:=by rw[hle];simp;omega
  rw[ok,fk5 hge]
  exact Ok
def bL(l:List Bool):List D:=l.map D.bool
theorem dj4(l:List Bool)(x:Bool):Ev E 181 [.sl (bL l),.bool x] (.d (.int (optI (l.findIdx? fun y=>x==y)))):=Ev.fit fun hfit=>by
 have hmax:=(bx5 (hfit (.sl (bL l)) Oc)).1;have hle:(bL l).length=l.length:=by simp[bL]
 refine ye2 func181 ntmps181 fun _ _ _=>?_
 repeat'(refine yz ?_)
 refine ac7 (α:=SFi l fun y=>x==y) (fun p=>⟨[(0,.d (.sl (bL l))),(1,.d (.bool x)),(7,.d (.int (bL l).length)),(8,.d (.int p.i))],[]⟩) (fun p=>l.length-p.i) ⟨0,by omega,fun j hj=>absurd hj Oa⟩ (zle 0) ?_;rintro⟨i,hi,ok⟩;dsimp only;rcases fj8 i l.length with hlt|hge
 ·have g1:decide ((i:Int)<((bL l).length:Int))=true:=by rw[hle];simpa using hlt
  have hx0:=fj7 hlt;generalize l[i]=y at hx0;have hx:(bL l)[(i:Int).toNat]? =some (.bool y):=bx4 (f:=D.bool) hx0
  cases hc:x==y with
  |true=>
   rw[di0 hx0 hc ok]
   repeat'(first|refine yz ?_|refine yi (.bool y) hx ?_|exact zD)
  |false=>
   repeat'(first|refine yz ?_|refine yi (.bool y) hx ?_)
   refine ac1 ?_;exact⟨⟨i+1,by omega,SFi.next hx0 hc ok⟩,by dsimp only;omega,(zle 0)⟩
 ·have g1:decide ((i:Int)<((bL l).length:Int))=false:=by rw[hle];simp;omega
  rw[di1 fun j hj=>ok j Oa]
  exact Ok
theorem dj5(l:List Bool)(x:Bool):Ev E 113 [.sl (bL l),.bool x] (.d (.bool (l.any fun y=>x==y))):=by
 have h:=dj4 l x;rw[←di2];refine ye2 func113 ntmps113 fun _ _ _=>?_
 repeat'(first|refine yz ?_|refine yp b181 h ?_|exact zD)
end Go.Proofs.YtndgolmgaenlfaaGreatDoor
namespace Go.Proofs.YtndgolmgaenlfaaGreatDoor
set_option maxRecDepth 4000
open Go Go.Abs Go.Val Go.RowKit Go.Sort Go.Proofs Go.Proofs.Tryz
theorem dj6:EvS E 109 [.clo 178 [.ptr 0 0]] [ce4 []] .nilS [ce4 []]:=by
 intro w F σ vs hi hl hr
 match vs,hl with
 |[v0],_=>
  obtain⟨us,rfl,ul,ur⟩:=hr 0 _ _ rfl rfl
  match us,ul with
  |[u0],_=>
   obtain⟨b,c,n,e1,rfl⟩:=ur 0 _ _ rfl rfl;obtain⟨cs,g1,g2,g3,g4,g5,g6⟩:=hi.obs 0 _ _ rfl e1
   match cs,g2 with
   |[sv],_=>
    have hrd:Rd w F (.sl (([]:List ByteArray).map .str)) sv:=g4 0 (.d (.sl (([]:List ByteArray).map .str))) sv rfl rfl;have hbl:b<w.heap.size:=(fs3.1 g1).1
    obtain⟨p,cap,rfl⟩:∃p cap,sv=.slice p 0 cap:=by
     rcases Rd.sl_inv hrd with⟨-,rfl⟩|⟨size,ad,cap,rfl,-⟩
     ·exact⟨_,_,rfl⟩
     ·exact⟨_,_,rfl⟩
    have hG:cd3 2 b [] w:=cd6 (p:=p) (cap:=cap) hbl (by simp only[World.cell?,g1];simp);refine(ce0 b [] Od Od w hG).mono ?_;rintro e w' ⟨v,rfl,hrow,hnil,hb⟩;have hv:v=.slice none 0 0:=hnil.2 rfl;exact⟨_,F,σ,rfl,aa7.of_below hb fun k hk=>hk.1,fun _ h=>h,fun _ h=>.inl h,fun i p hi hp=>hp,(ab2.lend hi).ext (Ext.of_below hb hi.flt),hv⟩
theorem dj7:Ev E 111 [.sl []] (.d (.sl [])):=by
 refine ye1 func111 ntmps111 fun _ _ _=>?_
 exact Ok
theorem dj8{α:Type}{p:α→Bool}:∀{l:List α},(l.filter p).length<l.length↔∃x∈l,p x=false
 |[]=>by simp
 |x::l=>by
  have ih:=dj8 (p:=p) (l:=l);have hle:=fr7 p l
  cases h:p x with
  |true=>
   rw[List.filter_cons_of_pos h,fk0,fk0,Nat.add_lt_add_iff_right,ih];constructor
   ·rintro⟨y,hy,hp⟩;exact⟨y,fs9 _ hy,hp⟩
   ·rintro⟨y,hy,hp⟩;rcases fk7.1 hy with rfl|hy
    ·rw[h]at hp;cases hp
    ·exact⟨y,hy,hp⟩
  |false=>
   rw[List.filter_cons_of_neg (by rw[h];decide),fk0];exact⟨fun _=>⟨x,ft8,h⟩,fun _=>by omega⟩
theorem dj9{zs:List (List UInt8)}(hs:zs.Pairwise fun x y=>x≤y):(∃j,j<zs.length∧Lib.keeps zs.toArray j=false)↔ ¬ zs.Nodup:=by
 have hg:∀j,j<zs.length→zs.toArray[j]! =zs[j]! :=fun j hj=>by simp
 constructor
 ·rintro⟨j,hj,hk⟩ hn;simp only[Lib.keeps,decide_eq_false_iff_not,not_or,Classical.not_not]at hk;obtain⟨h0,h1⟩:=hk;rw[hg j hj,hg (j-1) Oa,getElem!_pos zs j hj,getElem!_pos zs (j-1) Oa]at h1;rw[List.Nodup,List.pairwise_iff_getElem]at hn;exact hn (j-1) j Oa hj Oa h1.symm
 ·intro hn;rw[List.Nodup,List.pairwise_iff_getElem]at hn;simp only[Classical.not_forall]at hn;obtain⟨i,j,hi,hj,hij,he⟩:=hn;have he:zs[i]=zs[j]:=Classical.byContradiction fun h=>he h
  refine⟨i+1,by omega,?_⟩;simp only[Lib.keeps,decide_eq_false_iff_not,not_or];refine⟨by omega,fun h=>h ?_⟩;rw[hg (i+1) Oa,hg (i+1-1) Oa,getElem!_pos zs (i+1) Oa,getElem!_pos zs (i+1-1) Oa];have hp:=List.pairwise_iff_getElem.1 hs;have h1:zs[i+1-1]≤zs[i+1]:=hp _ _ _ _ Oa;refine List.le_antisymm ?_ h1
  have h2:zs[i+1]≤zs[j]:=by
   rcases fj8 (i+1) j with h|h
   ·exact hp _ _ _ _ h
   ·have:i+1=j:=by omega
    subst this;exact List.le_refl _
  show zs[i+1]≤zs[i];rw[he];exact h2
theorem dk0(l:List ByteArray):twF l=true↔ ¬ (ce5 l).Nodup:=by
 rw[List.Nodup,List.pairwise_iff_getElem];unfold twF;simp only[fs8,fo6];constructor
 ·rintro⟨i,hi,k,hk,h⟩ hn;rw[fj7 hi,fj7 (show k<l.length by omega)]at h;have hlen:(ce5 l).length=l.length:=by simp[ce5]
  refine hn k i Oa Oa hk ?_;have h':l[i].toList=l[k].toList:=by simpa using h
  simp only[ce5,List.getElem_map];rw[ByteArray.toList_eq,ByteArray.toList_eq]at h';exact h'.symm
 ·intro hn;simp only[Classical.not_forall]at hn;obtain⟨i,j,hi,hj,hij,he⟩:=hn;have he:(ce5 l)[i]=(ce5 l)[j]:=Classical.byContradiction fun h=>he h
  have hlen:(ce5 l).length=l.length:=by simp[ce5]
  refine⟨j,by omega,i,hij,?_⟩;rw[fj7 (show j<l.length by omega),fj7 (show i<l.length by omega)];simp only[ce5,List.getElem_map]at he;simp only[beq_iff_eq];rw[ByteArray.toList_eq,ByteArray.toList_eq];exact he.symm
theorem dk1(l:List ByteArray):decide (((ce6 (Lib.compact (sortU (ce5 l)))).length:Int)<((l.map D.str).length:Int))=twF l:=by
 have hlen:(sortU (ce5 l)).length=l.length:=by simp[sortU,ce5]
 have hsl:(sortU (ce5 l)).Pairwise fun x y=>x≤y:=by
  have:=List.pairwise_mergeSort (le:=fun x y:List UInt8=>decide (x≤y)) (fun a b c h1 h2=>by simp only[decide_eq_true_eq]at*;exact List.le_trans h1 h2) (fun a b=>by simp only[fn3,decide_eq_true_eq];exact List.le_total a b) (ce5 l);exact this.imp fun h=>by simpa using h
 have hnd:(sortU (ce5 l)).Nodup↔(ce5 l).Nodup:=(List.mergeSort_perm _ _).nodup_iff
 have hc:(Lib.compact (sortU (ce5 l))).length<l.length↔∃j,j<(sortU (ce5 l)).length∧Lib.keeps (sortU (ce5 l)).toArray j=false:=by
  unfold Lib.compact Lib.compactUpTo;rw[fk3];have:=dj8 (p:=Lib.keeps (sortU (ce5 l)).toArray) (l:=List.range (sortU (ce5 l)).length);rw[List.length_range,hlen]at this;rw[hlen];simpa[fo6]using this
 rw[fk9,decide_eq_true_eq,dk0,←hnd,←dj9 hsl,←hc];simp[ce6]
def dk2(n:Int)(a:AT):Bool:= !dh2 a||a.vs.any fun v=>decide (v≥n)
theorem dk3(n:Int):∀vs:List Int,dh6 vs n=(!(vs.any fun v=>decide (v<0)) && !(vs.any fun v=>decide (v≥n)))
 |[]=>rfl
 |v::r=>by
  have ih:=dk3 n r;unfold dh6 at ih ⊢;rw[fn8,fo4,fo4,ih]
  cases decide (v<0)<;>cases decide (v≥n)<;>cases(r.any fun v=>decide (v<0))<;>cases(r.any fun v=>decide (v≥n))<;>rfl
theorem dk4(n:Int)(a:AT):(!dh4 a|| !dh6 a.vs n)=dk2 n a:=by
 obtain⟨k,vs,nm,ty,v⟩:=a;unfold dk2 dh4 dh2 cntN;dsimp only;rw[dk3]
 have hc:((bif df9 k==0 then(-1:Int)else(df9 k:Int)) !=(vs.length:Int))=(df9 k==0||vs.length !=df9 k):=by
  cases h0:df9 k with
  |zero=>simp
  |succ m=>
   rw[show(m+1==0)=false from rfl,fm9];simp only[cond_false];rw[fk9];simp only[bne_iff_ne,ne_eq];omega
 rw[hc]
 have hty:((k !=3&&decide (ty.length>0))=false)→k≠3→dg6 ty=true:=by
  intro h hk
  have:ty=[]:=by
   have h3:(k !=3)=true:=by simpa using hk
   rw[h3]at h;simpa using h
  subst this;rfl
 cases h1:(df9 k==0||vs.length !=df9 k)
 ·cases h2:(vs.any fun v=>decide (v<0))
  ·cases h3:(vs.any fun v=>decide (v≥n))
   ·cases h4:(k !=3&&decide (ty.length>0))
    ·cases h5:((k !=1&&k !=2) && !nmE nm)
     ·cases h6:k==2
      ·cases h7:dg6 ty<;>cases h8:(de0 v bo3==0)<;>rfl
      ·rw[hty h4 (by simp at h6;omega)]
       cases h8:bo9 v<;>rfl
     ·cases dg6 ty<;>rfl
    ·cases dg6 ty<;>rfl
   ·cases dg6 ty<;>simp
  ·cases dg6 ty<;>simp
 ·simp
def dk5(n:Nat)(f:Nat→Bool):List Bool:=(List.range n).map f
def dk6(c:CJ):Int:=
 bif decide (c.vs.length>24)||decide (c.as.length>12)then 4 else
 bif c.as.any (dk2 c.vs.length)then 1 else
 bif twF c.vs then 7 else
 bif c.as.any (fun a=> !di5 a)then 6 else
 bif (List.range c.vs.length).any (fun j=> !dj1 c.as j)then 25 else 0
theorem dk7(n:Nat)(f:Nat→Bool)(v:Int)(h0:0≤v)(h1:v<n):(bL (dk5 n f)).set v.toNat (.bool true)=bL (dk5 n fun j=>f j||v==(j:Int)):=by
 unfold bL dk5;rw[←List.map_set];congr 1;apply List.ext_getElem
 ·simp
 ·intro i hi hj;simp only[List.length_set,fk3,List.length_range]at hi;rw[List.getElem_set];simp only[List.getElem_map,List.getElem_range];split
  ·rename_i h
   have:v=(i:Int):=Oa
   simp[this]
  ·rename_i h
   have:(v==(i:Int))=false:=by rw[beq_eq_false_iff_ne];omega
   rw[this,fr1]
theorem dk8(n:Nat)(f:Nat→Bool)(v:Int)(h0:0≤v)(h1:v<n):(bL (dk5 n f))[v.toNat]? =some (.bool (f v.toNat)):=by
 unfold bL dk5;rw[fk6,fk6,fq9 Oa];rfl
theorem dk9(n:Nat)(f:Nat→Bool):((dk5 n f).any fun y=>false==y)=(List.range n).any fun j=> !f j:=by
 unfold dk5;rw[List.any_map];congr 1
 funext j
 simp only[Function.comp]
 cases f j<;>rfl
theorem dl0(n:Nat):(List.replicate n (D.bool false))=bL (dk5 n fun _=>false):=by
 unfold bL dk5;apply List.ext_getElem
 ·simp
 ·intro i hi hj;simp
theorem dl1{l:List AT}{i:Nat}{a:AT}(h:l[i]? =some a)(v:Int):dj1 (l.take (i+1)) v=(dj1 (l.take i) v||a.vs.any fun y=>y==v):=by
 unfold dj1;have hi:=(fk2.1 h);rw[fm8,h,Option.toList_some,List.any_append,fo4,fp7,fr1]
theorem dl2{α:Type}{l:List α}{i:Nat}{x:α}{f:α→Bool}(h:l[i]? =some x):(l.take (i+1)).any f=((l.take i).any f||f x):=by
 rw[fm8,h,Option.toList_some,List.any_append,fo4,fp7,fr1]
theorem dl3{a:AT}(h:dh2 a=true):a.vs.length=df9 a.k∧df9 a.k≠0∧(a.vs.any fun v=>decide (v<0))=false:=by
 unfold dh2 at h
 cases h1:(df9 a.k==0||a.vs.length !=df9 a.k)with
 |true=>rw[h1]at h;cases h
 |false=>
  rw[h1]at h
  cases h2:(a.vs.any fun v=>decide (v<0))with
  |true=>rw[h2]at h;cases h
  |false=>
   rw[fn9]at h1;refine⟨?_,?_,rfl⟩
   ·simpa using h1.2
   ·simpa using h1.1
end Go.Proofs.YtndgolmgaenlfaaGreatDoor
namespace Go.Proofs.YtndgolmgaenlfaaGreatDoor
set_option maxRecDepth 4000
open Go Go.Abs Go.Val Go.RowKit Go.Proofs.Tryz
structure PB where
 op:Int
 cj:CJ
 cl:CL
 e:Ex
 nm:ByteArray
 it:List IT
 od:List SK
 sk:Int
 lm:Int
inductive Pl where
 |mk (b:PB) (ks:List Pl)
def Pl.b:Pl→PB|.mk b _=>b
def Pl.ks:Pl→List Pl|.mk _ ks=>ks
theorem dl4{P:Pl→Prop}(h:∀b ks,(∀x∈ks,P x)→P (.mk b ks))(p:Pl):P p:=
 Pl.rec (motive_1:=P) (motive_2:=fun l=>∀x∈l,P x) (fun b ks ih=>h b ks ih) (fun x hx=>by cases hx)
  (fun a r ha hr x hx=>by rcases fk7.1 hx with rfl|hx;exact ha;exact hr x hx) p
def dl5(b:PB)(K:List D):D:=.agg [.int b.op,.sl K,.sl (b.cj.vs.map .str),.sl (b.cj.as.map cc6),
 .int b.cl.k,.bool b.cl.opt,.bool b.cl.ds,.sl (b.cl.ps.map co2),.sl (by0 b.cl.wh),.int b.cl.e.op,.int b.cl.e.v.k,.int b.cl.e.v.n,.int b.cl.e.v.d,.str b.cl.e.v.s,.sl (bn1 b.cl.e.v),.str b.cl.e.nm,.bool b.cl.e.ds,.sl (bx9 b.cl.e),
 .str b.cl.nm,.sl (b.cl.it.map co3),.sl (b.cl.od.map co4),.int b.cl.sk,.int b.cl.lm,.sl (b.cl.st.map co5),.sl (b.cl.ns.map .str),
 .int b.e.op,.int b.e.v.k,.int b.e.v.n,.int b.e.v.d,.str b.e.v.s,.sl (bn1 b.e.v),.str b.e.nm,.bool b.e.ds,.sl (bx9 b.e),
 .str b.nm,.sl (b.it.map co3),.sl (b.od.map co4),.int b.sk,.int b.lm]
mutual
def dl6:Pl→D
 |.mk b ks=>dl5 b (dl7 ks)
def dl7:List Pl→List D
 |[]=>[]
 |p::r=>dl6 p::dl7 r
end
theorem dl8:∀l:List Pl,dl7 l=l.map dl6
 |[]=>rfl
 |p::r=>by rw[dl7,fm5,dl8 r]
theorem dl9(b:PB)(ks:List Pl):dl6 (.mk b ks)=dl5 b (ks.map dl6):=by rw[dl6,dl8]
def dm0(op:Int):Int:=bif op==1||op==2 then 0 else bif op==3||op==4 then 2 else bif decide (op≥5) &&decide (op≤11)then 1 else-1
def dm1(c:CL):Bool:=c.k==0&&(!c.opt&&(!c.ds&&(c.ps.length==0&&(c.wh.length==0&&(cq3 c.e&&(s0B c.nm&&(c.it.length==0&&(c.od.length==0&&(c.sk==0&&(c.lm==0&&(c.st.length==0&&c.ns.length==0)))))))))))
def fldF(b:PB):Bool:=
 (b.op==2||b.cj.vs.length==0&&b.cj.as.length==0) &&((bif b.op==5 then b.cl.k==1 else dm1 b.cl) &&((b.op==6||(b.op==11||cq3 b.e)) &&((b.op==11||s0B b.nm) &&(b.op==7||(b.op==8||b.it.length==0)))))
def endF(b:PB):Bool:=bif b.op==10 then decide (b.sk≥ -1) &&decide (b.lm≥ -1)else b.od.length==0&&(b.sk==0&&b.lm==0)
def dm2(b:PB)(n:Nat):Bool:=dm0 b.op==n&&(fldF b&&endF b)
def dm3(s:ByteArray):Bool:=match s.data.toList with
 |a::b::r=>a==95&&(b !=48&&(b::r).all fun c=>decide (48≤c) &&decide (c≤57))
 |_=>false
def dm4(a b:List ByteArray):List ByteArray:=a++b.filter fun s=> !(bx6 a s)
def dm5(l:List ByteArray)(s:ByteArray):List ByteArray:=bif s0B s||bx6 l s then l else l++ [s]
def dm6:List NP→List EP→List ByteArray
 |[],es=>es.map EP.vr
 |n::r,[]=>n.vr::r.map NP.vr
 |n::r,e::q=>n.vr::e.vr::dm6 r q
def dm7(l:List PA):List ByteArray:=l.flatMap fun p=>dm6 p.ns p.es++ [p.vr]
def dm8(l:List PA):List ByteArray:=(dm7 l).foldl dm5 []
abbrev CR:=List ByteArray × Int
def erR(e:Int):CR:=([],e)
def dm9(c:CJ):CR:=bif dk6 c !=0 then erR (dk6 c)else bif c.vs.all (fun s=>cm2 s||dm3 s)then(c.vs,0)else erR 6
def dn0(l:List PA):List Ex:=l.flatMap fun p=>(p.ns.flatMap fun n=>n.ps.map fun q=>q.e)++p.es.flatMap fun n=>n.ps.map fun q=>q.e
def dn1(c:CL)(cols:List ByteArray):CR:=
 bif cr0 c !=0 then erR (cr0 c)else
 bif !((dn0 c.ps).all fun e=>dd2 e cols)then erR 6 else
 bif !(c.wh.all fun e=>dd2 e (dm4 cols (dm8 c.ps)))then erR 6 else
 bif c.wh.any co7 then erR 9 else(dm4 cols (dm8 c.ps),0)
def dn2(grp:Bool)(x:IT)(cols out:List ByteArray):Int:=
 bif cn6 x.e !=0 then cn6 x.e else
 bif !(cm2 x.asn)|| !(dd2 x.e cols)then 6 else
 bif co7 x.e&& !(grp&&x.e.op==24)then 9 else
 bif bx6 out x.asn then 7 else 0
def dn3(grp:Bool)(cols:List ByteArray):List IT→List ByteArray→CR
 |[],out=>(out,0)
 |x::r,out=>bif dn2 grp x cols out !=0 then erR (dn2 grp x cols out)else dn3 grp cols r (out++ [x.asn])
def dn4(cols:List ByteArray):List SK→Int
 |[]=>0
 |x::r=>bif dd3 x.e cols !=0 then dd3 x.e cols else dn4 cols r
def dn5(b:PB)(cols:List ByteArray):Int:=
 bif cn6 b.e !=0 then cn6 b.e else
 bif !(cm2 b.nm)|| !(dd2 b.e cols)then 6 else
 bif co7 b.e then 9 else
 bif bx6 cols b.nm then 7 else 0
def dn6(e:Int)(cols:List ByteArray):CR:=bif e !=0 then erR e else(cols,0)
def dn7(b:PB)(cols:List (List ByteArray)):CR:=
 bif !(dm2 b cols.length)then erR 25 else
 bif b.op==1 then([],0)else
 bif b.op==2 then dm9 b.cj else
 bif b.op==3||b.op==4 then(dm4 (cols.getD 0 []) (cols.getD 1 []),0)else
 bif b.op==5 then dn1 b.cl (cols.getD 0 [])else
 bif b.op==6 then dn6 (dd3 b.e (cols.getD 0 [])) (cols.getD 0 [])else
 bif b.op==7||b.op==8 then(bif decide (b.it.length>24)then erR 4 else dn3 (b.op==8) (cols.getD 0 []) b.it [])else
 bif b.op==9 then(cols.getD 0 [],0)else
 bif b.op==10 then dn6 (dn4 (cols.getD 0 []) b.od) (cols.getD 0 [])else dn6 (dn5 b (cols.getD 0 [])) (cols.getD 0 []++ [b.nm])
mutual
def dn8:Pl→CR
 |.mk b ks=>bif (dn9 ks).2 !=0 then erR (dn9 ks).2 else dn7 b (dn9 ks).1
def dn9:List Pl→List (List ByteArray) × Int
 |[]=>([],0)
 |p::r=>bif (dn8 p).2 !=0 then([],(dn8 p).2)else bif (dn9 r).2 !=0 then([],(dn9 r).2)else((dn8 p).1::(dn9 r).1,0)
end
mutual
def dpP:Pl→Nat
 |.mk _ ks=>do0 ks+1
def do0:List Pl→Nat
 |[]=>0
 |p::r=>max (dpP p) (do0 r)
end
mutual
def szP:Pl→Nat
 |.mk _ ks=>do1 ks+1
def do1:List Pl→Nat
 |[]=>0
 |p::r=>szP p+do1 r
end
def do2(p:Pl):CR:=bif decide (dpP p>200)then erR 5 else bif decide (szP p>2000)then erR 4 else dn8 p
theorem do3:∀{l:List Pl} {x:Pl},x∈l→szP x≤do1 l
 |[],_,h=>by cases h
 |a::r,x,h=>by
  rw[do1];rcases fk7.1 h with rfl|h
  ·omega
  ·have:=do3 h;omega
theorem do4:∀{l:List Pl} {x:Pl},x∈l→dpP x≤do0 l
 |[],_,h=>by cases h
 |a::r,x,h=>by
  rw[do0];rcases fk7.1 h with rfl|h
  ·omega
  ·have:=do4 h;omega
theorem do5:∀l:List Pl,l.length≤do1 l
 |[]=>fl2 _
 |.mk b ks::r=>by
  have:=do5 r;rw[do1,szP,fk0];omega
theorem do6(p:Pl):dpP p≤szP p:=by
 refine dl4 (P:=fun p=>dpP p≤szP p) (fun b ks ih=>?_) p;rw[dpP,szP]
 have key:∀l:List Pl,(∀x∈l,dpP x≤szP x)→do0 l≤do1 l:=by
  intro l
  induction l with
  |nil=>intro _;exact fl2 _
  |cons a r ihr=>
   intro h;have h1:=h a Oc;have h2:=ihr fun x hx=>h x (by simp[hx])
   rw[do0,do1];omega
 have:=key ks ih;omega
end Go.Proofs.YtndgolmgaenlfaaGreatDoor
namespace Go.Proofs.YtndgolmgaenlfaaGreatDoor
set_option maxRecDepth 4000
open Go Go.Abs Go.Val Go.RowKit Go.Proofs.Tryz
def zeX:Ex:=.mk 0 bo3 ⟨#[]⟩ false []
def zCL:CL:=⟨0,false,false,[],[],zeX,⟨#[]⟩,[],[],0,0,[],[]⟩
theorem do7:∀{ks:List Pl},(dn9 ks).2=0→(∀p∈ks,(dn8 p).2=0)∧(dn9 ks).1=ks.map fun p=>(dn8 p).1
 |[],_=>⟨fun _ h=>(by cases h),rfl⟩
 |p::r,h=>by
  rw[dn9]at h ⊢
  cases c1:(dn8 p).2 !=0 with
  |true=>rw[c1,cond_true]at h;rw[show(dn8 p).2=0 from h]at c1;cases c1
  |false=>
   rw[c1,cond_false]at h;rw[cond_false]
   cases c2:(dn9 r).2 !=0 with
   |true=>rw[c2,cond_true]at h;rw[show(dn9 r).2=0 from h]at c2;cases c2
   |false=>
    have ih:=do7 (ks:=r) (by simpa using c2);rw[cond_false];refine⟨fun q hq=>?_,?_⟩
    ·rcases fk7.1 hq with rfl|hq
     ·simpa using c1
     ·exact ih.1 q hq
    ·rw[fm5,←ih.2]
theorem do8{b:PB}{ks:List Pl}(h:(dn8 (.mk b ks)).2=0):(∀p∈ks,(dn8 p).2=0)∧dn8 (.mk b ks)=dn7 b (ks.map fun p=>(dn8 p).1)∧dm2 b ks.length=true:=by
 rw[dn8]at h ⊢
 cases c1:(dn9 ks).2 !=0 with
 |true=>rw[c1,cond_true]at h;rw[show(dn9 ks).2=0 from h]at c1;cases c1
 |false=>
  have ih:=do7 (ks:=ks) (by simpa using c1);rw[c1,cond_false,ih.2]at h;rw[cond_false,ih.2];refine⟨ih.1,rfl,?_⟩;unfold dn7 at h;rw[fk3]at h
  cases c2:dm2 b ks.length with
  |true=>rfl
  |false=>rw[c2]at h;exact absurd (show(25:Int)=0 from h) Od
theorem do9{b:PB}{n:Nat}(h:dm2 b n=true):dm0 b.op=n:=by
 unfold dm2 at h;simp only[fl5,beq_iff_eq]at h;exact h.1
theorem dp0{p:Pl}(h:(do2 p).2=0):dpP p≤200∧szP p≤2000∧(dn8 p).2=0∧do2 p=dn8 p:=by
 unfold do2 at h ⊢
 cases c1:decide (dpP p>200)with
 |true=>rw[c1]at h;exact absurd (show(5:Int)=0 from h) Od
 |false=>
  cases c2:decide (szP p>2000)with
  |true=>rw[c1,c2]at h;exact absurd (show(4:Int)=0 from h) Od
  |false=>
   rw[c1,c2]at h;exact⟨by simpa using c1,by simpa using c2,h,rfl⟩
def opB(op:Int)(e:Ex)(nm:ByteArray):PB:=⟨op,⟨[],[]⟩,zCL,e,nm,[],[],0,0⟩
def jnQ(l:List Pl):Pl:=.mk (opB 3 zeX ⟨#[]⟩) l
theorem dp1{e:Ex}{c:List ByteArray}(h:dd3 e c=0):cn6 e=0∧dd2 e c=true∧co7 e=false:=by
 unfold dd3 at h
 cases c1:cn6 e !=0 with
 |true=>rw[c1,cond_true]at h;rw[h]at c1;cases c1
 |false=>
  rw[c1,cond_false]at h
  cases c2:dd2 e c with
  |false=>rw[c2]at h;exact absurd (show(6:Int)=0 from h) Od
  |true=>
   rw[c2]at h
   cases c3:co7 e with
   |true=>rw[c3]at h;exact absurd (show(9:Int)=0 from h) Od
   |false=>exact⟨by simpa using c1,rfl,rfl⟩
theorem dp2{e:Int}{c:List ByteArray}(h:(dn6 e c).2=0):e=0∧(dn6 e c).1=c:=by
 unfold dn6 at h ⊢
 cases c1:e !=0 with
 |true=>rw[c1,cond_true]at h;rw[show e=0 from h]at c1;cases c1
 |false=>exact⟨by simpa using c1,rfl⟩
theorem dp3(g:Bool)(cols:List ByteArray):∀(l:List IT) (out:List ByteArray),(dn3 g cols l out).2≠0→(dn3 g cols l out).1=[]
 |[],_,h=>absurd rfl h
 |x::r,out,h=>by
  rw[dn3]at h ⊢
  cases c:dn2 g x cols out !=0 with
  |true=>rfl
  |false=>rw[c,cond_false]at h;rw[cond_false];exact dp3 g cols r _ h
def yesX:Ex:=cstX (vBool true)
def unQ:Pl:=.mk (opB 1 zeX ⟨#[]⟩) []
end Go.Proofs.YtndgolmgaenlfaaGreatDoor
