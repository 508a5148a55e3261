/- A word between blanks in a text of words between blanks: it is one of them; The functions' numbers of operands and the aggregates' names, by both texts; Blank constants, numbers of operands, unused fields, by both texts; The size of an expression, by both texts; The depth of an expression, by both texts; Upper case and the reserved words, by both texts; The reserved words, by both texts; Words of the language and the checking of expressions, by both texts; The checking of expressions, by both texts; The checking of expressions by the reference; and what both checks answer; Clauses and queries:. Conditions: each part's own, as it says. -/
import Derived.Test.YtndgolmgaenlfaaGreatDoorGC
import Derived.Test.YtndgolmgaenlfaaGreatDoorMA
import Derived.Lib.IndexMore
import Derived.Test.YtndgolmgaenlfaaGreatDoorGB
set_option linter.unusedVariables false
set_option linter.unusedSimpArgs false
namespace Go.Proofs.YtndgolmgaenlfaaGreatDoor
set_option maxRecDepth 4000
open Go Go.Abs Go.Val Go.Proofs.Tryz
def cb3:List (List UInt8)→List UInt8
 |[]=>[32]
 |w::r=>32::(w++cb3 r)
theorem cb4:∀r,∃t,cb3 r=32::t
 |[]=>⟨[],rfl⟩
 |w::r=>⟨w++cb3 r,rfl⟩
theorem cb5(b:UInt8)(l sub:List UInt8):Lib.contains (b::l) sub=(sub.isPrefixOf (b::l)||Lib.contains l sub):=by
 unfold Lib.contains;have hg:=Lib.index_ge l sub;rw[show Lib.index (b::l) sub=if sub.isPrefixOf (b::l)then 0 else if Lib.index l sub== -1 then-1 else Lib.index l sub+1 from rfl]
 cases hp:sub.isPrefixOf (b::l)with
 |true=>simp
 |false=>
  simp only[Bool.false_eq_true,if_false,ex1]
  by_cases h:Lib.index l sub= -1
  ·simp[h]
  ·have hb:(Lib.index l sub== -1)=false:=by rw[beq_eq_false_iff_ne];exact h
   rw[hb];simp only[Bool.false_eq_true,if_false,decide_eq_decide];omega
theorem cb6(p:List UInt8):∀(w l:List UInt8),(32:UInt8) ∉ w→Lib.contains (w++l) (32::p)=Lib.contains l (32::p)
 |[],l,_=>rfl
 |b::w,l,h=>by
  simp only[es9,not_or]at h;have hb:((32:UInt8)==b)=false:=by rw[beq_eq_false_iff_ne];exact h.1
  rw[ew9,cb5,cb6 p w l h.2];have:(32::p).isPrefixOf (b::(w++l))=false:=by simp only[List.isPrefixOf,hb,ey7]
  rw[this,ex1]
theorem cb7:∀(U w t:List UInt8),(32:UInt8) ∉ U→(32:UInt8) ∉ w→(U++ [32]).isPrefixOf (w++32::t)=(U==w)
 |[],[],t,_,_=>by simp[List.isPrefixOf]
 |[],b::w,t,_,h=>by
  simp only[es9,not_or]at h;have hb:((32:UInt8)==b)=false:=by rw[beq_eq_false_iff_ne];exact h.1
  simp only[ew8,ew9,List.isPrefixOf,hb,ey7];rfl
 |a::U,[],t,h,_=>by
  simp only[es9,not_or]at h;have ha:(a==(32:UInt8))=false:=by rw[beq_eq_false_iff_ne];exact fun e=>h.1 e.symm
  simp only[ew8,ew9,List.isPrefixOf,ha,ey7];rfl
 |a::U,b::w,t,h,h'=>by
  simp only[es9,not_or]at h h';simp only[ew9,List.isPrefixOf];rw[cb7 U w t h.2 h'.2];rfl
theorem cb8(U:List UInt8)(hU:(32:UInt8) ∉ U):∀ws:List (List UInt8),(∀w∈ws,(32:UInt8) ∉ w)→Lib.contains (cb3 ws) (32::(U++ [32]))=ws.any fun w=>U==w
 |[],_=>by
  have:(32::(U++ [32])).isPrefixOf [(32:UInt8)]=false:=by cases U<;>simp[List.isPrefixOf]
  rw[cb3,cb5,this];simp[Lib.contains,Lib.index]
 |w::r,h=>by
  obtain⟨t,ht⟩:=cb4 r;have ih:=cb8 U hU r fun x hx=>h x (by simp[hx])
  rw[cb3,cb5,cb6 _ w _ (h w (by simp)),ih,ex5];congr 1;rw[ht];show((32:UInt8)==32&&(U++ [32]).isPrefixOf (w++32::t))=_;rw[cb7 U w t hU (h w (by simp))];rfl
attribute [local irreducible] Ev EvO EvS au7 an1 SGo go
def isS(s:ByteArray)(t:ByteArray):Bool:=s.toList==t.toList
def cb9(s:ByteArray):Bool:=isS s ⟨#[105,100]⟩||(isS s ⟨#[116,121,112,101]⟩||(isS s ⟨#[108,97,98,101,108,115]⟩||(isS s ⟨#[115,105,122,101]⟩||(isS s ⟨#[108,101,110,103,116,104]⟩||(isS s ⟨#[110,111,100,101,115]⟩||
 (isS s ⟨#[101,100,103,101,115]⟩||(isS s ⟨#[102,105,114,115,116]⟩||(isS s ⟨#[108,97,115,116]⟩||(isS s ⟨#[115,116,97,114,116]⟩||(isS s ⟨#[101,110,100]⟩||(isS s ⟨#[97,98,115]⟩||isS s ⟨#[116,101,120,116]⟩)))))))))))
def fun2(s:ByteArray):Bool:=isS s ⟨#[99,111,97,108,101,115,99,101]⟩
def cc0(s:ByteArray):Int:=bif cb9 s then 1 else bif fun2 s then 2 else 0
def cc1(s:ByteArray):Int:=bif cb9 s then 1 else bif fun2 s then 4 else 0
def cc2(s:ByteArray):Bool:=isS s ⟨#[99,111,117,110,116]⟩||(isS s ⟨#[115,117,109]⟩||(isS s ⟨#[109,105,110]⟩||(isS s ⟨#[109,97,120]⟩||(isS s ⟨#[97,118,103]⟩||isS s ⟨#[99,111,108,108,101,99,116]⟩))))
theorem cc3(s:ByteArray):Ev E 261 [.str s] (.tup [.int (cc0 s),.int (cc1 s)]):=by
 refine ye1 func261 ntmps261 fun _ _ _=>?_
 repeat'(first|refine yz ?_|(refine qV rfl ?_ ?_<;>intro _))
 all_goals simp_all [cc0,cc1,cb9,fun2,isS,ew6]
theorem cc4(s:ByteArray):Ev E 263 [.str s] (.d (.bool (cc2 s))):=by
 refine ye1 func263 ntmps263 fun _ _ _=>?_
 repeat'(first|refine yz ?_|(refine qV rfl ?_ ?_<;>intro _))
 all_goals(refine congrArg D.bool ?_;simp_all [cc2,isS])
def cc5(v:V):Bool:=v.k==0&&(v.n==0&&(v.d==0&&(s0 v.s&&l0 v)))
theorem cc6(v:V):Ev E 262 [enc v] (.d (.bool (cc5 v))):=by
 refine ye1 func262 ntmps262 fun _ _ _=>?_
 repeat'(first|refine yz ?_|(refine yy ?_ ?_<;>intro _))
 all_goals(refine congrArg D.bool ?_;simp_all [cc5,s0,l0])
def kn0(e:Ex):Int:=((bu0 e).length:Int)
def cc7(e:Ex):Bool:=
 bif e.op==1||e.op==2 then kn0 e==0 else
 bif e.op==3||(e.op==4||(e.op==5||(e.op==6||e.op==21)))then kn0 e==1 else
 bif e.op==22 then decide (kn0 e≤16)else
 bif e.op==23 then cc0 e.nm==0||(decide (kn0 e≥cc0 e.nm) &&decide (kn0 e≤cc1 e.nm))else
 bif e.op==24 then kn0 e==1||(kn0 e==0&&(isS e.nm ⟨#[99,111,117,110,116]⟩ && !e.ds))else kn0 e==2
theorem cc8(e:Ex):Ev E 183 [bu2 e] (.d (.bool (cc7 e))):=by
 have ha:=cc3 e.nm;refine ye1 func183 ntmps183 fun _ _ _=>?_
 repeat'(first|refine yz ?_|refine yp b261 ha ?_|(refine yy ?_ ?_<;>intro _)|(refine qV rfl ?_ ?_<;>intro _))
 all_goals(refine congrArg D.bool ?_;simp_all [cc7,kn0,isS,ew6]<;>first|rfl|(intro h;exfalso;omega)|(rw[show(cc0 e.nm==0)=false by rw[beq_eq_false_iff_ne];assumption];rfl))
def cc9(op:Int):Bool:=op==2||(op==3||(op==4||(op==23||op==24)))
def cd0(e:Ex):Bool:=(e.op==1||cc5 e.v) &&((cc9 e.op||isS e.nm ⟨#[]⟩) &&(e.op==24|| !e.ds))
theorem cd1(e:Ex):Ev E 184 [bu2 e] (.d (.bool (cd0 e))):=by
 have hb:=cc6 e.v;refine ye1 func184 ntmps184 fun _ _ _=>?_
 repeat'(first|refine yz ?_|refine yp b262 hb ?_|refine yx ?_|(refine yy ?_ ?_<;>intro _))
 all_goals(refine congrArg D.bool ?_;simp_all [cd0,cc9,isS])
def cd2(v:V):Bool:=cc5 v||((v.k==1||(v.k==2||v.k==4)) &&Val.okV v)
theorem cd3(v:V):Ev E 185 [enc v] (.d (.bool (cd2 v))):=by
 have hb:=cc6 v;have hv:=bs3 bt6 v;refine ye1 func185 ntmps185 fun _ _ _=>?_
 repeat'(first|refine yz ?_|refine yp b262 hb ?_|refine yp bp5 hv ?_|(refine yy ?_ ?_<;>intro _))
 all_goals(refine congrArg D.bool ?_;simp_all [cd2])
mutual
def nd:Ex→Nat
 |.mk _ _ _ _ l=>ndL l+1
def ndL:List Ex→Nat
 |[]=>0
 |x::r=>nd x+ndL r
end
theorem cd4(e:Ex):nd e=ndL e.ks+1:=by cases e;simp[nd,Ex.ks]
theorem cd5:∀{l:List Ex} {x:Ex},x∈l→nd x≤ndL l
 |[],x,h=>by simp at h
 |y::r,x,h=>by
  simp only[ndL];rcases es9.1 h with e|e
  ·rw[e];omega
  ·have:=cd5 e;omega
theorem cd6{l:List Ex}{i:Nat}{x:Ex}(h:l[i]? =some x):ndL (l.drop i)=nd x+ndL (l.drop (i+1)):=by
 rw[br4 h];rfl
structure SNd(l:List Ex) where
 i:Nat
 n:Nat
 hi:i≤l.length
 ok:ndL l+1=n+ndL (l.drop i)
theorem cd7(e:Ex):nd e≤1000000→Ev E 118 [bu2 e] (.d (.int (nd e))):=by
 refine bv1 (P:=fun e=>nd e≤1000000→Ev E 118 [bu2 e] (.d (.int (nd e)))) (fun op v nm ds ks ih hb=>?_) e;refine Ev.fit fun hfit=>?_
 obtain⟨-,-,-,hmax,-⟩:=bu9 (hfit (bu2 (.mk op v nm ds ks)) (by simp));simp only[Ex.ks]at hmax;have hlen:(bu0 (.mk op v nm ds ks)).length=ks.length:=bu7 _;have hnd:nd (.mk op v nm ds ks)=ndL ks+1:=cd4 _;rw[hnd]at hb ⊢;refine ye1 func118 ntmps118 fun _ _ _=>?_
 repeat'(refine yz ?_)
 refine ac7 (α:=SNd ks) (fun p=>⟨[(3,.d (.int p.n)),(7,.d (.sl (bu0 (.mk op v nm ds ks)))),(8,.d (.int (bu0 (.mk op v nm ds ks)).length)),(9,.d (.int p.i))],[]⟩) (fun p=>ks.length-p.i) ⟨0,1,by omega,by rw[fa5];omega⟩ (zle 0) ?_;rintro⟨i,n,hi,ok⟩;dsimp only;rcases es1 i ks.length with hlt|hge
 ·have hd1:decide ((i:Int)<((bu0 (.mk op v nm ds ks)).length:Int))=true:=by rw[hlen];simpa using hlt
  have hx0:=es0 hlt;generalize ks[i]=x at hx0;have hx:(bu0 (.mk op v nm ds ks))[(i:Int).toNat]? =some (bu2 x):=bu5 (e:=.mk op v nm ds ks) (by rw[ev6];exact hx0);have hdr:=cd6 hx0;have hm:=cd5 (es4 hx0);have hs:=ih x (es4 hx0) (by omega)
  repeat'(first|refine yz ?_|refine yi (bu2 x) hx ?_|refine yp b118 hs ?_)
  refine ac1 ?_;refine⟨⟨i+1,n+nd x,by omega,by omega⟩,by dsimp only;omega,?_⟩;dsimp only;rw[Int.natCast_add];exact(zle 0)
 ·have hd1:decide ((i:Int)<((bu0 (.mk op v nm ds ks)).length:Int))=false:=by rw[hlen];simp;omega
  have:ks.drop i=[]:=eu0 hge;rw[ok,this]
  repeat'(first|refine yz ?_|exact zD)
theorem cd8(e:Ex):nd e≤1000000→Ev E 21 [bu2 e] (.d (.int (nd e))):=by
 refine bv1 (P:=fun e=>nd e≤1000000→Ev E 21 [bu2 e] (.d (.int (nd e)))) (fun op v nm ds ks ih hb=>?_) e;refine Ev.fit fun hfit=>?_
 obtain⟨-,-,-,hmax,-⟩:=bu9 (hfit (bu2 (.mk op v nm ds ks)) (by simp));simp only[Ex.ks]at hmax;have hlen:(bu0 (.mk op v nm ds ks)).length=ks.length:=bu7 _;have hnd:nd (.mk op v nm ds ks)=ndL ks+1:=cd4 _;rw[hnd]at hb ⊢;refine ye1 func21 ntmps21 fun _ _ _=>?_
 repeat'(refine yz ?_)
 refine ac7 (α:=SNd ks) (fun p=>⟨[(1,.ptr 0 0),(3,.d (.int p.n)),(4,.d (.int p.i))],[.var 33 (.w (.d (bu2 (.mk op v nm ds ks))))]⟩) (fun p=>ks.length-p.i) ⟨0,1,by omega,by rw[fa5];omega⟩ (zle 1) ?_;rintro⟨i,n,hi,ok⟩;dsimp only;rcases es1 i ks.length with hlt|hge
 ·have hd1:decide ((i:Int)<((bu0 (.mk op v nm ds ks)).length:Int))=true:=by rw[hlen];simpa using hlt
  have hx0:=es0 hlt;generalize ks[i]=x at hx0;have hx:(bu0 (.mk op v nm ds ks))[(i:Int).toNat]? =some (bu2 x):=bu5 (e:=.mk op v nm ds ks) (by rw[ev6];exact hx0);have hdr:=cd6 hx0;have hm:=cd5 (es4 hx0);have hs:=ih x (es4 hx0) (by omega)
  repeat'(first|refine yz ?_|refine yi (bu2 x) hx ?_|refine yp b21 hs ?_)
  refine ac1 ?_;refine⟨⟨i+1,n+nd x,by omega,by omega⟩,by dsimp only;omega,?_⟩;dsimp only;rw[Int.natCast_add];exact(zle 1)
 ·have hd1:decide ((i:Int)<((bu0 (.mk op v nm ds ks)).length:Int))=false:=by rw[hlen];simp;omega
  have:ks.drop i=[]:=eu0 hge;rw[ok,this]
  repeat'(first|refine yz ?_|exact zD)
end Go.Proofs.YtndgolmgaenlfaaGreatDoor
namespace Go.Proofs.YtndgolmgaenlfaaGreatDoor
set_option maxRecDepth 4000
open Go Go.Abs Go.Val Go.Proofs.Tryz
attribute [local irreducible] go SGo an1 Ev au7 EvO EvS
mutual
def dp:Ex→Nat
 |.mk _ _ _ _ l=>dpL l+1
def dpL:List Ex→Nat
 |[]=>0
 |x::r=>max (dp x) (dpL r)
end
theorem cd9(e:Ex):dp e=dpL e.ks+1:=by cases e;simp[dp,Ex.ks]
theorem ce0:∀{l:List Ex} {x:Ex},x∈l→dp x≤dpL l
 |[],x,h=>by simp at h
 |y::r,x,h=>by
  simp only[dpL];rcases es9.1 h with e|e
  ·rw[e];omega
  ·have:=ce0 e;omega
theorem ce1{l:List Ex}{i:Nat}{x:Ex}(h:l[i]? =some x):dpL (l.drop i)=max (dp x) (dpL (l.drop (i+1))):=by
 rw[br4 h];rfl
structure SDp(l:List Ex) where
 i:Nat
 n:Nat
 hi:i≤l.length
 ok:dpL l=max n (dpL (l.drop i))
theorem ce2(e:Ex):dp e≤1000000→Ev E 117 [bu2 e] (.d (.int (dp e))):=by
 refine bv1 (P:=fun e=>dp e≤1000000→Ev E 117 [bu2 e] (.d (.int (dp e)))) (fun op v nm ds ks ih hb=>?_) e;refine Ev.fit fun hfit=>?_
 obtain⟨-,-,-,hmax,-⟩:=bu9 (hfit (bu2 (.mk op v nm ds ks)) (by simp));simp only[Ex.ks]at hmax;have hlen:(bu0 (.mk op v nm ds ks)).length=ks.length:=bu7 _;have hnd:dp (.mk op v nm ds ks)=dpL ks+1:=cd9 _;rw[hnd]at hb ⊢;refine ye1 func117 ntmps117 fun _ _ _=>?_
 repeat'(refine yz ?_)
 refine ac7 (α:=SDp ks) (fun p=>⟨[(3,.d (.int p.n)),(7,.d (.sl (bu0 (.mk op v nm ds ks)))),(8,.d (.int (bu0 (.mk op v nm ds ks)).length)),(9,.d (.int p.i))],[]⟩) (fun p=>ks.length-p.i) ⟨0,0,by omega,by rw[fa5];omega⟩ (zle 0) ?_;rintro⟨i,n,hi,ok⟩;dsimp only;rcases es1 i ks.length with hlt|hge
 ·have hd1:decide ((i:Int)<((bu0 (.mk op v nm ds ks)).length:Int))=true:=by rw[hlen];simpa using hlt
  have hx0:=es0 hlt;generalize ks[i]=x at hx0;have hx:(bu0 (.mk op v nm ds ks))[(i:Int).toNat]? =some (bu2 x):=bu5 (e:=.mk op v nm ds ks) (by rw[ev6];exact hx0);have hdr:=ce1 hx0;have hm:=ce0 (es4 hx0);have hs:=ih x (es4 hx0) (by omega)
  repeat'(first|refine yz ?_|refine yi (bu2 x) hx ?_|refine yp b117 hs ?_)
  refine ac1 ?_;refine⟨⟨i+1,max n (dp x),by omega,by omega⟩,by dsimp only;omega,?_⟩;dsimp only;rw[show((max n (dp x):Nat):Int)=max (n:Int) (dp x:Int) by omega];exact(zle 0)
 ·have hd1:decide ((i:Int)<((bu0 (.mk op v nm ds ks)).length:Int))=false:=by rw[hlen];simp;omega
  have:ks.drop i=[]:=eu0 hge;have hn:n=dpL ks:=by rw[ok,this];simp[dpL]
  subst hn
  repeat'(first|refine yz ?_|exact zD)
end Go.Proofs.YtndgolmgaenlfaaGreatDoor
namespace Go.Proofs.YtndgolmgaenlfaaGreatDoor
set_option maxRecDepth 4000
open Go Go.Abs Go.Val Go.RowKit Go.Proofs.Tryz
attribute [local irreducible] go SGo an1 Ev au7 EvO EvS
theorem ce3(i:Nat):Nat.blt i i=false:=by
 cases h:Nat.blt i i with
 |false=>rfl
 |true=>simp at h
def upN(n:Int):Int:=bif decide (n≥97) &&decide (n≤122)then n-32 else n
def ce4(s:ByteArray)(i:Nat):List D:=(List.range s.size).map fun j=>D.imm (.int .u8 (bif Nat.blt j i then upN (ag0 s j)else ag0 s j))
def upL(s:ByteArray)(i:Nat):List Int:=(List.range i).map fun j=>upN (ag0 s j)
def upF(s:ByteArray):ByteArray:=Go.Abs.strOf (upL s s.size)
theorem ce5(s:ByteArray)(i:Nat):(upL s i).length=i:=by simp[upL]
theorem ce6(s:ByteArray)(i:Nat):(ce4 s i).length=s.size:=by simp[ce4]
theorem ce7{s:ByteArray}{i j:Nat}(h:j<s.size):(ce4 s i)[j]? =some (D.imm (.int .u8 (bif Nat.blt j i then upN (ag0 s j)else ag0 s j))):=by
 rw[ce4,es6,ey5 h];rfl
theorem ce8(s:ByteArray):ce4 s 0=bb6 s:=by
 refine ez5 fun j=>?_
 rcases es1 j s.size with h|h
 ·rw[ce7 h,bb9 h];rfl
 ·rw[ev1 (by rw[ce6];exact h),ev1 (by rw[bb7];exact h)]
theorem ce9{s:ByteArray}{i:Nat}(h:i<s.size):(ce4 s i).set i (.imm (.int .u8 (upN (ag0 s i))))=ce4 s (i+1):=by
 refine ez5 fun j=>?_
 rcases es1 j s.size with hj|hj
 ·rw[ew7,ce7 hj,ce7 hj]
  by_cases e:i=j
  ·subst e;rw[if_pos rfl,if_pos (by rw[ce6];exact h),show Nat.blt i (i+1)=true by simp];rfl
  ·rw[if_neg e];have:Nat.blt j (i+1)=Nat.blt j i:=by rw[eu6];simp;omega
   rw[this]
 ·rw[ev1 (by rw[List.length_set,ce6];exact hj),ev1 (by rw[ce6];exact hj)]
theorem cf0{s:ByteArray}{i:Nat}(h:i<s.size)(hn:upN (ag0 s i)=ag0 s i):ce4 s i=ce4 s (i+1):=by
 rw[←ce9 h,hn];refine ez5 fun j=>?_
 rw[ew7]
 by_cases e:i=j
 ·subst e;rw[if_pos rfl,if_pos (by rw[ce6];exact h),ce7 h,ce3];rfl
 ·rw[if_neg e]
theorem cf1(s:ByteArray):ce4 s s.size=(upL s s.size).map fun n=>.imm (.int .u8 n):=by
 refine ez5 fun j=>?_
 rcases es1 j s.size with hj|hj
 ·rw[ce7 hj,upL,List.map_map,es6,ey5 hj,show Nat.blt j s.size=true by simpa using hj];rfl
 ·rw[ev1 (by rw[ce6];exact hj),ev1 (by rw[es7,ce5];exact hj)]
structure SUp(s:ByteArray) where
 i:Nat
 hi:i≤s.size
set_option maxHeartbeats 1000000 in
theorem cf2(s:ByteArray):Ev E 318 [.str s] (.d (.str (upF s))):=Ev.fit fun hfit=>by
 have hs:=(hfit (.str s) (by simp)).str;have hlen:(bb6 s).length=s.size:=bb7 s;refine ye1 func318 ntmps318 fun _ _ _=>?_
 repeat'(first|refine yz ?_|refine bc5 rfl rfl rfl rfl rfl rfl rfl rfl ?_)
 rw[hlen,←ce8];refine ac7 (α:=SUp s) (fun p=>⟨[(3,.own 0),(8,.own 0),(9,.d (.int s.size)),(10,.d (.int p.i))],[.mrow 5 1 (ce4 s p.i)]⟩) (fun p=>s.size-p.i) ⟨0,by omega⟩ (zle 1) ?_;rintro⟨i,hi⟩;dsimp only;have hrl:=ce6 s i;rcases es1 i s.size with hlt|hge
 ·have hd1:decide ((i:Int)<(s.size:Int))=true:=by simpa using hlt
  have hti:(i:Int).toNat=i:=ev6 i;have hx:(ce4 s i)[(i:Int).toNat]? =some (.imm (.int .u8 (ag0 s i))):=by rw[hti,ce7 hlt,ce3];rfl
  have hb:=bv6 s i hlt
  cases h1:decide (ag0 s i≥97)with
  |false=>
   have hn:upN (ag0 s i)=ag0 s i:=by unfold upN;rw[h1];rfl
   repeat'(first|refine yz ?_|refine bc8 rfl rfl rfl rfl rfl rfl rfl rfl (by constructor<;>first|omega|(simp;omega)|decide) ?_|refine bc9 _ rfl rfl rfl rfl rfl rfl hx rfl ?_|refine yx ?_)
   refine ac1 ?_;refine⟨⟨i+1,by omega⟩,by dsimp only;omega,?_⟩;rw[cf0 hlt hn];exact(zle 1)
  |true=>
   cases h2:decide (ag0 s i≤122)with
   |false=>
    have hn:upN (ag0 s i)=ag0 s i:=by unfold upN;rw[h1,h2];rfl
    repeat'(first|refine yz ?_|refine bc8 rfl rfl rfl rfl rfl rfl rfl rfl (by constructor<;>first|omega|(simp;omega)|decide) ?_|refine bc9 _ rfl rfl rfl rfl rfl rfl hx rfl ?_|refine yx ?_)
    refine ac1 ?_;refine⟨⟨i+1,by omega⟩,by dsimp only;omega,?_⟩;rw[cf0 hlt hn];exact(zle 1)
   |true=>
    have h1':=of_decide_eq_true h1;have h2':=of_decide_eq_true h2;have hn:ag0 s i-97+65=upN (ag0 s i):=by unfold upN;rw[h1,h2];simp;omega
    repeat'(first|refine yz ?_|refine bc8 rfl rfl rfl rfl rfl rfl rfl rfl (by constructor<;>first|omega|(simp;omega)|decide) ?_|refine bc9 _ rfl rfl rfl rfl rfl rfl hx rfl ?_|refine bd0 _ rfl rfl rfl rfl rfl rfl hx rfl rfl rfl ?_|refine yx ?_)
    refine ac1 ?_;refine⟨⟨i+1,by omega⟩,by dsimp only;omega,?_⟩;rw[hti,hn,ce9 hlt];exact(zle 1)
 ·have hd1:decide ((i:Int)<(s.size:Int))=false:=by simp;omega
  obtain rfl:i=s.size:=by omega
  repeat'(refine yz ?_)
  refine bc6 0 rfl ?_;dsimp only[ar5,ar4];have he:=cf1 s
  repeat'(first|refine yz ?_|refine bc7 (upL s s.size) rfl rfl rfl rfl rfl rfl rfl rfl he ?_|exact zD)
def cf3:List ByteArray:=[⟨#[77,65,84,67,72]⟩,⟨#[79,80,84,73,79,78,65,76]⟩,⟨#[87,72,69,82,69]⟩,⟨#[85,78,87,73,78,68]⟩,⟨#[65,83]⟩,⟨#[87,73,84,72]⟩,⟨#[68,73,83,84,73,78,67,84]⟩,⟨#[79,82,68,69,82]⟩,⟨#[66,89]⟩,⟨#[65,83,67]⟩,⟨#[68,69,83,67]⟩,⟨#[83,75,73,80]⟩,⟨#[76,73,77,73,84]⟩,⟨#[82,69,84,85,82,78]⟩,⟨#[67,82,69,65,84,69]⟩,⟨#[77,69,82,71,69]⟩,⟨#[83,69,84]⟩,⟨#[82,69,77,79,86,69]⟩,⟨#[68,69,76,69,84,69]⟩,⟨#[68,69,84,65,67,72]⟩,⟨#[65,78,68]⟩,⟨#[79,82]⟩,⟨#[78,79,84]⟩,⟨#[73,78]⟩,⟨#[73,83]⟩,⟨#[78,85,76,76]⟩,⟨#[84,82,85,69]⟩,⟨#[70,65,76,83,69]⟩,⟨#[87,65,76,75]⟩,⟨#[84,82,65,73,76]⟩,⟨#[83,73,77,80,76,69]⟩,⟨#[83,72,79,82,84,69,83,84]⟩,⟨#[65,78,89]⟩]
def cf4(s:ByteArray):Bool:=cf3.any fun w=>w.toList==(upF s).toList
def upB(b:UInt8):UInt8:=UInt8.ofNat (upN b.toNat).toNat
theorem cf5(ns:List Int):(Go.Abs.strOf ns).data.toList=ns.map fun n=>UInt8.ofNat n.toNat:=by
 have key:∀(ns:List Int) (r:ByteArray),(ns.foldl (fun r n=>r.push (UInt8.ofNat n.toNat)) r).data.toList=r.data.toList++ns.map fun n=>UInt8.ofNat n.toNat:=by
  intro ns
  induction ns with
  |nil=>intro r;simp
  |cons n ns ih=>
   intro r;rw[ev7,ih];simp[ByteArray.push]
 have:=key ns ByteArray.empty;unfold Go.Abs.strOf;rw[this];simp
theorem cf6(s:ByteArray):(upF s).data.toList=s.data.toList.map upB:=by
 unfold upF;rw[cf5];refine ez5 fun j=>?_
 have hl:s.data.toList.length=s.size:=by simp
 rcases es1 j s.size with hj|hj
 ·have hx:=es0 (show j<s.data.toList.length by omega);rw[es6,upL,es6,ey5 hj,es6,hx];simp only[eu9,upB,ag0,ew4,hx,ex3]
 ·rw[ev1 (by rw[es7,ce5];exact hj),ev1 (by rw[es7];omega)]
theorem cf7(b:UInt8):upB b=32↔b=32:=by
 have key:∀c:Fin 256,(upB (UInt8.ofFin c)=32)=(UInt8.ofFin c=32):=by
  intro c;revert c;decide+kernel
 have hb:b=UInt8.ofFin b.toFin:=by rfl
 rw[hb];exact iff_of_eq (key b.toFin)
theorem cf8:∀l:List UInt8,Lib.contains l [32]=decide ((32:UInt8)∈l)
 |[]=>by simp[Lib.contains,Lib.index]
 |b::l=>by
  rw[cb5,cf8 l];have:([32]:List UInt8).isPrefixOf (b::l)=((32:UInt8)==b):=by simp only[List.isPrefixOf,Bool.and_true]
  rw[this,eu6,eu8,beq_iff_eq,decide_eq_true_eq,decide_eq_true_eq,es9]
theorem cf9(s:ByteArray):(32:UInt8)∈(upF s).data.toList↔(32:UInt8)∈s.data.toList:=by
 rw[cf6,et5];constructor
 ·rintro⟨b,h1,h2⟩;rw[(cf7 b).1 h2]at h1;exact h1
 ·intro h;exact⟨32,h,(cf7 32).2 rfl⟩
theorem cg0:∀w∈cf3.map (·.data.toList),(32:UInt8) ∉ w:=by
 have:(cf3.map (·.data.toList)).all (fun w=> !w.contains 32)=true:=by decide
 intro w hw hm;have:=eu4.1 this w hw;simp[List.contains_iff_mem]at this;exact this hm
theorem cg1(U:List UInt8):((cf3.map (·.data.toList)).any fun w=>U==w)=cf3.any fun w=>w.data.toList==U:=by
 rw[List.any_map];congr 1
 funext w
 simp only[Function.comp];rw[eu6,beq_iff_eq,beq_iff_eq];exact⟨fun h=>h.symm,fun h=>h.symm⟩
theorem cg2(s:ByteArray):cf4 s=cf3.any fun w=>w.data.toList==(upF s).data.toList:=by
 unfold cf4;simp only[ByteArray.toList_eq]
theorem cg3(s:ByteArray)(h:Lib.contains s.data.toList [32]=false):Lib.contains (cb3 (cf3.map (·.data.toList))) (32::((upF s).data.toList++ [32]))=cf4 s:=by
 rw[cf8,decide_eq_false_iff_not]at h;rw[cb8 _ (fun hm=>h ((cf9 s).1 hm)) _ cg0,cg1,cg2]
theorem cg4(s:ByteArray)(h:Lib.contains s.data.toList [32]=true):cf4 s=false:=by
 rw[cf8,decide_eq_true_eq]at h;rw[cg2,ex7];intro w hw he;have e:=eq_of_beq he;refine cg0 _ (ev0 hw) ?_;rw[e];exact(cf9 s).2 h
theorem cg5(s sub:ByteArray)(hs:s.size<4294967281):Ev E 317 [.str s,.str sub] (.d (.bool (Lib.contains s.data.toList sub.data.toList))):=by
 refine bs7 rfl fun w F hG _ _=>?_
 obtain⟨-,-,m,hm⟩:=hG.2;refine(Tryz.strings_Contains s sub m w hs hm).mono ?_;rintro e w' ⟨rfl,rfl⟩;exact⟨rfl,Below.refl _ _⟩
theorem cg6(s:ByteArray):(upF s).size=s.size:=by unfold upF;rw[as9,ce5]
set_option maxRecDepth 10000 in
attribute [local irreducible] upF cf4 cb3 cf3 in
theorem cg7(s:ByteArray)(hs:s.size≤1000):Ev E 267 [.str s] (.d (.bool (cf4 s))):=by
 have hu:=cf2 s;have hus:=cg6 s;have h1:(⟨#[32]⟩:ByteArray).size=1:=rfl;have hc1:=cg5 s ⟨#[32]⟩ (by omega)
 cases h0: !(s.toList==(⟨#[]⟩:ByteArray).toList)with
 |false=>
  have e:cf4 s=false:=by
   rw[cg2,cf6];have:s.data.toList=[]:=by rw[Bool.not_eq_false',beq_iff_eq,ByteArray.toList_eq,ByteArray.toList_eq]at h0;exact h0
   rw[this];unfold cf3;decide+kernel
  rw[e];refine ye1 func267 ntmps267 fun _ _ _=>?_
  repeat'(first|refine yz ?_|refine yx ?_|exact zD)
 |true=>
  cases hb:Lib.contains s.data.toList [32]with
  |true=>
   rw[show(⟨#[32]⟩:ByteArray).data.toList=[32]from rfl,hb]at hc1;rw[cg4 s hb];refine ye1 func267 ntmps267 fun _ _ _=>?_
   repeat'(first|refine yz ?_|refine yp b317 hc1 ?_|refine yx ?_|exact zD)
  |false=>
   rw[show(⟨#[32]⟩:ByteArray).data.toList=[32]from rfl,hb]at hc1;have hr:=cg3 s hb;refine ye1 func267 ntmps267 fun _ _ _=>?_
   repeat'(first|refine yz ?_|refine qP (d:=7) rfl rfl rfl rfl rfl rfl b317 (hc1) ?_|refine yp b318 hu ?_|refine qP (d:=15) rfl rfl rfl rfl rfl rfl b317 ((cg5 _ _ (by decide+kernel))) ?_|refine yx ?_)
   rw[show ∀x,(cond (bif true then !false else false) x false)=x from fun _=>rfl];refine congrArg D.bool (Eq.trans (congr (congrArg Lib.contains ?_) ?_) hr)
   ·unfold cb3 cf3;decide+kernel
   ·simp only[ByteArray.data_append,Array.toList_append];simp
def cg8(s:ByteArray):Bool:=bv3 s&& !cf4 s
theorem cg9{s:ByteArray}(h:bv3 s=true):s.size≤1000:=by
 unfold bv3 at h;simp only[et4,decide_eq_true_eq]at h;omega
theorem ch0(s:ByteArray):Ev E 200 [.str s] (.d (.bool (cg8 s))):=by
 have h1:=bv7 s;unfold cg8
 cases hn:bv3 s with
 |false=>
  rw[hn]at h1;refine ye1 func200 ntmps200 fun _ _ _=>?_
  repeat'(first|refine yz ?_|refine yp b179 h1 ?_|exact zD)
 |true=>
  rw[hn]at h1;have h2:=cg7 s (cg9 hn);refine ye1 func200 ntmps200 fun _ _ _=>?_
  repeat'(first|refine yz ?_|refine yp b179 h1 ?_|refine yp b267 h2 ?_|exact zD)
def nlF(e:Ex):Bool:=
 bif e.op==2||(e.op==3||e.op==4)then !cg8 e.nm else
 bif e.op==23 then cc0 e.nm==0 else
 bif e.op==24 then !cc2 e.nm else false
theorem ch1(e:Ex):Ev E 186 [bu2 e] (.d (.bool (nlF e))):=by
 have h1:=ch0 e.nm;have h2:=cc3 e.nm;have h3:=cc4 e.nm;refine ye1 func186 ntmps186 fun _ _ _=>?_
 repeat'(first|refine yz ?_|refine yp bp4 h1 ?_|refine yp b261 h2 ?_|refine yp b263 h3 ?_|(refine qV rfl ?_ ?_<;>intro _))
 all_goals(refine congrArg D.bool ?_;simp_all [nlF,ew6])
end Go.Proofs.YtndgolmgaenlfaaGreatDoor
namespace Go.Proofs.YtndgolmgaenlfaaGreatDoor
set_option maxRecDepth 4000
open Go Go.Abs Go.Val Go.RowKit Go.Proofs.Tryz
attribute [local irreducible] go SGo an1 Ev au7 EvO EvS
def ch2(e:Ex)(w:Bool):Int:=
 bif (decide (e.op<1)||decide (e.op>24))||(!cc7 e|| !cd0 e)then 1 else
 bif e.op==1&& !cd2 e.v then 8 else
 bif nlF e then 6 else
 bif e.op==24&&w then 9 else 0
mutual
def ch3:Ex→Bool→Int
 |.mk op v nm ds ks,w=>bif ch2 (.mk op v nm ds ks) w !=0 then ch2 (.mk op v nm ds ks) w else ch4 ks (w||op==24)
def ch4:List Ex→Bool→Int
 |[],_=>0
 |x::r,w=>bif ch3 x w !=0 then ch3 x w else ch4 r w
end
theorem ch5{l:List Ex}{i:Nat}{x:Ex}{w:Bool}(h:l[i]? =some x):ch4 (l.drop i) w=bif ch3 x w !=0 then ch3 x w else ch4 (l.drop (i+1)) w:=by
 rw[br4 h,ch4]
structure SVs(l:List Ex)(w:Bool) where
 i:Nat
 hi:i≤l.length
 ok:ch4 l w=ch4 (l.drop i) w
theorem ch6{e:Ex}{w:Bool}(h:ch2 e w=0):ch3 e w=ch4 e.ks (w||e.op==24):=by
 cases e
 rw[ch3,h];rfl
theorem ch7{e:Ex}{w:Bool}{c:Int}(h:ch2 e w=c)(hc:(c !=0)=true):c=ch3 e w:=by
 cases e
 rw[ch3,h,hc];rfl
set_option maxHeartbeats 4000000 in
theorem ch8(e:Ex):∀w,Ev E 119 [bu2 e,.bool w] (.d (.int (ch3 e w))):=by
 refine bv1 (P:=fun e=>∀w,Ev E 119 [bu2 e,.bool w] (.d (.int (ch3 e w)))) (fun op v nm ds ks ih w=>?_) e;refine Ev.fit fun hfit=>?_
 obtain⟨-,-,-,hmax,-⟩:=bu9 (hfit (bu2 (.mk op v nm ds ks)) (by simp));have hlen:(bu0 (.mk op v nm ds ks)).length=ks.length:=bu7 _;have hkg:∀(i:Nat) (x:Ex),ks[i]? =some x→(bu0 (.mk op v nm ds ks))[(i:Int).toNat]? =some (bu2 x):=fun i x h=>bu5 (e:=.mk op v nm ds ks) (by rw[ev6];exact h)
 have hks:Ex.ks (.mk op v nm ds ks)=ks:=rfl;generalize Ex.mk op v nm ds ks=e at*;rw[hks]at hmax;have h1:=cc8 e;have h2:=cd1 e;have h3:=cd3 e.v;have h4:=ch1 e;have hsf:∀c,(bif (decide (e.op<1)||decide (e.op>24))||(!cc7 e|| !cd0 e)then 1 else bif e.op==1&& !cd2 e.v then 8 else bif nlF e then 6 else bif e.op==24&&w then 9 else 0)=c→ch2 e w=c:=fun c h=>h
 have hbad:=fun c (h:ch2 e w=c)=>ch7 h
 have hok:=ch6 (e:=e) (w:=w);rw[hks]at hok;clear hks;generalize hW:(w||e.op==24)=W at hok
 cases w
 all_goals
  refine ye2 func119 ntmps119 fun _ _ _=>?_
  repeat'(first|refine yz ?_|refine yp b183 h1 ?_|refine yp b184 h2 ?_|refine yp b185 h3 ?_|refine yp b186 h4 ?_|(refine yy ?_ ?_<;>intro _)|(refine qV rfl ?_ ?_<;>intro _))
  any_goals(refine congrArg D.int (hbad _ (hsf _ ?_) rfl);clear ih hkg hfit hsf hbad hok h1 h2 h3 h4;simp_all [ew6];done)
 all_goals
  rw[hok (hsf _ (by clear ih hkg hfit hsf hbad hok h1 h2 h3 h4;simp_all [ew6]))];clear hsf hbad hok h1 h2 h3 h4;refine ac7 (α:=SVs ks W) (fun p=>⟨[(1,.d (.bool _)),(2,.ptr 0 0),(44,.d (.sl (bu0 e))),(45,.d (.int (bu0 e).length)),(46,.d (.int p.i))],[.var 33 (.w (.d (bu2 e)))]⟩) (fun p=>ks.length-p.i) ⟨0,by omega,rfl⟩ (zle 1) ?_;rintro⟨i,hi,ok⟩;dsimp only;rcases es1 i ks.length with hlt|hge
  ·have hd1:decide ((i:Int)<((bu0 e).length:Int))=true:=by rw[hlen];simpa using hlt
   have hx0:=es0 hlt;generalize ks[i]=x at hx0;have hx:=hkg i x hx0;have hv:=ih x (es4 hx0) W;rw[←hW]at hv;rw[ok,ch5 hx0]
   cases hz:ch3 x W !=0 with
   |true=>
    rw[←hW]at hz ⊢
    repeat'(first|refine yz ?_|refine yi (bu2 x) hx ?_|refine yp b119 hv ?_|exact zD)
   |false=>
    rw[←hW]at hz
    repeat'(first|refine yz ?_|refine yi (bu2 x) hx ?_|refine yp b119 hv ?_)
    refine ac1 ?_;exact⟨⟨i+1,by omega,by rw[ok,ch5 hx0,←hW,hz];rfl⟩,by dsimp only;omega,(zle 1)⟩
  ·have hd1:decide ((i:Int)<((bu0 e).length:Int))=false:=by rw[hlen];simp;omega
   rw[ok,eu0 hge,ch4]
   repeat'(first|refine yz ?_|exact zD)
end Go.Proofs.YtndgolmgaenlfaaGreatDoor
namespace Go.Proofs.YtndgolmgaenlfaaGreatDoor
set_option maxRecDepth 4000
open Go Go.Abs Go.Val Go.RowKit Go.Proofs.Tryz
attribute [local irreducible] go SGo an1 Ev au7 EvO EvS
def ch9(e:Ex):Int:=bif decide (dp e>24)then 5 else bif decide (nd e>300)then 4 else ch3 e false
theorem ci0(e:Ex)(h1:dp e≤1000000)(h2:nd e≤1000000):Ev E 61 [bu2 e] (.d (.int (ch9 e))):=by
 have a1:=ce2 e h1;have a2:=cd7 e h2;have a3:=ch8 e false;unfold ch9
 cases g1:decide (dp e>24)with
 |true=>
  have b1:decide ((dp e:Int)>24)=true:=by simp at g1 ⊢;omega
  refine ye1 func61 ntmps61 fun _ _ _=>?_
  repeat'(first|refine yz ?_|refine yp b117 a1 ?_|exact zD)
 |false=>
  have b1:decide ((dp e:Int)>24)=false:=by simp at g1 ⊢;omega
  cases g2:decide (nd e>300)with
  |true=>
   have b2:decide ((nd e:Int)>300)=true:=by simp at g2 ⊢;omega
   refine ye1 func61 ntmps61 fun _ _ _=>?_
   repeat'(first|refine yz ?_|refine yp b117 a1 ?_|refine yp b118 a2 ?_|exact zD)
  |false=>
   have b2:decide ((nd e:Int)>300)=false:=by simp at g2 ⊢;omega
   refine ye1 func61 ntmps61 fun _ _ _=>?_
   repeat'(first|refine yz ?_|refine yp b117 a1 ?_|refine yp b118 a2 ?_|refine yp b119 a3 ?_|exact zD)
end Go.Proofs.YtndgolmgaenlfaaGreatDoor
namespace Go.Proofs.YtndgolmgaenlfaaGreatDoor
set_option maxRecDepth 4000
open Go Go.Abs Go.Val Go.RowKit Go.Proofs.Tryz
structure PP where
 key:ByteArray
 e:Ex
structure NP where
 vr:ByteArray
 lb:List ByteArray
 ps:List PP
structure EP where
 vr:ByteArray
 ty:List ByteArray
 dir:Int
 mode:Int
 mn:Int
 mx:Int
 ps:List PP
structure PA where
 vr:ByteArray
 ns:List NP
 es:List EP
structure IT where
 e:Ex
 asn:ByteArray
structure SK where
 e:Ex
 dc:Bool
structure SIt where
 vr:ByteArray
 key:ByteArray
 lb:ByteArray
 off:Bool
 e:Ex
structure CL where
 k:Int
 opt:Bool
 ds:Bool
 ps:List PA
 wh:List Ex
 e:Ex
 nm:ByteArray
 it:List IT
 od:List SK
 sk:Int
 lm:Int
 st:List SIt
 ns:List ByteArray
def ci1(p:PP):D:=.agg [.str p.key,.int p.e.op,.int p.e.v.k,.int p.e.v.n,.int p.e.v.d,.str p.e.v.s,.sl (kids p.e.v),.str p.e.nm,.bool p.e.ds,.sl (bu0 p.e)]
def ci2(n:NP):D:=.agg [.str n.vr,.sl (n.lb.map .str),.sl (n.ps.map ci1)]
def ci3(e:EP):D:=.agg [.str e.vr,.sl (e.ty.map .str),.int e.dir,.int e.mode,.int e.mn,.int e.mx,.sl (e.ps.map ci1)]
def ci4(p:PA):D:=.agg [.str p.vr,.sl (p.ns.map ci2),.sl (p.es.map ci3)]
def ci5(x:IT):D:=.agg [.int x.e.op,.int x.e.v.k,.int x.e.v.n,.int x.e.v.d,.str x.e.v.s,.sl (kids x.e.v),.str x.e.nm,.bool x.e.ds,.sl (bu0 x.e),.str x.asn]
def ci6(x:SK):D:=.agg [.int x.e.op,.int x.e.v.k,.int x.e.v.n,.int x.e.v.d,.str x.e.v.s,.sl (kids x.e.v),.str x.e.nm,.bool x.e.ds,.sl (bu0 x.e),.bool x.dc]
def ci7(x:SIt):D:=.agg [.str x.vr,.str x.key,.str x.lb,.bool x.off,.int x.e.op,.int x.e.v.k,.int x.e.v.n,.int x.e.v.d,.str x.e.v.s,.sl (kids x.e.v),.str x.e.nm,.bool x.e.ds,.sl (bu0 x.e)]
def ci8(c:CL):D:=.agg [.int c.k,.bool c.opt,.bool c.ds,.sl (c.ps.map ci4),.sl (bu1 c.wh),.int c.e.op,.int c.e.v.k,.int c.e.v.n,.int c.e.v.d,.str c.e.v.s,.sl (kids c.e.v),.str c.e.nm,.bool c.e.ds,.sl (bu0 c.e),
 .str c.nm,.sl (c.it.map ci5),.sl (c.od.map ci6),.int c.sk,.int c.lm,.sl (c.st.map ci7),.sl (c.ns.map .str)]
def s0B(s:ByteArray):Bool:=isS s ⟨#[]⟩
mutual
def ci9:Ex→Bool
 |.mk op _ _ _ ks=>op==24||hagL ks
def hagL:List Ex→Bool
 |[]=>false
 |x::r=>ci9 x||hagL r
end
def cj0(l:List PP):List ByteArray:=l.map fun p=>p.key
def cj1:List ByteArray→Bool
 |a::b::r=>Op.bytesLess a.toList b.toList&&cj1 (b::r)
 |_=>true
def cj2(e:EP):Int:=bif e.mode==0 then 1 else min (max e.mx 0) 13
def hopS(l:List EP):Int:=l.foldl (fun n e=>n+cj2 e) 0
def cj3(p:PA):Bool:=(p.ns.length==0||decide (p.es.length>6))||decide (hopS p.es>12)
def cj4(e:EP):Bool:=
 bif (decide (e.dir<1)||decide (e.dir>3))||(decide (e.mode<0)||decide (e.mode>5))then false else
 bif e.mode==0 then e.mn==0&&e.mx==0 else decide (e.mn≥0) &&(decide (e.mn≤e.mx) &&(decide (e.mx≥1) &&(decide (e.mx≤6) &&e.ps.length==0)))
def cj5(e:EP):Bool:=e.mode==0&&(e.ty.length==1&&e.dir !=3)
structure PT where
 nm:ByteArray
 ns:List ByteArray
 ps:List PP
def cj6(x:PT):D:=.agg [.str x.nm,.sl (x.ns.map .str),.sl (x.ps.map ci1)]
def ptN(n:NP):PT:=⟨n.vr,n.lb,n.ps⟩
def ptE(e:EP):PT:=⟨e.vr,e.ty,e.ps⟩
def cj7:List NP→List EP→List PT
 |[],_=>[]
 |n::r,[]=>ptN n::cj7 r []
 |n::r,e::q=>ptN n::ptE e::cj7 r q
def cj8(s:ByteArray):Bool:=s0B s||cg8 s
def cj9(x:PT):Bool:= !(cj8 x.nm)||(!(x.ns.all cg8)|| !((cj0 x.ps).all cg8))
def ck0(x:PT):Bool:= !(cj1 x.ns)|| !(cj1 (cj0 x.ps))
def ck1:List Ex→Int
 |[]=>0
 |e::r=>bif ch9 e !=0 then ch9 e else ck1 r
def ck2(l:List PT):List Ex:=l.flatMap fun x=>x.ps.map fun p=>p.e
def ck3(p:PA)(create:Bool):Int:=
 bif cj3 p then 4 else
 bif p.ns.length !=p.es.length+1||p.es.any fun e=> !cj4 e then 1 else
 bif !(cj8 p.vr)||(cj7 p.ns p.es).any cj9 then 6 else
 bif (cj7 p.ns p.es).any ck0 then 26 else
 bif ck1 (ck2 (cj7 p.ns p.es)) !=0 then ck1 (ck2 (cj7 p.ns p.es))else
 bif (ck2 (cj7 p.ns p.es)).any ci9 then 9 else
 bif create&&p.es.any fun e=> !cj5 e then 1 else 0
def ck4(e:Ex):Bool:=e.op==0&&(cc5 e.v&&(s0B e.nm&&(!e.ds&&e.ks.length==0)))
def ck5(n:Int):Bool:=n==0||n== -1
def ck6(c:CL):Bool:=
 let w:=c.k==3||c.k==4
 bif c.opt&& !(c.k==1||c.k==8)||c.ds&& !w then true else
 bif decide (c.ps.length>0) && !(c.k==1||(c.k==5||c.k==6))||decide (c.wh.length>0) && !(c.k==1||c.k==3)then true else
 bif !(c.k==2) &&(!(ck4 c.e)|| !(s0B c.nm))|| !w&&(decide (c.it.length>0)||decide (c.od.length>0))then true else
 bif !w&&(!(ck5 c.sk)|| !(ck5 c.lm))||(decide (c.sk< -1)||(decide (c.sk>1000000000000000)||(decide (c.lm< -1)||decide (c.lm>1000000000000000))))then true else
 decide (c.st.length>0) && !(c.k==7)||decide (c.ns.length>0) && !(c.k==8)
def inN(n lo hi:Nat):Bool:=decide (lo≤n) &&decide (n≤hi)
def ck7(c:CL):Bool:=
 bif c.k==1||c.k==5 then !(inN c.ps.length 1 6)||decide (c.wh.length>1)else
 bif c.k==6 then c.ps.length !=1 else
 bif c.k==3||c.k==4 then !(inN c.it.length 1 16)||(decide (c.od.length>16)||decide (c.wh.length>1))else
 bif c.k==7 then !(inN c.st.length 1 16)else
 bif c.k==8 then !(inN c.ns.length 1 16)else false
def ck8(x:SIt):Int:=
 bif !(s0B x.lb) &&(!(s0B x.key)|| !(ck4 x.e))||s0B x.lb&&x.off then 1 else
 bif !(cg8 x.vr)||(!(s0B x.lb) && !(cg8 x.lb)||s0B x.lb&& !(cg8 x.key))then 6 else
 bif s0B x.lb then ch9 x.e else 0
def ck9:List Int→Int
 |[]=>0
 |x::r=>bif x !=0 then x else ck9 r
def cl0(s:ByteArray):Int:=bif cg8 s then 0 else 6
def cl1(c:CL):Int:=
 bif (decide (c.k<1)||decide (c.k>8))||ck6 c then 1 else
 bif ck7 c then 4 else
 ck9 (c.ps.map (fun p=>ck3 p (c.k==5))++c.wh.map ch9++(bif c.k==2 then [ch9 c.e,cl0 c.nm]else [])++c.it.flatMap (fun x=>[ch9 x.e,cl0 x.asn])++c.od.map (fun x=>ch9 x.e)++c.st.map ck8++c.ns.map cl0)
end Go.Proofs.YtndgolmgaenlfaaGreatDoor
