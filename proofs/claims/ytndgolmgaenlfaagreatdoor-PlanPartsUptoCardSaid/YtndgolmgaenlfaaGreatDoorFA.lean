/- A word between blanks in a text of words between blanks: it is one of them; The functions' numbers of operands and the aggregates' names, by both texts; Blank constants, numbers of operands, unused fields, by both texts; The size of an expression, by both texts; The depth of an expression, by both texts; Upper case and the reserved words, by both texts; The reserved words, by both texts; Words of the language and the checking of expressions, by both texts; The checking of expressions, by both texts; The checking of expressions by the reference; and what both checks answer; Clauses and queries:. Conditions: each part's own, as it says. -/
import Derived.Test.YtndgolmgaenlfaaGreatDoorGC
import Derived.Test.YtndgolmgaenlfaaGreatDoorMA
import Derived.Lib.IndexMore
import Derived.Test.YtndgolmgaenlfaaGreatDoorGB
set_option linter.unusedVariables false
set_option linter.unusedSimpArgs false
namespace Go.Proofs.YtndgolmgaenlfaaGreatDoor
set_option maxRecDepth 4000
open Go Go.Abs Go.Val Go.Proofs.Tryz
def cb6:List (List UInt8)→List UInt8
 |[]=>[32]
 |w::r=>32::(w++cb6 r)
theorem cb7:∀r,∃t,cb6 r=32::t
 |[]=>⟨[],rfl⟩
 |w::r=>⟨w++cb6 r,rfl⟩
theorem cb8(b:UInt8)(l sub:List UInt8):Lib.contains (b::l) sub=(sub.isPrefixOf (b::l)||Lib.contains l sub):=by
 unfold Lib.contains;have hg:=Lib.index_ge l sub;rw[show Lib.index (b::l) sub=if sub.isPrefixOf (b::l)then 0 else if Lib.index l sub== -1 then-1 else Lib.index l sub+1 from rfl]
 cases hp:sub.isPrefixOf (b::l)with
 |true=>simp
 |false=>
  simp only[Bool.false_eq_true,if_false,fc8]
  by_cases h:Lib.index l sub= -1
  ·simp[h]
  ·have hb:(Lib.index l sub== -1)=false:=by rw[beq_eq_false_iff_ne];exact h
   rw[hb];simp only[Bool.false_eq_true,if_false,decide_eq_decide];omega
theorem cb9(p:List UInt8):∀(w l:List UInt8),(32:UInt8) ∉ w→Lib.contains (w++l) (32::p)=Lib.contains l (32::p)
 |[],l,_=>rfl
 |b::w,l,h=>by
  simp only[ey2,not_or]at h;have hb:((32:UInt8)==b)=false:=by rw[beq_eq_false_iff_ne];exact h.1
  rw[fc6,cb8,cb9 p w l h.2];have:(32::p).isPrefixOf (b::(w++l))=false:=by simp only[List.isPrefixOf,hb,fe6]
  rw[this,fc8]
theorem cc0:∀(U w t:List UInt8),(32:UInt8) ∉ U→(32:UInt8) ∉ w→(U++ [32]).isPrefixOf (w++32::t)=(U==w)
 |[],[],t,_,_=>by simp[List.isPrefixOf]
 |[],b::w,t,_,h=>by
  simp only[ey2,not_or]at h;have hb:((32:UInt8)==b)=false:=by rw[beq_eq_false_iff_ne];exact h.1
  simp only[fc5,fc6,List.isPrefixOf,hb,fe6];rfl
 |a::U,[],t,h,_=>by
  simp only[ey2,not_or]at h;have ha:(a==(32:UInt8))=false:=by rw[beq_eq_false_iff_ne];exact fun e=>h.1 e.symm
  simp only[fc5,fc6,List.isPrefixOf,ha,fe6];rfl
 |a::U,b::w,t,h,h'=>by
  simp only[ey2,not_or]at h h';simp only[fc6,List.isPrefixOf];rw[cc0 U w t h.2 h'.2];rfl
theorem cc1(U:List UInt8)(hU:(32:UInt8) ∉ U):∀ws:List (List UInt8),(∀w∈ws,(32:UInt8) ∉ w)→Lib.contains (cb6 ws) (32::(U++ [32]))=ws.any fun w=>U==w
 |[],_=>by
  have:(32::(U++ [32])).isPrefixOf [(32:UInt8)]=false:=by cases U<;>simp[List.isPrefixOf]
  rw[cb6,cb8,this];simp[Lib.contains,Lib.index]
 |w::r,h=>by
  obtain⟨t,ht⟩:=cb7 r;have ih:=cc1 U hU r fun x hx=>h x (by simp[hx])
  rw[cb6,cb8,cb9 _ w _ (h w Oc),ih,fd2];congr 1;rw[ht];show((32:UInt8)==32&&(U++ [32]).isPrefixOf (w++32::t))=_;rw[cc0 U w t hU (h w Oc)];rfl
attribute [local irreducible] Ev EvO EvS au7 an1 SGo go
def isS(s:ByteArray)(t:ByteArray):Bool:=s.toList==t.toList
def cc2(s:ByteArray):Bool:=isS s ⟨#[105,100]⟩||(isS s ⟨#[116,121,112,101]⟩||(isS s ⟨#[108,97,98,101,108,115]⟩||(isS s ⟨#[115,105,122,101]⟩||(isS s ⟨#[108,101,110,103,116,104]⟩||(isS s ⟨#[110,111,100,101,115]⟩||
 (isS s ⟨#[101,100,103,101,115]⟩||(isS s ⟨#[102,105,114,115,116]⟩||(isS s ⟨#[108,97,115,116]⟩||(isS s ⟨#[115,116,97,114,116]⟩||(isS s ⟨#[101,110,100]⟩||(isS s ⟨#[97,98,115]⟩||isS s ⟨#[116,101,120,116]⟩)))))))))))
def cc3(s:ByteArray):Bool:=isS s ⟨#[99,111,97,108,101,115,99,101]⟩
def cc4(s:ByteArray):Int:=bif cc2 s then 1 else bif cc3 s then 2 else 0
def cc5(s:ByteArray):Int:=bif cc2 s then 1 else bif cc3 s then 4 else 0
def cc6(s:ByteArray):Bool:=isS s ⟨#[99,111,117,110,116]⟩||(isS s ⟨#[115,117,109]⟩||(isS s ⟨#[109,105,110]⟩||(isS s ⟨#[109,97,120]⟩||(isS s ⟨#[97,118,103]⟩||isS s ⟨#[99,111,108,108,101,99,116]⟩))))
theorem cc7(s:ByteArray):Ev E 261 [.str s] (.tup [.int (cc4 s),.int (cc5 s)]):=by
 refine ye1 func261 ntmps261 fun _ _ _=>?_
 repeat'(first|refine yz ?_|(refine qV rfl ?_ ?_<;>intro _))
 all_goals simp_all [cc4,cc5,cc2,cc3,isS,fc3]
theorem cc8(s:ByteArray):Ev E 263 [.str s] (.d (.bool (cc6 s))):=by
 refine ye1 func263 ntmps263 fun _ _ _=>?_
 repeat'(first|refine yz ?_|(refine qV rfl ?_ ?_<;>intro _))
 all_goals(refine congrArg D.bool ?_;simp_all [cc6,isS])
def cc9(v:V):Bool:=v.k==0&&(v.n==0&&(v.d==0&&(s0 v.s&&l0 v)))
theorem cd0(v:V):Ev E 262 [enc v] (.d (.bool (cc9 v))):=by
 refine ye1 func262 ntmps262 fun _ _ _=>?_
 repeat'(first|refine yz ?_|(refine yy ?_ ?_<;>intro _))
 all_goals(refine congrArg D.bool ?_;simp_all [cc9,s0,l0])
def kn0(e:Ex):Int:=((bu3 e).length:Int)
def cd1(e:Ex):Bool:=
 bif e.op==1||e.op==2 then kn0 e==0 else
 bif e.op==3||(e.op==4||(e.op==5||(e.op==6||e.op==21)))then kn0 e==1 else
 bif e.op==22 then decide (kn0 e≤16)else
 bif e.op==23 then cc4 e.nm==0||(decide (kn0 e≥cc4 e.nm) &&decide (kn0 e≤cc5 e.nm))else
 bif e.op==24 then kn0 e==1||(kn0 e==0&&(isS e.nm ⟨#[99,111,117,110,116]⟩ && !e.ds))else kn0 e==2
theorem cd2(e:Ex):Ev E 183 [bu5 e] (.d (.bool (cd1 e))):=by
 have ha:=cc7 e.nm;refine ye1 func183 ntmps183 fun _ _ _=>?_
 repeat'(first|refine yz ?_|refine yp b261 ha ?_|(refine yy ?_ ?_<;>intro _)|(refine qV rfl ?_ ?_<;>intro _))
 all_goals(refine congrArg D.bool ?_;simp_all [cd1,kn0,isS,fc3]<;>first|rfl|(intro h;exfalso;omega)|(rw[show(cc4 e.nm==0)=false by rw[beq_eq_false_iff_ne];assumption];rfl))
def cd3(op:Int):Bool:=op==2||(op==3||(op==4||(op==23||op==24)))
def cd4(e:Ex):Bool:=(e.op==1||cc9 e.v) &&((cd3 e.op||isS e.nm ⟨#[]⟩) &&(e.op==24|| !e.ds))
theorem cd5(e:Ex):Ev E 184 [bu5 e] (.d (.bool (cd4 e))):=by
 have hb:=cd0 e.v;refine ye1 func184 ntmps184 fun _ _ _=>?_
 repeat'(first|refine yz ?_|refine yp b262 hb ?_|refine yx ?_|(refine yy ?_ ?_<;>intro _))
 all_goals(refine congrArg D.bool ?_;simp_all [cd4,cd3,isS])
def cd6(v:V):Bool:=cc9 v||((v.k==1||(v.k==2||v.k==4)) &&Val.okV v)
theorem cd7(v:V):Ev E 185 [enc v] (.d (.bool (cd6 v))):=by
 have hb:=cd0 v;have hv:=bs4 bt7 v;refine ye1 func185 ntmps185 fun _ _ _=>?_
 repeat'(first|refine yz ?_|refine yp b262 hb ?_|refine yp bp6 hv ?_|(refine yy ?_ ?_<;>intro _))
 all_goals(refine congrArg D.bool ?_;simp_all [cd6])
mutual
def nd:Ex→Nat
 |.mk _ _ _ _ l=>ndL l+1
def ndL:List Ex→Nat
 |[]=>0
 |x::r=>nd x+ndL r
end
theorem cd8(e:Ex):nd e=ndL e.ks+1:=by cases e;simp[nd,Ex.ks]
theorem cd9:∀{l:List Ex} {x:Ex},x∈l→nd x≤ndL l
 |[],x,h=>by simp at h
 |y::r,x,h=>by
  simp only[ndL];rcases ey2.1 h with e|e
  ·rw[e];omega
  ·have:=cd9 e;omega
theorem ce0{l:List Ex}{i:Nat}{x:Ex}(h:l[i]? =some x):ndL (l.drop i)=nd x+ndL (l.drop (i+1)):=by
 rw[br5 h];rfl
structure SNd(l:List Ex) where
 i:Nat
 n:Nat
 hi:i≤l.length
 ok:ndL l+1=n+ndL (l.drop i)
theorem ce1(e:Ex):nd e≤1000000→Ev E 118 [bu5 e] (.d (.int (nd e))):=by
 refine bv4 (P:=fun e=>nd e≤1000000→Ev E 118 [bu5 e] (.d (.int (nd e)))) (fun op v nm ds ks ih hb=>?_) e;refine Ev.fit fun hfit=>?_
 obtain⟨-,-,-,hmax,-⟩:=bv2 (hfit (bu5 (.mk op v nm ds ks)) Oc);simp only[Ex.ks]at hmax;have hlen:(bu3 (.mk op v nm ds ks)).length=ks.length:=bv0 _;have hnd:nd (.mk op v nm ds ks)=ndL ks+1:=cd8 _;rw[hnd]at hb ⊢;refine ye1 func118 ntmps118 fun _ _ _=>?_
 repeat'(refine yz ?_)
 refine ac7 (α:=SNd ks) (fun p=>⟨[(3,.d (.int p.n)),(7,.d (.sl (bu3 (.mk op v nm ds ks)))),(8,.d (.int (bu3 (.mk op v nm ds ks)).length)),(9,.d (.int p.i))],[]⟩) (fun p=>ks.length-p.i) ⟨0,1,by omega,by rw[fg1];omega⟩ (zle 0) ?_;rintro⟨i,n,hi,ok⟩;dsimp only;rcases ex7 i ks.length with hlt|hge
 ·have hd1:decide ((i:Int)<((bu3 (.mk op v nm ds ks)).length:Int))=true:=by rw[hlen];simpa using hlt
  have hx0:=ex6 hlt;generalize ks[i]=x at hx0;have hx:(bu3 (.mk op v nm ds ks))[(i:Int).toNat]? =some (bu5 x):=bu8 (e:=.mk op v nm ds ks) (by rw[fb2];exact hx0);have hdr:=ce0 hx0;have hm:=cd9 (ey0 hx0);have hs:=ih x (ey0 hx0) Oa
  repeat'(first|refine yz ?_|refine yi (bu5 x) hx ?_|refine yp b118 hs ?_)
  refine ac1 ?_;refine⟨⟨i+1,n+nd x,by omega,by omega⟩,by dsimp only;omega,?_⟩;dsimp only;rw[Int.natCast_add];exact(zle 0)
 ·have hd1:decide ((i:Int)<((bu3 (.mk op v nm ds ks)).length:Int))=false:=by rw[hlen];simp;omega
  have:ks.drop i=[]:=ez5 hge;rw[ok,this]
  exact Ok
theorem ce2(e:Ex):nd e≤1000000→Ev E 21 [bu5 e] (.d (.int (nd e))):=by
 refine bv4 (P:=fun e=>nd e≤1000000→Ev E 21 [bu5 e] (.d (.int (nd e)))) (fun op v nm ds ks ih hb=>?_) e;refine Ev.fit fun hfit=>?_
 obtain⟨-,-,-,hmax,-⟩:=bv2 (hfit (bu5 (.mk op v nm ds ks)) Oc);simp only[Ex.ks]at hmax;have hlen:(bu3 (.mk op v nm ds ks)).length=ks.length:=bv0 _;have hnd:nd (.mk op v nm ds ks)=ndL ks+1:=cd8 _;rw[hnd]at hb ⊢;refine ye1 func21 ntmps21 fun _ _ _=>?_
 repeat'(refine yz ?_)
 refine ac7 (α:=SNd ks) (fun p=>⟨[(1,.ptr 0 0),(3,.d (.int p.n)),(4,.d (.int p.i))],[.var 33 (.w (.d (bu5 (.mk op v nm ds ks))))]⟩) (fun p=>ks.length-p.i) ⟨0,1,by omega,by rw[fg1];omega⟩ (zle 1) ?_;rintro⟨i,n,hi,ok⟩;dsimp only;rcases ex7 i ks.length with hlt|hge
 ·have hd1:decide ((i:Int)<((bu3 (.mk op v nm ds ks)).length:Int))=true:=by rw[hlen];simpa using hlt
  have hx0:=ex6 hlt;generalize ks[i]=x at hx0;have hx:(bu3 (.mk op v nm ds ks))[(i:Int).toNat]? =some (bu5 x):=bu8 (e:=.mk op v nm ds ks) (by rw[fb2];exact hx0);have hdr:=ce0 hx0;have hm:=cd9 (ey0 hx0);have hs:=ih x (ey0 hx0) Oa
  repeat'(first|refine yz ?_|refine yi (bu5 x) hx ?_|refine yp b21 hs ?_)
  refine ac1 ?_;refine⟨⟨i+1,n+nd x,by omega,by omega⟩,by dsimp only;omega,?_⟩;dsimp only;rw[Int.natCast_add];exact(zle 1)
 ·have hd1:decide ((i:Int)<((bu3 (.mk op v nm ds ks)).length:Int))=false:=by rw[hlen];simp;omega
  have:ks.drop i=[]:=ez5 hge;rw[ok,this]
  exact Ok
end Go.Proofs.YtndgolmgaenlfaaGreatDoor
namespace Go.Proofs.YtndgolmgaenlfaaGreatDoor
set_option maxRecDepth 4000
open Go Go.Abs Go.Val Go.Proofs.Tryz
attribute [local irreducible] go SGo an1 Ev au7 EvO EvS
mutual
def dp:Ex→Nat
 |.mk _ _ _ _ l=>dpL l+1
def dpL:List Ex→Nat
 |[]=>0
 |x::r=>max (dp x) (dpL r)
end
theorem ce3(e:Ex):dp e=dpL e.ks+1:=by cases e;simp[dp,Ex.ks]
theorem ce4:∀{l:List Ex} {x:Ex},x∈l→dp x≤dpL l
 |[],x,h=>by simp at h
 |y::r,x,h=>by
  simp only[dpL];rcases ey2.1 h with e|e
  ·rw[e];omega
  ·have:=ce4 e;omega
theorem ce5{l:List Ex}{i:Nat}{x:Ex}(h:l[i]? =some x):dpL (l.drop i)=max (dp x) (dpL (l.drop (i+1))):=by
 rw[br5 h];rfl
structure SDp(l:List Ex) where
 i:Nat
 n:Nat
 hi:i≤l.length
 ok:dpL l=max n (dpL (l.drop i))
theorem ce6(e:Ex):dp e≤1000000→Ev E 117 [bu5 e] (.d (.int (dp e))):=by
 refine bv4 (P:=fun e=>dp e≤1000000→Ev E 117 [bu5 e] (.d (.int (dp e)))) (fun op v nm ds ks ih hb=>?_) e;refine Ev.fit fun hfit=>?_
 obtain⟨-,-,-,hmax,-⟩:=bv2 (hfit (bu5 (.mk op v nm ds ks)) Oc);simp only[Ex.ks]at hmax;have hlen:(bu3 (.mk op v nm ds ks)).length=ks.length:=bv0 _;have hnd:dp (.mk op v nm ds ks)=dpL ks+1:=ce3 _;rw[hnd]at hb ⊢;refine ye1 func117 ntmps117 fun _ _ _=>?_
 repeat'(refine yz ?_)
 refine ac7 (α:=SDp ks) (fun p=>⟨[(3,.d (.int p.n)),(7,.d (.sl (bu3 (.mk op v nm ds ks)))),(8,.d (.int (bu3 (.mk op v nm ds ks)).length)),(9,.d (.int p.i))],[]⟩) (fun p=>ks.length-p.i) ⟨0,0,by omega,by rw[fg1];omega⟩ (zle 0) ?_;rintro⟨i,n,hi,ok⟩;dsimp only;rcases ex7 i ks.length with hlt|hge
 ·have hd1:decide ((i:Int)<((bu3 (.mk op v nm ds ks)).length:Int))=true:=by rw[hlen];simpa using hlt
  have hx0:=ex6 hlt;generalize ks[i]=x at hx0;have hx:(bu3 (.mk op v nm ds ks))[(i:Int).toNat]? =some (bu5 x):=bu8 (e:=.mk op v nm ds ks) (by rw[fb2];exact hx0);have hdr:=ce5 hx0;have hm:=ce4 (ey0 hx0);have hs:=ih x (ey0 hx0) Oa
  repeat'(first|refine yz ?_|refine yi (bu5 x) hx ?_|refine yp b117 hs ?_)
  refine ac1 ?_;refine⟨⟨i+1,max n (dp x),by omega,by omega⟩,by dsimp only;omega,?_⟩;dsimp only;rw[show((max n (dp x):Nat):Int)=max (n:Int) (dp x:Int) by omega];exact(zle 0)
 ·have hd1:decide ((i:Int)<((bu3 (.mk op v nm ds ks)).length:Int))=false:=by rw[hlen];simp;omega
  have:ks.drop i=[]:=ez5 hge;have hn:n=dpL ks:=by rw[ok,this];simp[dpL]
  subst hn
  exact Ok
end Go.Proofs.YtndgolmgaenlfaaGreatDoor
namespace Go.Proofs.YtndgolmgaenlfaaGreatDoor
set_option maxRecDepth 4000
open Go Go.Abs Go.Val Go.RowKit Go.Proofs.Tryz
attribute [local irreducible] go SGo an1 Ev au7 EvO EvS
theorem ce7(i:Nat):Nat.blt i i=false:=by
 cases h:Nat.blt i i with
 |false=>rfl
 |true=>simp at h
def upN(n:Int):Int:=bif decide (n≥97) &&decide (n≤122)then n-32 else n
def ce8(s:ByteArray)(i:Nat):List D:=(List.range s.size).map fun j=>D.imm (.int .u8 (bif Nat.blt j i then upN (ag0 s j)else ag0 s j))
def upL(s:ByteArray)(i:Nat):List Int:=(List.range i).map fun j=>upN (ag0 s j)
def upF(s:ByteArray):ByteArray:=Go.Abs.strOf (upL s s.size)
theorem ce9(s:ByteArray)(i:Nat):(upL s i).length=i:=by simp[upL]
theorem cf0(s:ByteArray)(i:Nat):(ce8 s i).length=s.size:=by simp[ce8]
theorem cf1{s:ByteArray}{i j:Nat}(h:j<s.size):(ce8 s i)[j]? =some (D.imm (.int .u8 (bif Nat.blt j i then upN (ag0 s j)else ag0 s j))):=by
 rw[ce8,ey3,fe3 h];rfl
theorem cf2(s:ByteArray):ce8 s 0=bb5 s:=by
 refine ff3 fun j=>?_
 rcases ex7 j s.size with h|h
 ·rw[cf1 h,bb8 h];rfl
 ·rw[fa7 (by rw[cf0];exact h),fa7 (by rw[bb6];exact h)]
theorem cf3{s:ByteArray}{i:Nat}(h:i<s.size):(ce8 s i).set i (.imm (.int .u8 (upN (ag0 s i))))=ce8 s (i+1):=by
 refine ff3 fun j=>?_
 rcases ex7 j s.size with hj|hj
 ·rw[fc4,cf1 hj,cf1 hj]
  by_cases e:i=j
  ·subst e;rw[if_pos rfl,if_pos (by rw[cf0];exact h),show Nat.blt i (i+1)=true by simp];rfl
  ·rw[if_neg e];have:Nat.blt j (i+1)=Nat.blt j i:=by rw[fa4];simp;omega
   rw[this]
 ·rw[fa7 (by rw[List.length_set,cf0];exact hj),fa7 (by rw[cf0];exact hj)]
theorem cf4{s:ByteArray}{i:Nat}(h:i<s.size)(hn:upN (ag0 s i)=ag0 s i):ce8 s i=ce8 s (i+1):=by
 rw[←cf3 h,hn];refine ff3 fun j=>?_
 rw[fc4]
 by_cases e:i=j
 ·subst e;rw[if_pos rfl,if_pos (by rw[cf0];exact h),cf1 h,ce7];rfl
 ·rw[if_neg e]
theorem cf5(s:ByteArray):ce8 s s.size=(upL s s.size).map fun n=>.imm (.int .u8 n):=by
 refine ff3 fun j=>?_
 rcases ex7 j s.size with hj|hj
 ·rw[cf1 hj,upL,List.map_map,ey3,fe3 hj,show Nat.blt j s.size=true by simpa using hj];rfl
 ·rw[fa7 (by rw[cf0];exact hj),fa7 (by rw[ey4,ce9];exact hj)]
structure SUp(s:ByteArray) where
 i:Nat
 hi:i≤s.size
set_option maxHeartbeats 1000000 in
theorem cf6(s:ByteArray):Ev E 318 [.str s] (.d (.str (upF s))):=Ev.fit fun hfit=>by
 have hs:=(hfit (.str s) Oc).str;have hlen:(bb5 s).length=s.size:=bb6 s;refine ye1 func318 ntmps318 fun _ _ _=>?_
 repeat'(first|refine yz ?_|refine bc4 rfl rfl rfl rfl rfl rfl rfl rfl ?_)
 rw[hlen,←cf2];refine ac7 (α:=SUp s) (fun p=>⟨[(3,.own 0),(8,.own 0),(9,.d (.int s.size)),(10,.d (.int p.i))],[.mrow 5 1 (ce8 s p.i)]⟩) (fun p=>s.size-p.i) ⟨0,by omega⟩ (zle 1) ?_;rintro⟨i,hi⟩;dsimp only;have hrl:=cf0 s i;rcases ex7 i s.size with hlt|hge
 ·have hd1:decide ((i:Int)<(s.size:Int))=true:=by simpa using hlt
  have hti:(i:Int).toNat=i:=fb2 i;have hx:(ce8 s i)[(i:Int).toNat]? =some (.imm (.int .u8 (ag0 s i))):=by rw[hti,cf1 hlt,ce7];rfl
  have hb:=bv9 s i hlt
  cases h1:decide (ag0 s i≥97)with
  |false=>
   have hn:upN (ag0 s i)=ag0 s i:=by unfold upN;rw[h1];rfl
   repeat'(first|refine yz ?_|refine bc7 rfl rfl rfl rfl rfl rfl rfl rfl (by constructor<;>first|omega|(simp;omega)|decide) ?_|refine bc8 _ rfl rfl rfl rfl rfl rfl hx rfl ?_|refine yx ?_)
   refine ac1 ?_;refine⟨⟨i+1,by omega⟩,by dsimp only;omega,?_⟩;rw[cf4 hlt hn];exact(zle 1)
  |true=>
   cases h2:decide (ag0 s i≤122)with
   |false=>
    have hn:upN (ag0 s i)=ag0 s i:=by unfold upN;rw[h1,h2];rfl
    repeat'(first|refine yz ?_|refine bc7 rfl rfl rfl rfl rfl rfl rfl rfl (by constructor<;>first|omega|(simp;omega)|decide) ?_|refine bc8 _ rfl rfl rfl rfl rfl rfl hx rfl ?_|refine yx ?_)
    refine ac1 ?_;refine⟨⟨i+1,by omega⟩,by dsimp only;omega,?_⟩;rw[cf4 hlt hn];exact(zle 1)
   |true=>
    have h1':=of_decide_eq_true h1;have h2':=of_decide_eq_true h2;have hn:ag0 s i-97+65=upN (ag0 s i):=by unfold upN;rw[h1,h2];simp;omega
    repeat'(first|refine yz ?_|refine bc7 rfl rfl rfl rfl rfl rfl rfl rfl (by constructor<;>first|omega|(simp;omega)|decide) ?_|refine bc8 _ rfl rfl rfl rfl rfl rfl hx rfl ?_|refine bc9 _ rfl rfl rfl rfl rfl rfl hx rfl rfl rfl ?_|refine yx ?_)
    refine ac1 ?_;refine⟨⟨i+1,by omega⟩,by dsimp only;omega,?_⟩;rw[hti,hn,cf3 hlt];exact(zle 1)
 ·have hd1:decide ((i:Int)<(s.size:Int))=false:=by simp;omega
  obtain rfl:i=s.size:=Oa
  repeat'(refine yz ?_)
  refine bc5 0 rfl ?_;dsimp only[ar5,ar4];have he:=cf5 s
  repeat'(first|refine yz ?_|refine bc6 (upL s s.size) rfl rfl rfl rfl rfl rfl rfl rfl he ?_|exact zD)
def cf7:List ByteArray:=[⟨#[77,65,84,67,72]⟩,⟨#[79,80,84,73,79,78,65,76]⟩,⟨#[87,72,69,82,69]⟩,⟨#[85,78,87,73,78,68]⟩,⟨#[65,83]⟩,⟨#[87,73,84,72]⟩,⟨#[68,73,83,84,73,78,67,84]⟩,⟨#[79,82,68,69,82]⟩,⟨#[66,89]⟩,⟨#[65,83,67]⟩,⟨#[68,69,83,67]⟩,⟨#[83,75,73,80]⟩,⟨#[76,73,77,73,84]⟩,⟨#[82,69,84,85,82,78]⟩,⟨#[67,82,69,65,84,69]⟩,⟨#[77,69,82,71,69]⟩,⟨#[83,69,84]⟩,⟨#[82,69,77,79,86,69]⟩,⟨#[68,69,76,69,84,69]⟩,⟨#[68,69,84,65,67,72]⟩,⟨#[65,78,68]⟩,⟨#[79,82]⟩,⟨#[78,79,84]⟩,⟨#[73,78]⟩,⟨#[73,83]⟩,⟨#[78,85,76,76]⟩,⟨#[84,82,85,69]⟩,⟨#[70,65,76,83,69]⟩,⟨#[87,65,76,75]⟩,⟨#[84,82,65,73,76]⟩,⟨#[83,73,77,80,76,69]⟩,⟨#[83,72,79,82,84,69,83,84]⟩,⟨#[65,78,89]⟩]
def cf8(s:ByteArray):Bool:=cf7.any fun w=>w.toList==(upF s).toList
def upB(b:UInt8):UInt8:=UInt8.ofNat (upN b.toNat).toNat
theorem cf9(ns:List Int):(Go.Abs.strOf ns).data.toList=ns.map fun n=>UInt8.ofNat n.toNat:=by
 have key:∀(ns:List Int) (r:ByteArray),(ns.foldl (fun r n=>r.push (UInt8.ofNat n.toNat)) r).data.toList=r.data.toList++ns.map fun n=>UInt8.ofNat n.toNat:=by
  intro ns
  induction ns with
  |nil=>intro r;simp
  |cons n ns ih=>
   intro r;rw[fb7,ih];simp[ByteArray.push]
 have:=key ns ByteArray.empty;unfold Go.Abs.strOf;rw[this];simp
theorem cg0(s:ByteArray):(upF s).data.toList=s.data.toList.map upB:=by
 unfold upF;rw[cf9];refine ff3 fun j=>?_
 have hl:s.data.toList.length=s.size:=Oc
 rcases ex7 j s.size with hj|hj
 ·have hx:=ex6 (show j<s.data.toList.length by omega);rw[ey3,upL,ey3,fe3 hj,ey3,hx];simp only[fa6,upB,ag0,fb6,hx,fd0]
 ·rw[fa7 (by rw[ey4,ce9];exact hj),fa7 (by rw[ey4];omega)]
theorem cg1(b:UInt8):upB b=32↔b=32:=by
 have key:∀c:Fin 256,(upB (UInt8.ofFin c)=32)=(UInt8.ofFin c=32):=by
  intro c;revert c;decide+kernel
 have hb:b=UInt8.ofFin b.toFin:=by rfl
 rw[hb];exact iff_of_eq (key b.toFin)
theorem cg2:∀l:List UInt8,Lib.contains l [32]=decide ((32:UInt8)∈l)
 |[]=>by simp[Lib.contains,Lib.index]
 |b::l=>by
  rw[cb8,cg2 l];have:([32]:List UInt8).isPrefixOf (b::l)=((32:UInt8)==b):=by simp only[List.isPrefixOf,Bool.and_true]
  rw[this,fa4,fa2,beq_iff_eq,decide_eq_true_eq,decide_eq_true_eq,ey2]
theorem cg3(s:ByteArray):(32:UInt8)∈(upF s).data.toList↔(32:UInt8)∈s.data.toList:=by
 rw[cg0,ey6];constructor
 ·rintro⟨b,h1,h2⟩;rw[(cg1 b).1 h2]at h1;exact h1
 ·intro h;exact⟨32,h,(cg1 32).2 rfl⟩
theorem cg4:∀w∈cf7.map (·.data.toList),(32:UInt8) ∉ w:=by
 have:(cf7.map (·.data.toList)).all (fun w=> !w.contains 32)=true:=Od
 intro w hw hm;have:=ez8.1 this w hw;simp[List.contains_iff_mem]at this;exact this hm
theorem cg5(U:List UInt8):((cf7.map (·.data.toList)).any fun w=>U==w)=cf7.any fun w=>w.data.toList==U:=by
 rw[List.any_map];congr 1
 funext w
 simp only[Function.comp];rw[fa4,beq_iff_eq,beq_iff_eq];exact⟨fun h=>h.symm,fun h=>h.symm⟩
theorem cg6(s:ByteArray):cf8 s=cf7.any fun w=>w.data.toList==(upF s).data.toList:=by
 unfold cf8;simp only[ByteArray.toList_eq]
theorem cg7(s:ByteArray)(h:Lib.contains s.data.toList [32]=false):Lib.contains (cb6 (cf7.map (·.data.toList))) (32::((upF s).data.toList++ [32]))=cf8 s:=by
 rw[cg2,decide_eq_false_iff_not]at h;rw[cc1 _ (fun hm=>h ((cg3 s).1 hm)) _ cg4,cg5,cg6]
theorem cg8(s:ByteArray)(h:Lib.contains s.data.toList [32]=true):cf8 s=false:=by
 rw[cg2,decide_eq_true_eq]at h;rw[cg6,fc2];intro w hw he;have e:=eq_of_beq he;refine cg4 _ (fa5 hw) ?_;rw[e];exact(cg3 s).2 h
theorem cg9(s sub:ByteArray)(hs:s.size<4294967281):Ev E 317 [.str s,.str sub] (.d (.bool (Lib.contains s.data.toList sub.data.toList))):=by
 refine bs8 rfl fun w F hG _ _=>?_
 obtain⟨-,-,m,hm⟩:=hG.2;refine(Tryz.strings_Contains s sub m w hs hm).mono ?_;rintro e w' ⟨rfl,rfl⟩;exact⟨rfl,Below.refl _ _⟩
theorem ch0(s:ByteArray):(upF s).size=s.size:=by unfold upF;rw[as9,ce9]
set_option maxRecDepth 10000 in
attribute [local irreducible] upF cf8 cb6 cf7 in
theorem ch1(s:ByteArray)(hs:s.size≤1000):Ev E 267 [.str s] (.d (.bool (cf8 s))):=by
 have hu:=cf6 s;have hus:=ch0 s;have h1:(⟨#[32]⟩:ByteArray).size=1:=rfl;have hc1:=cg9 s ⟨#[32]⟩ Oa
 cases h0: !(s.toList==(⟨#[]⟩:ByteArray).toList)with
 |false=>
  have e:cf8 s=false:=by
   rw[cg6,cg0];have:s.data.toList=[]:=by rw[Bool.not_eq_false',beq_iff_eq,ByteArray.toList_eq,ByteArray.toList_eq]at h0;exact h0
   rw[this];unfold cf7;decide+kernel
  rw[e];refine ye1 func267 ntmps267 fun _ _ _=>?_
  exact Ok
 |true=>
  cases hb:Lib.contains s.data.toList [32]with
  |true=>
   rw[show(⟨#[32]⟩:ByteArray).data.toList=[32]from rfl,hb]at hc1;rw[cg8 s hb];refine ye1 func267 ntmps267 fun _ _ _=>?_
   repeat'(first|refine yz ?_|refine yp b317 hc1 ?_|refine yx ?_|exact zD)
  |false=>
   rw[show(⟨#[32]⟩:ByteArray).data.toList=[32]from rfl,hb]at hc1;have hr:=cg7 s hb;refine ye1 func267 ntmps267 fun _ _ _=>?_
   repeat'(first|refine yz ?_|refine qP (d:=7) rfl rfl rfl rfl rfl rfl b317 (hc1) ?_|refine yp b318 hu ?_|refine qP (d:=15) rfl rfl rfl rfl rfl rfl b317 ((cg9 _ _ Oe)) ?_|refine yx ?_)
   rw[show ∀x,(cond (bif true then !false else false) x false)=x from fun _=>rfl];refine congrArg D.bool (Eq.trans (congr (congrArg Lib.contains ?_) ?_) hr)
   ·unfold cb6 cf7;decide+kernel
   ·simp only[ByteArray.data_append,Array.toList_append];simp
def ch2(s:ByteArray):Bool:=bv6 s&& !cf8 s
theorem ch3{s:ByteArray}(h:bv6 s=true):s.size≤1000:=by
 unfold bv6 at h;simp only[ey9,decide_eq_true_eq]at h;omega
theorem ch4(s:ByteArray):Ev E 200 [.str s] (.d (.bool (ch2 s))):=by
 have h1:=bw0 s;unfold ch2
 cases hn:bv6 s with
 |false=>
  rw[hn]at h1;refine ye1 func200 ntmps200 fun _ _ _=>?_
  repeat'(first|refine yz ?_|refine yp b179 h1 ?_|exact zD)
 |true=>
  rw[hn]at h1;have h2:=ch1 s (ch3 hn);refine ye1 func200 ntmps200 fun _ _ _=>?_
  repeat'(first|refine yz ?_|refine yp b179 h1 ?_|refine yp b267 h2 ?_|exact zD)
def nlF(e:Ex):Bool:=
 bif e.op==2||(e.op==3||e.op==4)then !ch2 e.nm else
 bif e.op==23 then cc4 e.nm==0 else
 bif e.op==24 then !cc6 e.nm else false
theorem ch5(e:Ex):Ev E 186 [bu5 e] (.d (.bool (nlF e))):=by
 have h1:=ch4 e.nm;have h2:=cc7 e.nm;have h3:=cc8 e.nm;refine ye1 func186 ntmps186 fun _ _ _=>?_
 repeat'(first|refine yz ?_|refine yp bp5 h1 ?_|refine yp b261 h2 ?_|refine yp b263 h3 ?_|(refine qV rfl ?_ ?_<;>intro _))
 all_goals(refine congrArg D.bool ?_;simp_all [nlF,fc3])
end Go.Proofs.YtndgolmgaenlfaaGreatDoor
namespace Go.Proofs.YtndgolmgaenlfaaGreatDoor
set_option maxRecDepth 4000
open Go Go.Abs Go.Val Go.RowKit Go.Proofs.Tryz
attribute [local irreducible] go SGo an1 Ev au7 EvO EvS
def ch6(e:Ex)(w:Bool):Int:=
 bif (decide (e.op<1)||decide (e.op>24))||(!cd1 e|| !cd4 e)then 1 else
 bif e.op==1&& !cd6 e.v then 8 else
 bif nlF e then 6 else
 bif e.op==24&&w then 9 else 0
mutual
def ch7:Ex→Bool→Int
 |.mk op v nm ds ks,w=>bif ch6 (.mk op v nm ds ks) w !=0 then ch6 (.mk op v nm ds ks) w else ch8 ks (w||op==24)
def ch8:List Ex→Bool→Int
 |[],_=>0
 |x::r,w=>bif ch7 x w !=0 then ch7 x w else ch8 r w
end
theorem ch9{l:List Ex}{i:Nat}{x:Ex}{w:Bool}(h:l[i]? =some x):ch8 (l.drop i) w=bif ch7 x w !=0 then ch7 x w else ch8 (l.drop (i+1)) w:=by
 rw[br5 h,ch8]
structure SVs(l:List Ex)(w:Bool) where
 i:Nat
 hi:i≤l.length
 ok:ch8 l w=ch8 (l.drop i) w
theorem ci0{e:Ex}{w:Bool}(h:ch6 e w=0):ch7 e w=ch8 e.ks (w||e.op==24):=by
 cases e
 rw[ch7,h];rfl
theorem ci1{e:Ex}{w:Bool}{c:Int}(h:ch6 e w=c)(hc:(c !=0)=true):c=ch7 e w:=by
 cases e
 rw[ch7,h,hc];rfl
set_option maxHeartbeats 4000000 in
theorem ci2(e:Ex):∀w,Ev E 119 [bu5 e,.bool w] (.d (.int (ch7 e w))):=by
 refine bv4 (P:=fun e=>∀w,Ev E 119 [bu5 e,.bool w] (.d (.int (ch7 e w)))) (fun op v nm ds ks ih w=>?_) e;refine Ev.fit fun hfit=>?_
 obtain⟨-,-,-,hmax,-⟩:=bv2 (hfit (bu5 (.mk op v nm ds ks)) Oc);have hlen:(bu3 (.mk op v nm ds ks)).length=ks.length:=bv0 _;have hkg:∀(i:Nat) (x:Ex),ks[i]? =some x→(bu3 (.mk op v nm ds ks))[(i:Int).toNat]? =some (bu5 x):=fun i x h=>bu8 (e:=.mk op v nm ds ks) (by rw[fb2];exact h)
 have hks:Ex.ks (.mk op v nm ds ks)=ks:=rfl;generalize Ex.mk op v nm ds ks=e at*;rw[hks]at hmax;have h1:=cd2 e;have h2:=cd5 e;have h3:=cd7 e.v;have h4:=ch5 e;have hsf:∀c,(bif (decide (e.op<1)||decide (e.op>24))||(!cd1 e|| !cd4 e)then 1 else bif e.op==1&& !cd6 e.v then 8 else bif nlF e then 6 else bif e.op==24&&w then 9 else 0)=c→ch6 e w=c:=fun c h=>h
 have hbad:=fun c (h:ch6 e w=c)=>ci1 h
 have hok:=ci0 (e:=e) (w:=w);rw[hks]at hok;clear hks;generalize hW:(w||e.op==24)=W at hok
 cases w
 all_goals
  refine ye2 func119 ntmps119 fun _ _ _=>?_
  repeat'(first|refine yz ?_|refine yp b183 h1 ?_|refine yp b184 h2 ?_|refine yp b185 h3 ?_|refine yp b186 h4 ?_|(refine yy ?_ ?_<;>intro _)|(refine qV rfl ?_ ?_<;>intro _))
  any_goals(refine congrArg D.int (hbad _ (hsf _ ?_) rfl);clear ih hkg hfit hsf hbad hok h1 h2 h3 h4;simp_all [fc3];done)
 all_goals
  rw[hok (hsf _ (by clear ih hkg hfit hsf hbad hok h1 h2 h3 h4;simp_all [fc3]))];clear hsf hbad hok h1 h2 h3 h4;refine ac7 (α:=SVs ks W) (fun p=>⟨[(1,.d (.bool _)),(2,.ptr 0 0),(44,.d (.sl (bu3 e))),(45,.d (.int (bu3 e).length)),(46,.d (.int p.i))],[.var 33 (.w (.d (bu5 e)))]⟩) (fun p=>ks.length-p.i) ⟨0,by omega,rfl⟩ (zle 1) ?_;rintro⟨i,hi,ok⟩;dsimp only;rcases ex7 i ks.length with hlt|hge
  ·have hd1:decide ((i:Int)<((bu3 e).length:Int))=true:=by rw[hlen];simpa using hlt
   have hx0:=ex6 hlt;generalize ks[i]=x at hx0;have hx:=hkg i x hx0;have hv:=ih x (ey0 hx0) W;rw[←hW]at hv;rw[ok,ch9 hx0]
   cases hz:ch7 x W !=0 with
   |true=>
    rw[←hW]at hz ⊢
    repeat'(first|refine yz ?_|refine yi (bu5 x) hx ?_|refine yp b119 hv ?_|exact zD)
   |false=>
    rw[←hW]at hz
    repeat'(first|refine yz ?_|refine yi (bu5 x) hx ?_|refine yp b119 hv ?_)
    refine ac1 ?_;exact⟨⟨i+1,by omega,by rw[ok,ch9 hx0,←hW,hz];rfl⟩,by dsimp only;omega,(zle 1)⟩
  ·have hd1:decide ((i:Int)<((bu3 e).length:Int))=false:=by rw[hlen];simp;omega
   rw[ok,ez5 hge,ch8]
   exact Ok
end Go.Proofs.YtndgolmgaenlfaaGreatDoor
namespace Go.Proofs.YtndgolmgaenlfaaGreatDoor
set_option maxRecDepth 4000
open Go Go.Abs Go.Val Go.RowKit Go.Proofs.Tryz
attribute [local irreducible] go SGo an1 Ev au7 EvO EvS
def ci3(e:Ex):Int:=bif decide (dp e>24)then 5 else bif decide (nd e>300)then 4 else ch7 e false
theorem ci4(e:Ex)(h1:dp e≤1000000)(h2:nd e≤1000000):Ev E 61 [bu5 e] (.d (.int (ci3 e))):=by
 have a1:=ce6 e h1;have a2:=ce1 e h2;have a3:=ci2 e false;unfold ci3
 cases g1:decide (dp e>24)with
 |true=>
  have b1:decide ((dp e:Int)>24)=true:=by simp at g1 ⊢;omega
  refine ye1 func61 ntmps61 fun _ _ _=>?_
  repeat'(first|refine yz ?_|refine yp b117 a1 ?_|exact zD)
 |false=>
  have b1:decide ((dp e:Int)>24)=false:=by simp at g1 ⊢;omega
  cases g2:decide (nd e>300)with
  |true=>
   have b2:decide ((nd e:Int)>300)=true:=by simp at g2 ⊢;omega
   refine ye1 func61 ntmps61 fun _ _ _=>?_
   repeat'(first|refine yz ?_|refine yp b117 a1 ?_|refine yp b118 a2 ?_|exact zD)
  |false=>
   have b2:decide ((nd e:Int)>300)=false:=by simp at g2 ⊢;omega
   refine ye1 func61 ntmps61 fun _ _ _=>?_
   repeat'(first|refine yz ?_|refine yp b117 a1 ?_|refine yp b118 a2 ?_|refine yp b119 a3 ?_|exact zD)
end Go.Proofs.YtndgolmgaenlfaaGreatDoor
namespace Go.Proofs.YtndgolmgaenlfaaGreatDoor
set_option maxRecDepth 4000
open Go Go.Abs Go.Val Go.RowKit Go.Proofs.Tryz
structure PP where
 key:ByteArray
 e:Ex
structure NP where
 vr:ByteArray
 lb:List ByteArray
 ps:List PP
structure EP where
 vr:ByteArray
 ty:List ByteArray
 dir:Int
 mode:Int
 mn:Int
 mx:Int
 ps:List PP
structure PA where
 vr:ByteArray
 ns:List NP
 es:List EP
structure IT where
 e:Ex
 asn:ByteArray
structure SK where
 e:Ex
 dc:Bool
structure SIt where
 vr:ByteArray
 key:ByteArray
 lb:ByteArray
 off:Bool
 e:Ex
structure CL where
 k:Int
 opt:Bool
 ds:Bool
 ps:List PA
 wh:List Ex
 e:Ex
 nm:ByteArray
 it:List IT
 od:List SK
 sk:Int
 lm:Int
 st:List SIt
 ns:List ByteArray
def ci5(p:PP):D:=.agg [.str p.key,.int p.e.op,.int p.e.v.k,.int p.e.v.n,.int p.e.v.d,.str p.e.v.s,.sl (kids p.e.v),.str p.e.nm,.bool p.e.ds,.sl (bu3 p.e)]
def ci6(n:NP):D:=.agg [.str n.vr,.sl (n.lb.map .str),.sl (n.ps.map ci5)]
def ci7(e:EP):D:=.agg [.str e.vr,.sl (e.ty.map .str),.int e.dir,.int e.mode,.int e.mn,.int e.mx,.sl (e.ps.map ci5)]
def ci8(p:PA):D:=.agg [.str p.vr,.sl (p.ns.map ci6),.sl (p.es.map ci7)]
def ci9(x:IT):D:=.agg [.int x.e.op,.int x.e.v.k,.int x.e.v.n,.int x.e.v.d,.str x.e.v.s,.sl (kids x.e.v),.str x.e.nm,.bool x.e.ds,.sl (bu3 x.e),.str x.asn]
def cj0(x:SK):D:=.agg [.int x.e.op,.int x.e.v.k,.int x.e.v.n,.int x.e.v.d,.str x.e.v.s,.sl (kids x.e.v),.str x.e.nm,.bool x.e.ds,.sl (bu3 x.e),.bool x.dc]
def cj1(x:SIt):D:=.agg [.str x.vr,.str x.key,.str x.lb,.bool x.off,.int x.e.op,.int x.e.v.k,.int x.e.v.n,.int x.e.v.d,.str x.e.v.s,.sl (kids x.e.v),.str x.e.nm,.bool x.e.ds,.sl (bu3 x.e)]
def cj2(c:CL):D:=.agg [.int c.k,.bool c.opt,.bool c.ds,.sl (c.ps.map ci8),.sl (bu4 c.wh),.int c.e.op,.int c.e.v.k,.int c.e.v.n,.int c.e.v.d,.str c.e.v.s,.sl (kids c.e.v),.str c.e.nm,.bool c.e.ds,.sl (bu3 c.e),
 .str c.nm,.sl (c.it.map ci9),.sl (c.od.map cj0),.int c.sk,.int c.lm,.sl (c.st.map cj1),.sl (c.ns.map .str)]
def s0B(s:ByteArray):Bool:=isS s ⟨#[]⟩
mutual
def cj3:Ex→Bool
 |.mk op _ _ _ ks=>op==24||hagL ks
def hagL:List Ex→Bool
 |[]=>false
 |x::r=>cj3 x||hagL r
end
def cj4(l:List PP):List ByteArray:=l.map fun p=>p.key
def cj5:List ByteArray→Bool
 |a::b::r=>Op.bytesLess a.toList b.toList&&cj5 (b::r)
 |_=>true
def cj6(e:EP):Int:=bif e.mode==0 then 1 else min (max e.mx 0) 13
def hopS(l:List EP):Int:=l.foldl (fun n e=>n+cj6 e) 0
def cj7(p:PA):Bool:=(p.ns.length==0||decide (p.es.length>6))||decide (hopS p.es>12)
def cj8(e:EP):Bool:=
 bif (decide (e.dir<1)||decide (e.dir>3))||(decide (e.mode<0)||decide (e.mode>5))then false else
 bif e.mode==0 then e.mn==0&&e.mx==0 else decide (e.mn≥0) &&(decide (e.mn≤e.mx) &&(decide (e.mx≥1) &&(decide (e.mx≤6) &&e.ps.length==0)))
def cj9(e:EP):Bool:=e.mode==0&&(e.ty.length==1&&e.dir !=3)
structure PT where
 nm:ByteArray
 ns:List ByteArray
 ps:List PP
def ck0(x:PT):D:=.agg [.str x.nm,.sl (x.ns.map .str),.sl (x.ps.map ci5)]
def ptN(n:NP):PT:=⟨n.vr,n.lb,n.ps⟩
def ptE(e:EP):PT:=⟨e.vr,e.ty,e.ps⟩
def ck1:List NP→List EP→List PT
 |[],_=>[]
 |n::r,[]=>ptN n::ck1 r []
 |n::r,e::q=>ptN n::ptE e::ck1 r q
def ck2(s:ByteArray):Bool:=s0B s||ch2 s
def ck3(x:PT):Bool:= !(ck2 x.nm)||(!(x.ns.all ch2)|| !((cj4 x.ps).all ch2))
def ck4(x:PT):Bool:= !(cj5 x.ns)|| !(cj5 (cj4 x.ps))
def ck5:List Ex→Int
 |[]=>0
 |e::r=>bif ci3 e !=0 then ci3 e else ck5 r
def ck6(l:List PT):List Ex:=l.flatMap fun x=>x.ps.map fun p=>p.e
def ck7(p:PA)(create:Bool):Int:=
 bif cj7 p then 4 else
 bif p.ns.length !=p.es.length+1||p.es.any fun e=> !cj8 e then 1 else
 bif !(ck2 p.vr)||(ck1 p.ns p.es).any ck3 then 6 else
 bif (ck1 p.ns p.es).any ck4 then 26 else
 bif ck5 (ck6 (ck1 p.ns p.es)) !=0 then ck5 (ck6 (ck1 p.ns p.es))else
 bif (ck6 (ck1 p.ns p.es)).any cj3 then 9 else
 bif create&&p.es.any fun e=> !cj9 e then 1 else 0
def ck8(e:Ex):Bool:=e.op==0&&(cc9 e.v&&(s0B e.nm&&(!e.ds&&e.ks.length==0)))
def ck9(n:Int):Bool:=n==0||n== -1
def cl0(c:CL):Bool:=
 let w:=c.k==3||c.k==4
 bif c.opt&& !(c.k==1||c.k==8)||c.ds&& !w then true else
 bif decide (c.ps.length>0) && !(c.k==1||(c.k==5||c.k==6))||decide (c.wh.length>0) && !(c.k==1||c.k==3)then true else
 bif !(c.k==2) &&(!(ck8 c.e)|| !(s0B c.nm))|| !w&&(decide (c.it.length>0)||decide (c.od.length>0))then true else
 bif !w&&(!(ck9 c.sk)|| !(ck9 c.lm))||(decide (c.sk< -1)||(decide (c.sk>1000000000000000)||(decide (c.lm< -1)||decide (c.lm>1000000000000000))))then true else
 decide (c.st.length>0) && !(c.k==7)||decide (c.ns.length>0) && !(c.k==8)
def inN(n lo hi:Nat):Bool:=decide (lo≤n) &&decide (n≤hi)
def cl1(c:CL):Bool:=
 bif c.k==1||c.k==5 then !(inN c.ps.length 1 6)||decide (c.wh.length>1)else
 bif c.k==6 then c.ps.length !=1 else
 bif c.k==3||c.k==4 then !(inN c.it.length 1 16)||(decide (c.od.length>16)||decide (c.wh.length>1))else
 bif c.k==7 then !(inN c.st.length 1 16)else
 bif c.k==8 then !(inN c.ns.length 1 16)else false
def cl2(x:SIt):Int:=
 bif !(s0B x.lb) &&(!(s0B x.key)|| !(ck8 x.e))||s0B x.lb&&x.off then 1 else
 bif !(ch2 x.vr)||(!(s0B x.lb) && !(ch2 x.lb)||s0B x.lb&& !(ch2 x.key))then 6 else
 bif s0B x.lb then ci3 x.e else 0
def cl3:List Int→Int
 |[]=>0
 |x::r=>bif x !=0 then x else cl3 r
def cl4(s:ByteArray):Int:=bif ch2 s then 0 else 6
def cl5(c:CL):Int:=
 bif (decide (c.k<1)||decide (c.k>8))||cl0 c then 1 else
 bif cl1 c then 4 else
 cl3 (c.ps.map (fun p=>ck7 p (c.k==5))++c.wh.map ci3++(bif c.k==2 then [ci3 c.e,cl4 c.nm]else [])++c.it.flatMap (fun x=>[ci3 x.e,cl4 x.asn])++c.od.map (fun x=>ci3 x.e)++c.st.map cl2++c.ns.map cl4)
end Go.Proofs.YtndgolmgaenlfaaGreatDoor
