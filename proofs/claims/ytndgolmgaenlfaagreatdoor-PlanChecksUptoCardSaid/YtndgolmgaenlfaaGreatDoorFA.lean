/- A word between blanks in a text of words between blanks: it is one of them; The functions' numbers of operands and the aggregates' names, by both text. Conditions: each part's own, as it says. -/
import Derived.Test.YtndgolmgaenlfaaGreatDoorGC
import Derived.Test.YtndgolmgaenlfaaGreatDoorMA
import Derived.Lib.IndexMore
import Derived.Test.YtndgolmgaenlfaaGreatDoorGB
set_option linter.unusedVariables false
set_option linter.unusedSimpArgs false
namespace Go.Proofs.YtndgolmgaenlfaaGreatDoor
set_option maxRecDepth 4000
open Go Go.Abs Go.Val Go.Proofs.Tryz
def cf4:List (List UInt8)→List UInt8
 |[]=>[32]
 |w::r=>32::(w++cf4 r)
theorem cf5:∀r,∃t,cf4 r=32::t
 |[]=>⟨[],rfl⟩
 |w::r=>⟨w++cf4 r,rfl⟩
theorem cf6(b:UInt8)(l sub:List UInt8):Lib.contains (b::l) sub=(sub.isPrefixOf (b::l)||Lib.contains l sub):=by
 unfold Lib.contains;have hg:=Lib.index_ge l sub;rw[show Lib.index (b::l) sub=if sub.isPrefixOf (b::l)then 0 else if Lib.index l sub== -1 then-1 else Lib.index l sub+1 from rfl]
 cases hp:sub.isPrefixOf (b::l)with
 |true=>simp
 |false=>
  simp only[Bool.false_eq_true,if_false,fm9]
  by_cases h:Lib.index l sub= -1
  ·simp[h]
  ·have hb:(Lib.index l sub== -1)=false:=by rw[beq_eq_false_iff_ne];exact h
   rw[hb];simp only[Bool.false_eq_true,if_false,decide_eq_decide];omega
theorem cf7(p:List UInt8):∀(w l:List UInt8),(32:UInt8) ∉ w→Lib.contains (w++l) (32::p)=Lib.contains l (32::p)
 |[],l,_=>rfl
 |b::w,l,h=>by
  simp only[fk7,not_or]at h;have hb:((32:UInt8)==b)=false:=by rw[beq_eq_false_iff_ne];exact h.1
  rw[fn1,cf6,cf7 p w l h.2];have:(32::p).isPrefixOf (b::(w++l))=false:=by simp only[List.isPrefixOf,hb,fp0]
  rw[this,fm9]
theorem cf8:∀(U w t:List UInt8),(32:UInt8) ∉ U→(32:UInt8) ∉ w→(U++ [32]).isPrefixOf (w++32::t)=(U==w)
 |[],[],t,_,_=>by simp[List.isPrefixOf]
 |[],b::w,t,_,h=>by
  simp only[fk7,not_or]at h;have hb:((32:UInt8)==b)=false:=by rw[beq_eq_false_iff_ne];exact h.1
  simp only[fm7,fn1,List.isPrefixOf,hb,fp0];rfl
 |a::U,[],t,h,_=>by
  simp only[fk7,not_or]at h;have ha:(a==(32:UInt8))=false:=by rw[beq_eq_false_iff_ne];exact fun e=>h.1 e.symm
  simp only[fm7,fn1,List.isPrefixOf,ha,fp0];rfl
 |a::U,b::w,t,h,h'=>by
  simp only[fk7,not_or]at h h';simp only[fn1,List.isPrefixOf];rw[cf8 U w t h.2 h'.2];rfl
theorem cf9(U:List UInt8)(hU:(32:UInt8) ∉ U):∀ws:List (List UInt8),(∀w∈ws,(32:UInt8) ∉ w)→Lib.contains (cf4 ws) (32::(U++ [32]))=ws.any fun w=>U==w
 |[],_=>by
  have:(32::(U++ [32])).isPrefixOf [(32:UInt8)]=false:=by cases U<;>simp[List.isPrefixOf]
  rw[cf4,cf6,this];simp[Lib.contains,Lib.index]
 |w::r,h=>by
  obtain⟨t,ht⟩:=cf5 r;have ih:=cf9 U hU r fun x hx=>h x (by simp[hx])
  rw[cf4,cf6,cf7 _ w _ (h w Oc),ih,fo4];congr 1;rw[ht];show((32:UInt8)==32&&(U++ [32]).isPrefixOf (w++32::t))=_;rw[cf8 U w t hU (h w Oc)];rfl
attribute [local irreducible] Ev EvO EvS au8 an1 SGo go
def isS(s:ByteArray)(t:ByteArray):Bool:=s.toList==t.toList
def cg0(s:ByteArray):Bool:=isS s ⟨#[105,100]⟩||(isS s ⟨#[116,121,112,101]⟩||(isS s ⟨#[108,97,98,101,108,115]⟩||(isS s ⟨#[115,105,122,101]⟩||(isS s ⟨#[108,101,110,103,116,104]⟩||(isS s ⟨#[110,111,100,101,115]⟩||
 (isS s ⟨#[101,100,103,101,115]⟩||(isS s ⟨#[102,105,114,115,116]⟩||(isS s ⟨#[108,97,115,116]⟩||(isS s ⟨#[115,116,97,114,116]⟩||(isS s ⟨#[101,110,100]⟩||(isS s ⟨#[97,98,115]⟩||isS s ⟨#[116,101,120,116]⟩)))))))))))
def cg1(s:ByteArray):Bool:=isS s ⟨#[99,111,97,108,101,115,99,101]⟩
def cg2(s:ByteArray):Int:=bif cg0 s then 1 else bif cg1 s then 2 else 0
def cg3(s:ByteArray):Int:=bif cg0 s then 1 else bif cg1 s then 4 else 0
def cg4(s:ByteArray):Bool:=isS s ⟨#[99,111,117,110,116]⟩||(isS s ⟨#[115,117,109]⟩||(isS s ⟨#[109,105,110]⟩||(isS s ⟨#[109,97,120]⟩||(isS s ⟨#[97,118,103]⟩||isS s ⟨#[99,111,108,108,101,99,116]⟩))))
theorem cg5(s:ByteArray):Ev E 261 [.str s] (.tup [.int (cg2 s),.int (cg3 s)]):=by
 refine ye1 func261 ntmps261 fun _ _ _=>?_
 repeat'(first|refine yz ?_|(refine qV rfl ?_ ?_<;>intro _))
 all_goals simp_all [cg2,cg3,cg0,cg1,isS,fn2]
theorem cg6(s:ByteArray):Ev E 280 [.str s] (.tup [.int (cg2 s),.int (cg3 s)]):=by
 refine ye1 func280 ntmps280 fun _ _ _=>?_
 repeat'(first|refine yz ?_|(refine qV rfl ?_ ?_<;>intro _))
 all_goals simp_all [cg2,cg3,cg0,cg1,isS,fn2]
theorem cg7(s:ByteArray):Ev E 263 [.str s] (.d (.bool (cg4 s))):=by
 refine ye1 func263 ntmps263 fun _ _ _=>?_
 repeat'(first|refine yz ?_|(refine qV rfl ?_ ?_<;>intro _))
 all_goals(refine congrArg D.bool ?_;simp_all [cg4,isS])
theorem cg8(s:ByteArray):Ev E 279 [.str s] (.d (.bool (cg4 s))):=by
 refine ye1 func279 ntmps279 fun _ _ _=>?_
 repeat'(first|refine yz ?_|(refine qV rfl ?_ ?_<;>intro _))
 all_goals(refine congrArg D.bool ?_;simp_all [cg4,isS])
def cg9(v:V):Bool:=v.k==0&&(v.n==0&&(v.d==0&&(s0 v.s&&l0 v)))
theorem ch0(v:V):Ev E 262 [enc v] (.d (.bool (cg9 v))):=by
 refine ye1 func262 ntmps262 fun _ _ _=>?_
 repeat'(first|refine yz ?_|(refine yy ?_ ?_<;>intro _))
 all_goals(refine congrArg D.bool ?_;simp_all [cg9,s0,l0])
theorem ch1(v:V):Ev E 206 [enc v] (.d (.bool (cg9 v))):=by
 refine ye1 func206 ntmps206 fun _ _ _=>?_
 repeat'(first|refine yz ?_|(refine yy ?_ ?_<;>intro _))
 all_goals(refine congrArg D.bool ?_;simp_all [cg9,s0,l0])
def kn0(e:Ex):Int:=((bx9 e).length:Int)
def ch2(e:Ex):Bool:=
 bif e.op==1||e.op==2 then kn0 e==0 else
 bif e.op==3||(e.op==4||(e.op==5||(e.op==6||e.op==21)))then kn0 e==1 else
 bif e.op==22 then decide (kn0 e≤16)else
 bif e.op==23 then cg2 e.nm==0||(decide (kn0 e≥cg2 e.nm) &&decide (kn0 e≤cg3 e.nm))else
 bif e.op==24 then kn0 e==1||(kn0 e==0&&(isS e.nm ⟨#[99,111,117,110,116]⟩ && !e.ds))else kn0 e==2
theorem ch3(s:ByteArray):(cg3 s==0)=(cg2 s==0):=by
 unfold cg3 cg2
 cases cg0 s<;>cases cg1 s<;>rfl
theorem ch4(e:Ex):Ev E 183 [by1 e] (.d (.bool (ch2 e))):=by
 have ha:=cg5 e.nm;refine ye1 func183 ntmps183 fun _ _ _=>?_
 repeat'(first|refine yz ?_|refine yp b261 ha ?_|(refine yy ?_ ?_<;>intro _)|(refine qV rfl ?_ ?_<;>intro _))
 all_goals(refine congrArg D.bool ?_;simp_all [ch2,kn0,isS,fn2]<;>first|rfl|(intro h;exfalso;omega)|(rw[show(cg2 e.nm==0)=false by rw[beq_eq_false_iff_ne];assumption];rfl))
theorem ch5(e:Ex):Ev E 277 [by1 e] (.d (.bool (ch2 e))):=by
 have ha:=cg6 e.nm;have hz:=ch3 e.nm;refine ye1 func277 ntmps277 fun _ _ _=>?_
 repeat'(first|refine yz ?_|refine yp b280 ha ?_|(refine yy ?_ ?_<;>intro _)|(refine qV rfl ?_ ?_<;>intro _))
 all_goals(refine congrArg D.bool ?_;simp_all [ch2,kn0,isS,fn2]<;>first|rfl|(intro h;exfalso;omega)|(rw[show(cg2 e.nm==0)=false by rw[beq_eq_false_iff_ne];assumption];rfl))
def ch6(op:Int):Bool:=op==2||(op==3||(op==4||(op==23||op==24)))
theorem ch7(op:Int):Ev E 278 [.int op] (.d (.bool (ch6 op))):=by
 refine ye1 func278 ntmps278 fun _ _ _=>?_
 repeat'(first|refine yz ?_|(refine yy ?_ ?_<;>intro _))
 all_goals(refine congrArg D.bool ?_;simp_all [ch6]<;>(rw[fk9];simp[*]))
def ch8(e:Ex):Bool:=(e.op==1||cg9 e.v) &&((ch6 e.op||isS e.nm ⟨#[]⟩) &&(e.op==24|| !e.ds))
theorem ch9(e:Ex):Ev E 184 [by1 e] (.d (.bool (ch8 e))):=by
 have hb:=ch0 e.v;refine ye1 func184 ntmps184 fun _ _ _=>?_
 repeat'(first|refine yz ?_|refine yp b262 hb ?_|refine yx ?_|(refine yy ?_ ?_<;>intro _))
 all_goals(refine congrArg D.bool ?_;simp_all [ch8,ch6,isS])
def ci0(v:V):Bool:=cg9 v||((v.k==1||(v.k==2||v.k==4)) &&Val.okV v)
theorem ci1(v:V):Ev E 185 [enc v] (.d (.bool (ci0 v))):=by
 have hb:=ch0 v;have hv:=bv7 bx3 v;refine ye1 func185 ntmps185 fun _ _ _=>?_
 repeat'(first|refine yz ?_|refine yp b262 hb ?_|refine yp br3 hv ?_|(refine yy ?_ ?_<;>intro _))
 all_goals(refine congrArg D.bool ?_;simp_all [ci0])
mutual
def nd:Ex→Nat
 |.mk _ _ _ _ l=>ndL l+1
def ndL:List Ex→Nat
 |[]=>0
 |x::r=>nd x+ndL r
end
theorem ci2(e:Ex):nd e=ndL e.ks+1:=by cases e;simp[nd,Ex.ks]
theorem ci3:∀{l:List Ex} {x:Ex},x∈l→nd x≤ndL l
 |[],x,h=>by simp at h
 |y::r,x,h=>by
  simp only[ndL];rcases fk7.1 h with e|e
  ·rw[e];omega
  ·have:=ci3 e;omega
theorem ci4{l:List Ex}{i:Nat}{x:Ex}(h:l[i]? =some x):ndL (l.drop i)=nd x+ndL (l.drop (i+1)):=by
 rw[bu4 h];rfl
structure SNd(l:List Ex) where
 i:Nat
 n:Nat
 hi:i≤l.length
 ok:ndL l+1=n+ndL (l.drop i)
theorem ci5(e:Ex):nd e≤1000000→Ev E 118 [by1 e] (.d (.int (nd e))):=by
 refine bz0 (P:=fun e=>nd e≤1000000→Ev E 118 [by1 e] (.d (.int (nd e)))) (fun op v nm ds ks ih hb=>?_) e;refine Ev.fit fun hfit=>?_
 obtain⟨-,-,-,hmax,-⟩:=by8 (hfit (by1 (.mk op v nm ds ks)) Oc);simp only[Ex.ks]at hmax;have hlen:(bx9 (.mk op v nm ds ks)).length=ks.length:=by6 _;have hnd:nd (.mk op v nm ds ks)=ndL ks+1:=ci2 _;rw[hnd]at hb ⊢;refine ye1 func118 ntmps118 fun _ _ _=>?_
 repeat'(refine yz ?_)
 refine ac7 (α:=SNd ks) (fun p=>⟨[(3,.d (.int p.n)),(7,.d (.sl (bx9 (.mk op v nm ds ks)))),(8,.d (.int (bx9 (.mk op v nm ds ks)).length)),(9,.d (.int p.i))],[]⟩) (fun p=>ks.length-p.i) ⟨0,1,by omega,by rw[fr8];omega⟩ (zle 0) ?_;rintro⟨i,n,hi,ok⟩;dsimp only;rcases fj8 i ks.length with hlt|hge
 ·have hd1:decide ((i:Int)<((bx9 (.mk op v nm ds ks)).length:Int))=true:=by rw[hlen];simpa using hlt
  have hx0:=fj7 hlt;generalize ks[i]=x at hx0;have hx:(bx9 (.mk op v nm ds ks))[(i:Int).toNat]? =some (by1 x):=by4 (e:=.mk op v nm ds ks) (by rw[fm2];exact hx0);have hdr:=ci4 hx0;have hm:=ci3 (fj9 hx0);have hs:=ih x (fj9 hx0) Oa
  repeat'(first|refine yz ?_|refine yi (by1 x) hx ?_|refine yp b118 hs ?_)
  refine ac1 ?_;refine⟨⟨i+1,n+nd x,by omega,by omega⟩,by dsimp only;omega,?_⟩;dsimp only;rw[Int.natCast_add];exact(zle 0)
 ·have hd1:decide ((i:Int)<((bx9 (.mk op v nm ds ks)).length:Int))=false:=by rw[hlen];simp;omega
  have:ks.drop i=[]:=fk5 hge;rw[ok,this]
  exact Ok
theorem ci6(e:Ex):nd e≤1000000→Ev E 21 [by1 e] (.d (.int (nd e))):=by
 refine bz0 (P:=fun e=>nd e≤1000000→Ev E 21 [by1 e] (.d (.int (nd e)))) (fun op v nm ds ks ih hb=>?_) e;refine Ev.fit fun hfit=>?_
 obtain⟨-,-,-,hmax,-⟩:=by8 (hfit (by1 (.mk op v nm ds ks)) Oc);simp only[Ex.ks]at hmax;have hlen:(bx9 (.mk op v nm ds ks)).length=ks.length:=by6 _;have hnd:nd (.mk op v nm ds ks)=ndL ks+1:=ci2 _;rw[hnd]at hb ⊢;refine ye1 func21 ntmps21 fun _ _ _=>?_
 repeat'(refine yz ?_)
 refine ac7 (α:=SNd ks) (fun p=>⟨[(1,.ptr 0 0),(3,.d (.int p.n)),(4,.d (.int p.i))],[.var 33 (.w (.d (by1 (.mk op v nm ds ks))))]⟩) (fun p=>ks.length-p.i) ⟨0,1,by omega,by rw[fr8];omega⟩ (zle 1) ?_;rintro⟨i,n,hi,ok⟩;dsimp only;rcases fj8 i ks.length with hlt|hge
 ·have hd1:decide ((i:Int)<((bx9 (.mk op v nm ds ks)).length:Int))=true:=by rw[hlen];simpa using hlt
  have hx0:=fj7 hlt;generalize ks[i]=x at hx0;have hx:(bx9 (.mk op v nm ds ks))[(i:Int).toNat]? =some (by1 x):=by4 (e:=.mk op v nm ds ks) (by rw[fm2];exact hx0);have hdr:=ci4 hx0;have hm:=ci3 (fj9 hx0);have hs:=ih x (fj9 hx0) Oa
  repeat'(first|refine yz ?_|refine yi (by1 x) hx ?_|refine yp b21 hs ?_)
  refine ac1 ?_;refine⟨⟨i+1,n+nd x,by omega,by omega⟩,by dsimp only;omega,?_⟩;dsimp only;rw[Int.natCast_add];exact(zle 1)
 ·have hd1:decide ((i:Int)<((bx9 (.mk op v nm ds ks)).length:Int))=false:=by rw[hlen];simp;omega
  have:ks.drop i=[]:=fk5 hge;rw[ok,this]
  exact Ok
end Go.Proofs.YtndgolmgaenlfaaGreatDoor
namespace Go.Proofs.YtndgolmgaenlfaaGreatDoor
set_option maxRecDepth 4000
open Go Go.Abs Go.Val Go.Proofs.Tryz
attribute [local irreducible] go SGo an1 Ev au8 EvO EvS
mutual
def dp:Ex→Nat
 |.mk _ _ _ _ l=>dpL l+1
def dpL:List Ex→Nat
 |[]=>0
 |x::r=>max (dp x) (dpL r)
end
theorem ci7(e:Ex):dp e=dpL e.ks+1:=by cases e;simp[dp,Ex.ks]
theorem ci8:∀{l:List Ex} {x:Ex},x∈l→dp x≤dpL l
 |[],x,h=>by simp at h
 |y::r,x,h=>by
  simp only[dpL];rcases fk7.1 h with e|e
  ·rw[e];omega
  ·have:=ci8 e;omega
theorem ci9{l:List Ex}{i:Nat}{x:Ex}(h:l[i]? =some x):dpL (l.drop i)=max (dp x) (dpL (l.drop (i+1))):=by
 rw[bu4 h];rfl
structure SDp(l:List Ex) where
 i:Nat
 n:Nat
 hi:i≤l.length
 ok:dpL l=max n (dpL (l.drop i))
theorem cj0(e:Ex):dp e≤1000000→Ev E 141 [by1 e] (.d (.int (dp e))):=by
 refine bz0 (P:=fun e=>dp e≤1000000→Ev E 141 [by1 e] (.d (.int (dp e)))) (fun op v nm ds ks ih hb=>?_) e;refine Ev.fit fun hfit=>?_
 obtain⟨-,-,-,hmax,-⟩:=by8 (hfit (by1 (.mk op v nm ds ks)) Oc);simp only[Ex.ks]at hmax;have hlen:(bx9 (.mk op v nm ds ks)).length=ks.length:=by6 _;have hnd:dp (.mk op v nm ds ks)=dpL ks+1:=ci7 _;rw[hnd]at hb ⊢;refine ye1 func141 ntmps141 fun _ _ _=>?_
 repeat'(refine yz ?_)
 refine ac7 (α:=SDp ks) (fun p=>⟨[(1,.ptr 0 0),(3,.d (.int p.n)),(4,.d (.int p.i))],[.var 33 (.w (.d (by1 (.mk op v nm ds ks))))]⟩) (fun p=>ks.length-p.i) ⟨0,0,by omega,by rw[fr8];omega⟩ (zle 1) ?_;rintro⟨i,n,hi,ok⟩;dsimp only;rcases fj8 i ks.length with hlt|hge
 ·have hd1:decide ((i:Int)<((bx9 (.mk op v nm ds ks)).length:Int))=true:=by rw[hlen];simpa using hlt
  have hx0:=fj7 hlt;generalize ks[i]=x at hx0;have hx:(bx9 (.mk op v nm ds ks))[(i:Int).toNat]? =some (by1 x):=by4 (e:=.mk op v nm ds ks) (by rw[fm2];exact hx0);have hdr:=ci9 hx0;have hm:=ci8 (fj9 hx0);have hs:=ih x (fj9 hx0) Oa
  cases hgt:decide ((dp x:Int)>(n:Int))with
  |true=>
   have hgt':=of_decide_eq_true hgt
   repeat'(first|refine yz ?_|refine yi (by1 x) hx ?_|refine yp bq0 hs ?_)
   refine ac1 ?_;exact⟨⟨i+1,dp x,by omega,by omega⟩,by dsimp only;omega,(zle 1)⟩
  |false=>
   have hgt':=of_decide_eq_false hgt
   repeat'(first|refine yz ?_|refine yi (by1 x) hx ?_|refine yp bq0 hs ?_)
   refine ac1 ?_;exact⟨⟨i+1,n,by omega,by omega⟩,by dsimp only;omega,(zle 1)⟩
 ·have hd1:decide ((i:Int)<((bx9 (.mk op v nm ds ks)).length:Int))=false:=by rw[hlen];simp;omega
  have:ks.drop i=[]:=fk5 hge;have hn:n=dpL ks:=by rw[ok,this];simp[dpL]
  subst hn
  exact Ok
theorem cj1(e:Ex):dp e≤1000000→Ev E 117 [by1 e] (.d (.int (dp e))):=by
 refine bz0 (P:=fun e=>dp e≤1000000→Ev E 117 [by1 e] (.d (.int (dp e)))) (fun op v nm ds ks ih hb=>?_) e;refine Ev.fit fun hfit=>?_
 obtain⟨-,-,-,hmax,-⟩:=by8 (hfit (by1 (.mk op v nm ds ks)) Oc);simp only[Ex.ks]at hmax;have hlen:(bx9 (.mk op v nm ds ks)).length=ks.length:=by6 _;have hnd:dp (.mk op v nm ds ks)=dpL ks+1:=ci7 _;rw[hnd]at hb ⊢;refine ye1 func117 ntmps117 fun _ _ _=>?_
 repeat'(refine yz ?_)
 refine ac7 (α:=SDp ks) (fun p=>⟨[(3,.d (.int p.n)),(7,.d (.sl (bx9 (.mk op v nm ds ks)))),(8,.d (.int (bx9 (.mk op v nm ds ks)).length)),(9,.d (.int p.i))],[]⟩) (fun p=>ks.length-p.i) ⟨0,0,by omega,by rw[fr8];omega⟩ (zle 0) ?_;rintro⟨i,n,hi,ok⟩;dsimp only;rcases fj8 i ks.length with hlt|hge
 ·have hd1:decide ((i:Int)<((bx9 (.mk op v nm ds ks)).length:Int))=true:=by rw[hlen];simpa using hlt
  have hx0:=fj7 hlt;generalize ks[i]=x at hx0;have hx:(bx9 (.mk op v nm ds ks))[(i:Int).toNat]? =some (by1 x):=by4 (e:=.mk op v nm ds ks) (by rw[fm2];exact hx0);have hdr:=ci9 hx0;have hm:=ci8 (fj9 hx0);have hs:=ih x (fj9 hx0) Oa
  repeat'(first|refine yz ?_|refine yi (by1 x) hx ?_|refine yp b117 hs ?_)
  refine ac1 ?_;refine⟨⟨i+1,max n (dp x),by omega,by omega⟩,by dsimp only;omega,?_⟩;dsimp only;rw[show((max n (dp x):Nat):Int)=max (n:Int) (dp x:Int) by omega];exact(zle 0)
 ·have hd1:decide ((i:Int)<((bx9 (.mk op v nm ds ks)).length:Int))=false:=by rw[hlen];simp;omega
  have:ks.drop i=[]:=fk5 hge;have hn:n=dpL ks:=by rw[ok,this];simp[dpL]
  subst hn
  exact Ok
end Go.Proofs.YtndgolmgaenlfaaGreatDoor
namespace Go.Proofs.YtndgolmgaenlfaaGreatDoor
set_option maxRecDepth 4000
open Go Go.Abs Go.Val Go.RowKit Go.Proofs.Tryz
attribute [local irreducible] go SGo an1 Ev au8 EvO EvS
theorem cj2(i:Nat):Nat.blt i i=false:=by
 cases h:Nat.blt i i with
 |false=>rfl
 |true=>simp at h
def upN(n:Int):Int:=bif decide (n≥97) &&decide (n≤122)then n-32 else n
def cj3(s:ByteArray)(i:Nat):List D:=(List.range s.size).map fun j=>D.imm (.int .u8 (bif Nat.blt j i then upN (ag0 s j)else ag0 s j))
def upL(s:ByteArray)(i:Nat):List Int:=(List.range i).map fun j=>upN (ag0 s j)
def upF(s:ByteArray):ByteArray:=Go.Abs.strOf (upL s s.size)
theorem cj4(s:ByteArray)(i:Nat):(upL s i).length=i:=by simp[upL]
theorem cj5(s:ByteArray)(i:Nat):upL s (i+1)=upL s i++ [upN (ag0 s i)]:=by simp[upL,List.range_succ]
theorem cj6(s:ByteArray)(i:Nat):(cj3 s i).length=s.size:=by simp[cj3]
theorem cj7{s:ByteArray}{i j:Nat}(h:j<s.size):(cj3 s i)[j]? =some (D.imm (.int .u8 (bif Nat.blt j i then upN (ag0 s j)else ag0 s j))):=by
 rw[cj3,fk6,fq9 h];rfl
theorem cj8(s:ByteArray):cj3 s 0=bb7 s:=by
 refine fs0 fun j=>?_
 rcases fj8 j s.size with h|h
 ·rw[cj7 h,bc0 h];rfl
 ·rw[fn6 (by rw[cj6];exact h),fn6 (by rw[bb8];exact h)]
theorem cj9{s:ByteArray}{i:Nat}(h:i<s.size):(cj3 s i).set i (.imm (.int .u8 (upN (ag0 s i))))=cj3 s (i+1):=by
 refine fs0 fun j=>?_
 rcases fj8 j s.size with hj|hj
 ·rw[fp1,cj7 hj,cj7 hj]
  by_cases e:i=j
  ·subst e;rw[if_pos rfl,if_pos (by rw[cj6];exact h),show Nat.blt i (i+1)=true by simp];rfl
  ·rw[if_neg e];have:Nat.blt j (i+1)=Nat.blt j i:=by rw[fk9];simp;omega
   rw[this]
 ·rw[fn6 (by rw[List.length_set,cj6];exact hj),fn6 (by rw[cj6];exact hj)]
theorem ck0{s:ByteArray}{i:Nat}(h:i<s.size)(hn:upN (ag0 s i)=ag0 s i):cj3 s i=cj3 s (i+1):=by
 rw[←cj9 h,hn];refine fs0 fun j=>?_
 rw[fp1]
 by_cases e:i=j
 ·subst e;rw[if_pos rfl,if_pos (by rw[cj6];exact h),cj7 h,cj2];rfl
 ·rw[if_neg e]
theorem ck1(s:ByteArray):cj3 s s.size=(upL s s.size).map fun n=>.imm (.int .u8 n):=by
 refine fs0 fun j=>?_
 rcases fj8 j s.size with hj|hj
 ·rw[cj7 hj,upL,List.map_map,fk6,fq9 hj,show Nat.blt j s.size=true by simpa using hj];rfl
 ·rw[fn6 (by rw[cj6];exact hj),fn6 (by rw[fk3,cj4];exact hj)]
theorem ck2(ns:List Int)(n:Int):Go.Abs.strOf (ns++ [n])=Go.Abs.strOf ns++Go.Abs.strOf [n]:=by
 unfold Go.Abs.strOf;rw[List.foldl_append];simp only[fo0,fq4];apply ByteArray.ext;simp[ByteArray.push]
structure SUp(s:ByteArray) where
 i:Nat
 hi:i≤s.size
set_option maxHeartbeats 1000000 in
theorem ck3(s:ByteArray):Ev E 318 [.str s] (.d (.str (upF s))):=Ev.fit fun hfit=>by
 have hs:=(hfit (.str s) Oc).str;have hlen:(bb7 s).length=s.size:=bb8 s;refine ye1 func318 ntmps318 fun _ _ _=>?_
 repeat'(first|refine yz ?_|refine bc6 rfl rfl rfl rfl rfl rfl rfl rfl ?_)
 rw[hlen,←cj8];refine ac7 (α:=SUp s) (fun p=>⟨[(3,.own 0),(8,.own 0),(9,.d (.int s.size)),(10,.d (.int p.i))],[.mrow 5 1 (cj3 s p.i)]⟩) (fun p=>s.size-p.i) ⟨0,by omega⟩ (zle 1) ?_;rintro⟨i,hi⟩;dsimp only;have hrl:=cj6 s i;rcases fj8 i s.size with hlt|hge
 ·have hd1:decide ((i:Int)<(s.size:Int))=true:=by simpa using hlt
  have hti:(i:Int).toNat=i:=fm2 i;have hx:(cj3 s i)[(i:Int).toNat]? =some (.imm (.int .u8 (ag0 s i))):=by rw[hti,cj7 hlt,cj2];rfl
  have hb:=bz6 s i hlt
  cases h1:decide (ag0 s i≥97)with
  |false=>
   have hn:upN (ag0 s i)=ag0 s i:=by unfold upN;rw[h1];rfl
   repeat'(first|refine yz ?_|refine bc9 rfl rfl rfl rfl rfl rfl rfl rfl (by constructor<;>first|omega|(simp;omega)|decide) ?_|refine bd0 _ rfl rfl rfl rfl rfl rfl hx rfl ?_|refine yx ?_)
   refine ac1 ?_;refine⟨⟨i+1,by omega⟩,by dsimp only;omega,?_⟩;rw[ck0 hlt hn];exact(zle 1)
  |true=>
   cases h2:decide (ag0 s i≤122)with
   |false=>
    have hn:upN (ag0 s i)=ag0 s i:=by unfold upN;rw[h1,h2];rfl
    repeat'(first|refine yz ?_|refine bc9 rfl rfl rfl rfl rfl rfl rfl rfl (by constructor<;>first|omega|(simp;omega)|decide) ?_|refine bd0 _ rfl rfl rfl rfl rfl rfl hx rfl ?_|refine yx ?_)
    refine ac1 ?_;refine⟨⟨i+1,by omega⟩,by dsimp only;omega,?_⟩;rw[ck0 hlt hn];exact(zle 1)
   |true=>
    have h1':=of_decide_eq_true h1;have h2':=of_decide_eq_true h2;have hn:ag0 s i-97+65=upN (ag0 s i):=by unfold upN;rw[h1,h2];simp;omega
    repeat'(first|refine yz ?_|refine bc9 rfl rfl rfl rfl rfl rfl rfl rfl (by constructor<;>first|omega|(simp;omega)|decide) ?_|refine bd0 _ rfl rfl rfl rfl rfl rfl hx rfl ?_|refine bd1 _ rfl rfl rfl rfl rfl rfl hx rfl rfl rfl ?_|refine yx ?_)
    refine ac1 ?_;refine⟨⟨i+1,by omega⟩,by dsimp only;omega,?_⟩;rw[hti,hn,cj9 hlt];exact(zle 1)
 ·have hd1:decide ((i:Int)<(s.size:Int))=false:=by simp;omega
  obtain rfl:i=s.size:=Oa
  repeat'(refine yz ?_)
  refine bc7 0 rfl ?_;dsimp only[ar6,ar5];have he:=ck1 s
  repeat'(first|refine yz ?_|refine bc8 (upL s s.size) rfl rfl rfl rfl rfl rfl rfl rfl he ?_|exact zD)
set_option maxHeartbeats 1000000 in
theorem ck4(s:ByteArray):Ev E 219 [.str s] (.d (.str (upF s))):=Ev.fit fun hfit=>by
 have hs:=(hfit (.str s) Oc).str;refine ye1 func219 ntmps219 fun _ _ _=>?_
 repeat'(refine yz ?_)
 refine ac7 (α:=SUp s) (fun p=>⟨[(0,.d (.str s)),(3,.d (.str (Go.Abs.strOf (upL s p.i)))),(4,.d (.int p.i))],[]⟩) (fun p=>s.size-p.i) ⟨0,by omega⟩ (zle 0) ?_;rintro⟨i,hi⟩;dsimp only;have hz:(Go.Abs.strOf (upL s i)).size=i:=by rw[at0,cj4]
 rcases fj8 i s.size with hlt|hge
 ·have hd1:decide ((i:Int)<(s.size:Int))=true:=by simpa using hlt
  have hti:(i:Int).toNat=i:=fm2 i;have hb:=bz6 s i hlt;rw[←hti]at hb;have hz1:∀n,(Go.Abs.strOf [n]).size=1:=fun n=>at0 [n]
  have e1:Go.Abs.strOf (upL s (i+1))=Go.Abs.strOf (upL s i)++Go.Abs.strOf [upN (ag0 s (i:Int).toNat)]:=by rw[cj5,ck2,hti]
  cases h1:decide (ag0 s (i:Int).toNat≥97)with
  |false=>
   have hn:upN (ag0 s (i:Int).toNat)=ag0 s (i:Int).toNat:=by unfold upN;rw[h1];rfl
   have hz2:=hz1 (ag0 s (i:Int).toNat)
   repeat'(first|refine yz ?_|refine yx ?_)
   refine ac1 ?_;refine⟨⟨i+1,by omega⟩,by dsimp only;omega,?_⟩;dsimp only;rw[e1,hn];exact(zle 0)
  |true=>
   cases h2:decide (ag0 s (i:Int).toNat≤122)with
   |false=>
    have hn:upN (ag0 s (i:Int).toNat)=ag0 s (i:Int).toNat:=by unfold upN;rw[h1,h2];rfl
    have hz2:=hz1 (ag0 s (i:Int).toNat)
    repeat'(first|refine yz ?_|refine yx ?_)
    refine ac1 ?_;refine⟨⟨i+1,by omega⟩,by dsimp only;omega,?_⟩;dsimp only;rw[e1,hn];exact(zle 0)
   |true=>
    have h1':=of_decide_eq_true h1;have h2':=of_decide_eq_true h2;have hn:upN (ag0 s (i:Int).toNat)=ag0 s (i:Int).toNat-32:=by unfold upN;rw[h1,h2];rfl
    have hz2:=hz1 (ag0 s (i:Int).toNat-32)
    repeat'(first|refine yz ?_|refine yx ?_)
    refine ac1 ?_;refine⟨⟨i+1,by omega⟩,by dsimp only;omega,?_⟩;dsimp only;rw[e1,hn];exact(zle 0)
 ·have hd1:decide ((i:Int)<(s.size:Int))=false:=by simp;omega
  obtain rfl:i=s.size:=Oa
  exact Ok
def ck5:List ByteArray:=[⟨#[77,65,84,67,72]⟩,⟨#[79,80,84,73,79,78,65,76]⟩,⟨#[87,72,69,82,69]⟩,⟨#[85,78,87,73,78,68]⟩,⟨#[65,83]⟩,⟨#[87,73,84,72]⟩,⟨#[68,73,83,84,73,78,67,84]⟩,⟨#[79,82,68,69,82]⟩,⟨#[66,89]⟩,⟨#[65,83,67]⟩,⟨#[68,69,83,67]⟩,⟨#[83,75,73,80]⟩,⟨#[76,73,77,73,84]⟩,⟨#[82,69,84,85,82,78]⟩,⟨#[67,82,69,65,84,69]⟩,⟨#[77,69,82,71,69]⟩,⟨#[83,69,84]⟩,⟨#[82,69,77,79,86,69]⟩,⟨#[68,69,76,69,84,69]⟩,⟨#[68,69,84,65,67,72]⟩,⟨#[65,78,68]⟩,⟨#[79,82]⟩,⟨#[78,79,84]⟩,⟨#[73,78]⟩,⟨#[73,83]⟩,⟨#[78,85,76,76]⟩,⟨#[84,82,85,69]⟩,⟨#[70,65,76,83,69]⟩,⟨#[87,65,76,75]⟩,⟨#[84,82,65,73,76]⟩,⟨#[83,73,77,80,76,69]⟩,⟨#[83,72,79,82,84,69,83,84]⟩,⟨#[65,78,89]⟩]
def ck6(s:ByteArray):Bool:=ck5.any fun w=>w.toList==(upF s).toList
theorem ck7:Ev E 220 [] (.d (.sl (ck5.map .str))):=by
 refine ap4 func220 ntmps220 rfl rfl fun w0 F0 O=>?_
 exact Ok
structure SWd(u:ByteArray) where
 i:Nat
 hi:i≤ck5.length
 ok:(ck5.any fun w=>w.toList==u.toList)=((ck5.drop i).any fun w=>w.toList==u.toList)
theorem ck8(s:ByteArray):Ev E 144 [.str s] (.d (.bool (ck6 s))):=by
 have h1:=ck4 s;have h2:=ck7;unfold ck6;have hwl:ck5.length=33:=rfl;have h33:(ck5.map D.str).length=ck5.length:=by rw[fk3]
 generalize hw:ck5.map D.str=ws at*;generalize upF s=u at*;refine ye1 func144 ntmps144 fun _ _ _=>?_
 repeat'(first|refine yz ?_|refine yp b219 h1 ?_|refine yp b220 h2 ?_)
 refine ac7 (α:=SWd u) (fun p=>⟨[(3,.d (.str u)),(4,.d (.sl ws)),(5,.d (.int p.i))],[]⟩) (fun p=>ck5.length-p.i) ⟨0,fl9 _,rfl⟩ (zle 0) ?_;rintro⟨i,hi,ok⟩;dsimp only;rcases fj8 i ck5.length with hlt|hge
 ·have hd1:decide ((i:Int)<(ws.length:Int))=true:=by rw[h33];simpa using hlt
  have hx0:=fj7 hlt;generalize ck5[i]=x at hx0;have hx:ws[(i:Int).toNat]? =some (.str x):=by rw[←hw,fm2,fk6,hx0];rfl
  rw[ok,bu4 hx0,fo4]
  cases he:x.toList==u.toList with
  |true=>
   repeat'(first|refine yz ?_|refine yi (.str x) hx ?_|exact zD)
  |false=>
   repeat'(first|refine yz ?_|refine yi (.str x) hx ?_)
   refine ac1 ?_;exact⟨⟨i+1,by omega,by rw[ok,bu4 hx0,fo4,he,fm9]⟩,by dsimp only;omega,(zle 0)⟩
 ·have hd1:decide ((i:Int)<(ws.length:Int))=false:=by rw[h33];simp;omega
  rw[ok,fk5 hge]
  exact Ok
def upB(b:UInt8):UInt8:=UInt8.ofNat (upN b.toNat).toNat
theorem ck9(ns:List Int):(Go.Abs.strOf ns).data.toList=ns.map fun n=>UInt8.ofNat n.toNat:=by
 have key:∀(ns:List Int) (r:ByteArray),(ns.foldl (fun r n=>r.push (UInt8.ofNat n.toNat)) r).data.toList=r.data.toList++ns.map fun n=>UInt8.ofNat n.toNat:=by
  intro ns
  induction ns with
  |nil=>intro r;simp
  |cons n ns ih=>
   intro r;rw[fo0,ih];simp[ByteArray.push]
 have:=key ns ByteArray.empty;unfold Go.Abs.strOf;rw[this];simp
theorem cl0(s:ByteArray):(upF s).data.toList=s.data.toList.map upB:=by
 unfold upF;rw[ck9];refine fs0 fun j=>?_
 have hl:s.data.toList.length=s.size:=Oc
 rcases fj8 j s.size with hj|hj
 ·have hx:=fj7 (show j<s.data.toList.length by omega);rw[fk6,upL,fk6,fq9 hj,fk6,hx];simp only[fn5,upB,ag0,fo9,hx,fp4]
 ·rw[fn6 (by rw[fk3,cj4];exact hj),fn6 (by rw[fk3];omega)]
theorem cl1(b:UInt8):upB b=32↔b=32:=by
 have key:∀c:Fin 256,(upB (UInt8.ofFin c)=32)=(UInt8.ofFin c=32):=by
  intro c;revert c;decide+kernel
 have hb:b=UInt8.ofFin b.toFin:=by rfl
 rw[hb];exact iff_of_eq (key b.toFin)
theorem cl2:∀l:List UInt8,Lib.contains l [32]=decide ((32:UInt8)∈l)
 |[]=>by simp[Lib.contains,Lib.index]
 |b::l=>by
  rw[cf6,cl2 l];have:([32]:List UInt8).isPrefixOf (b::l)=((32:UInt8)==b):=by simp only[List.isPrefixOf,Bool.and_true]
  rw[this,fk9,fn3,beq_iff_eq,decide_eq_true_eq,decide_eq_true_eq,fk7]
theorem cl3(s:ByteArray):(32:UInt8)∈(upF s).data.toList↔(32:UInt8)∈s.data.toList:=by
 rw[cl0,fl3];constructor
 ·rintro⟨b,h1,h2⟩;rw[(cl1 b).1 h2]at h1;exact h1
 ·intro h;exact⟨32,h,(cl1 32).2 rfl⟩
theorem cl4:∀w∈ck5.map (·.data.toList),(32:UInt8) ∉ w:=by
 have:(ck5.map (·.data.toList)).all (fun w=> !w.contains 32)=true:=Od
 intro w hw hm;have:=fm3.1 this w hw;simp[List.contains_iff_mem]at this;exact this hm
theorem cl5(U:List UInt8):((ck5.map (·.data.toList)).any fun w=>U==w)=ck5.any fun w=>w.data.toList==U:=by
 rw[List.any_map];congr 1
 funext w
 simp only[Function.comp];rw[fk9,beq_iff_eq,beq_iff_eq];exact⟨fun h=>h.symm,fun h=>h.symm⟩
theorem cl6(s:ByteArray):ck6 s=ck5.any fun w=>w.data.toList==(upF s).data.toList:=by
 unfold ck6;simp only[ByteArray.toList_eq]
theorem cl7(s:ByteArray)(h:Lib.contains s.data.toList [32]=false):Lib.contains (cf4 (ck5.map (·.data.toList))) (32::((upF s).data.toList++ [32]))=ck6 s:=by
 rw[cl2,decide_eq_false_iff_not]at h;rw[cf9 _ (fun hm=>h ((cl3 s).1 hm)) _ cl4,cl5,cl6]
theorem cl8(s:ByteArray)(h:Lib.contains s.data.toList [32]=true):ck6 s=false:=by
 rw[cl2,decide_eq_true_eq]at h;rw[cl6,fq2];intro w hw he;have e:=eq_of_beq he;refine cl4 _ (fn4 hw) ?_;rw[e];exact(cl3 s).2 h
theorem cl9(s sub:ByteArray)(hs:s.size<4294967281):Ev E 317 [.str s,.str sub] (.d (.bool (Lib.contains s.data.toList sub.data.toList))):=by
 refine bw4 rfl fun w F hG _ _=>?_
 obtain⟨-,-,m,hm⟩:=hG.2;refine(Tryz.strings_Contains s sub m w hs hm).mono ?_;rintro e w' ⟨rfl,rfl⟩;exact⟨rfl,Below.refl _ _⟩
theorem cm0(s:ByteArray):(upF s).size=s.size:=by unfold upF;rw[at0,cj4]
set_option maxRecDepth 10000 in
attribute [local irreducible] upF ck6 cf4 ck5 in
theorem cm1(s:ByteArray)(hs:s.size≤1000):Ev E 267 [.str s] (.d (.bool (ck6 s))):=by
 have hu:=ck3 s;have hus:=cm0 s;have h1:(⟨#[32]⟩:ByteArray).size=1:=rfl;have hc1:=cl9 s ⟨#[32]⟩ Oa
 cases h0: !(s.toList==(⟨#[]⟩:ByteArray).toList)with
 |false=>
  have e:ck6 s=false:=by
   rw[cl6,cl0];have:s.data.toList=[]:=by rw[Bool.not_eq_false',beq_iff_eq,ByteArray.toList_eq,ByteArray.toList_eq]at h0;exact h0
   rw[this];unfold ck5;decide+kernel
  rw[e];refine ye1 func267 ntmps267 fun _ _ _=>?_
  exact Ok
 |true=>
  cases hb:Lib.contains s.data.toList [32]with
  |true=>
   rw[show(⟨#[32]⟩:ByteArray).data.toList=[32]from rfl,hb]at hc1;rw[cl8 s hb];refine ye1 func267 ntmps267 fun _ _ _=>?_
   repeat'(first|refine yz ?_|refine yp b317 hc1 ?_|refine yx ?_|exact zD)
  |false=>
   rw[show(⟨#[32]⟩:ByteArray).data.toList=[32]from rfl,hb]at hc1;have hr:=cl7 s hb;refine ye1 func267 ntmps267 fun _ _ _=>?_
   repeat'(first|refine yz ?_|refine qP (d:=7) rfl rfl rfl rfl rfl rfl b317 (hc1) ?_|refine yp b318 hu ?_|refine qP (d:=15) rfl rfl rfl rfl rfl rfl b317 ((cl9 _ _ Oe)) ?_|refine yx ?_)
   rw[show ∀x,(cond (bif true then !false else false) x false)=x from fun _=>rfl];refine congrArg D.bool (Eq.trans (congr (congrArg Lib.contains ?_) ?_) hr)
   ·unfold cf4 ck5;decide+kernel
   ·simp only[ByteArray.data_append,Array.toList_append];simp
def cm2(s:ByteArray):Bool:=bz2 s&& !ck6 s
theorem cm3{s:ByteArray}(h:bz2 s=true):s.size≤1000:=by
 unfold bz2 at h;simp only[fl5,decide_eq_true_eq]at h;omega
theorem cm4(s:ByteArray):Ev E 200 [.str s] (.d (.bool (cm2 s))):=by
 have h1:=bz7 s;unfold cm2
 cases hn:bz2 s with
 |false=>
  rw[hn]at h1;refine ye1 func200 ntmps200 fun _ _ _=>?_
  repeat'(first|refine yz ?_|refine yp b179 h1 ?_|exact zD)
 |true=>
  rw[hn]at h1;have h2:=cm1 s (cm3 hn);refine ye1 func200 ntmps200 fun _ _ _=>?_
  repeat'(first|refine yz ?_|refine yp b179 h1 ?_|refine yp b267 h2 ?_|exact zD)
theorem cm5(s:ByteArray):Ev E 77 [.str s] (.d (.bool (cm2 s))):=by
 have h1:=bz8 s;have h2:=ck8 s;unfold cm2
 cases hn:bz2 s with
 |false=>
  rw[hn]at h1;refine ye1 func77 ntmps77 fun _ _ _=>?_
  repeat'(first|refine yz ?_|refine yp bq1 h1 ?_|exact zD)
 |true=>
  rw[hn]at h1;refine ye1 func77 ntmps77 fun _ _ _=>?_
  repeat'(first|refine yz ?_|refine yp bq1 h1 ?_|refine yp b144 h2 ?_|exact zD)
def nlF(e:Ex):Bool:=
 bif e.op==2||(e.op==3||e.op==4)then !cm2 e.nm else
 bif e.op==23 then cg2 e.nm==0 else
 bif e.op==24 then !cg4 e.nm else false
theorem cm6(e:Ex):Ev E 186 [by1 e] (.d (.bool (nlF e))):=by
 have h1:=cm4 e.nm;have h2:=cg5 e.nm;have h3:=cg7 e.nm;refine ye1 func186 ntmps186 fun _ _ _=>?_
 repeat'(first|refine yz ?_|refine yp br0 h1 ?_|refine yp b261 h2 ?_|refine yp b263 h3 ?_|(refine qV rfl ?_ ?_<;>intro _))
 all_goals(refine congrArg D.bool ?_;simp_all [nlF,fn2])
end Go.Proofs.YtndgolmgaenlfaaGreatDoor
namespace Go.Proofs.YtndgolmgaenlfaaGreatDoor
set_option maxRecDepth 4000
open Go Go.Abs Go.Val Go.RowKit Go.Proofs.Tryz
attribute [local irreducible] go SGo an1 Ev au8 EvO EvS
def cm7(e:Ex)(w:Bool):Int:=
 bif (decide (e.op<1)||decide (e.op>24))||(!ch2 e|| !ch8 e)then 1 else
 bif e.op==1&& !ci0 e.v then 8 else
 bif nlF e then 6 else
 bif e.op==24&&w then 9 else 0
mutual
def cm8:Ex→Bool→Int
 |.mk op v nm ds ks,w=>bif cm7 (.mk op v nm ds ks) w !=0 then cm7 (.mk op v nm ds ks) w else cm9 ks (w||op==24)
def cm9:List Ex→Bool→Int
 |[],_=>0
 |x::r,w=>bif cm8 x w !=0 then cm8 x w else cm9 r w
end
theorem cn0{l:List Ex}{i:Nat}{x:Ex}{w:Bool}(h:l[i]? =some x):cm9 (l.drop i) w=bif cm8 x w !=0 then cm8 x w else cm9 (l.drop (i+1)) w:=by
 rw[bu4 h,cm9]
structure SVs(l:List Ex)(w:Bool) where
 i:Nat
 hi:i≤l.length
 ok:cm9 l w=cm9 (l.drop i) w
theorem cn1{e:Ex}{w:Bool}(h:cm7 e w=0):cm8 e w=cm9 e.ks (w||e.op==24):=by
 cases e
 rw[cm8,h];rfl
theorem cn2{e:Ex}{w:Bool}{c:Int}(h:cm7 e w=c)(hc:(c !=0)=true):c=cm8 e w:=by
 cases e
 rw[cm8,h,hc];rfl
set_option maxHeartbeats 4000000 in
theorem cn3(e:Ex):∀w,Ev E 119 [by1 e,.bool w] (.d (.int (cm8 e w))):=by
 refine bz0 (P:=fun e=>∀w,Ev E 119 [by1 e,.bool w] (.d (.int (cm8 e w)))) (fun op v nm ds ks ih w=>?_) e;refine Ev.fit fun hfit=>?_
 obtain⟨-,-,-,hmax,-⟩:=by8 (hfit (by1 (.mk op v nm ds ks)) Oc);have hlen:(bx9 (.mk op v nm ds ks)).length=ks.length:=by6 _;have hkg:∀(i:Nat) (x:Ex),ks[i]? =some x→(bx9 (.mk op v nm ds ks))[(i:Int).toNat]? =some (by1 x):=fun i x h=>by4 (e:=.mk op v nm ds ks) (by rw[fm2];exact h)
 have hks:Ex.ks (.mk op v nm ds ks)=ks:=rfl;generalize Ex.mk op v nm ds ks=e at*;rw[hks]at hmax;have h1:=ch4 e;have h2:=ch9 e;have h3:=ci1 e.v;have h4:=cm6 e;have hsf:∀c,(bif (decide (e.op<1)||decide (e.op>24))||(!ch2 e|| !ch8 e)then 1 else bif e.op==1&& !ci0 e.v then 8 else bif nlF e then 6 else bif e.op==24&&w then 9 else 0)=c→cm7 e w=c:=fun c h=>h
 have hbad:=fun c (h:cm7 e w=c)=>cn2 h
 have hok:=cn1 (e:=e) (w:=w);rw[hks]at hok;clear hks;generalize hW:(w||e.op==24)=W at hok
 cases w
 all_goals
  refine ye2 func119 ntmps119 fun _ _ _=>?_
  repeat'(first|refine yz ?_|refine yp b183 h1 ?_|refine yp b184 h2 ?_|refine yp b185 h3 ?_|refine yp b186 h4 ?_|(refine yy ?_ ?_<;>intro _)|(refine qV rfl ?_ ?_<;>intro _))
  any_goals(refine congrArg D.int (hbad _ (hsf _ ?_) rfl);clear ih hkg hfit hsf hbad hok h1 h2 h3 h4;simp_all [fn2];done)
 all_goals
  rw[hok (hsf _ (by clear ih hkg hfit hsf hbad hok h1 h2 h3 h4;simp_all [fn2]))];clear hsf hbad hok h1 h2 h3 h4;refine ac7 (α:=SVs ks W) (fun p=>⟨[(1,.d (.bool _)),(2,.ptr 0 0),(44,.d (.sl (bx9 e))),(45,.d (.int (bx9 e).length)),(46,.d (.int p.i))],[.var 33 (.w (.d (by1 e)))]⟩) (fun p=>ks.length-p.i) ⟨0,by omega,rfl⟩ (zle 1) ?_;rintro⟨i,hi,ok⟩;dsimp only;rcases fj8 i ks.length with hlt|hge
  ·have hd1:decide ((i:Int)<((bx9 e).length:Int))=true:=by rw[hlen];simpa using hlt
   have hx0:=fj7 hlt;generalize ks[i]=x at hx0;have hx:=hkg i x hx0;have hv:=ih x (fj9 hx0) W;rw[←hW]at hv;rw[ok,cn0 hx0]
   cases hz:cm8 x W !=0 with
   |true=>
    rw[←hW]at hz ⊢
    repeat'(first|refine yz ?_|refine yi (by1 x) hx ?_|refine yp b119 hv ?_|exact zD)
   |false=>
    rw[←hW]at hz
    repeat'(first|refine yz ?_|refine yi (by1 x) hx ?_|refine yp b119 hv ?_)
    refine ac1 ?_;exact⟨⟨i+1,by omega,by rw[ok,cn0 hx0,←hW,hz];rfl⟩,by dsimp only;omega,(zle 1)⟩
  ·have hd1:decide ((i:Int)<((bx9 e).length:Int))=false:=by rw[hlen];simp;omega
   rw[ok,fk5 hge,cm9]
   exact Ok
end Go.Proofs.YtndgolmgaenlfaaGreatDoor
namespace Go.Proofs.YtndgolmgaenlfaaGreatDoor
set_option maxRecDepth 4000
open Go Go.Abs Go.Val Go.RowKit Go.Proofs.Tryz
attribute [local irreducible] go SGo an1 Ev au8 EvO EvS
set_option maxHeartbeats 4000000 in
theorem cn4(e:Ex)(w:Bool):Ev E 217 [by1 e,.bool w] (.d (.int (cm7 e w))):=by
 have h1:=ch5 e;have h2:=ch1 e.v;have h3:=bv8 e.v;have h4:=ch7 e.op;have h5:=cm5 e.nm;have h6:=cg6 e.nm;have h7:=cg8 e.nm;have hz:=ch3 e.nm;generalize hc1:((decide (e.op<1)||decide (e.op>24))||(!ch2 e|| !ch8 e))=c1;generalize hc2:(e.op==1&& !ci0 e.v)=c2;generalize hc3:((bif e.op==2||(e.op==3||e.op==4)then !cm2 e.nm else bif e.op==24 then !cg4 e.nm else false))=c3;refine ye2 func217 ntmps217 fun _ _ _=>?_
 repeat'(first|refine bd3 1 (fun b=>⟨[(50,.d (.bool b)),(1,.d (.bool w)),(2,.ptr 0 0)],[.var 33 (.w (.d (by1 e)))]⟩) (c1) ?_ ?_|refine bd3 3 (fun b=>⟨[(83,.d (.bool b)),(1,.d (.bool w)),(2,.ptr 0 0)],[.var 33 (.w (.d (by1 e)))]⟩) (c2) ?_ ?_|refine bd3 5 (fun b=>⟨[(113,.d (.bool b)),(1,.d (.bool w)),(2,.ptr 0 0)],[.var 33 (.w (.d (by1 e)))]⟩) (c3) ?_ ?_|refine yz ?_|refine ac1 ⟨_,?_,(zle 1)⟩|refine yp b277 h1 ?_|refine yp b206 h2 ?_|refine yp b99 h3 ?_|refine yp b278 h4 ?_|refine yp b77 h5 ?_|refine yp b280 h6 ?_|refine yp b279 h7 ?_|(refine yy ?_ ?_<;>intro _)|(refine qV rfl ?_ ?_<;>intro _))
 all_goals clear h1 h2 h3 h4 h5 h6 h7
 any_goals(refine Eq.trans ?_ hc1;clear hc1 hc2 hc3;simp_all [ch8,ci0,nlF,isS,fn2])
 any_goals(refine Eq.trans ?_ hc2;clear hc1 hc2 hc3;simp_all [ch8,ci0,nlF,isS,fn2])
 any_goals(refine Eq.trans ?_ hc3;clear hc1 hc2 hc3;simp_all [ch8,ci0,nlF,isS,fn2])
 any_goals(refine congrArg D.int ?_;unfold cm7;rw[hc1,hc2];clear hc1 hc2;simp_all [nlF,fn2])
 all_goals first
  |(have o1: ¬ e.op<1:=Oa;have o2: ¬ 24<e.op:=Oa;simp_all;done)
  |(rw[fk9];simp_all;done)
  |(split at hc3<;>simp_all;done)
theorem cn5(e:Ex):∀w,Ev E 142 [by1 e,.bool w] (.d (.int (cm8 e w))):=by
 refine bz0 (P:=fun e=>∀w,Ev E 142 [by1 e,.bool w] (.d (.int (cm8 e w)))) (fun op v nm ds ks ih w=>?_) e;refine Ev.fit fun hfit=>?_
 obtain⟨-,-,-,hmax,-⟩:=by8 (hfit (by1 (.mk op v nm ds ks)) Oc);have hlen:(bx9 (.mk op v nm ds ks)).length=ks.length:=by6 _;have hkg:∀(i:Nat) (x:Ex),ks[i]? =some x→(bx9 (.mk op v nm ds ks))[(i:Int).toNat]? =some (by1 x):=fun i x h=>by4 (e:=.mk op v nm ds ks) (by rw[fm2];exact h)
 have hks:Ex.ks (.mk op v nm ds ks)=ks:=rfl;generalize Ex.mk op v nm ds ks=e at*;rw[hks]at hmax;have h1:=cn4 e w;have hbad:=cn2 (e:=e) (w:=w) rfl;have hok:=cn1 (e:=e) (w:=w);rw[hks]at hok;clear hks;generalize hW:(w||e.op==24)=W at hok
 cases hsf:cm7 e w !=0 with
 |true=>
  rw[←hbad hsf];refine ye2 func142 ntmps142 fun _ _ _=>?_
  repeat'(first|refine yz ?_|refine yp b217 h1 ?_|exact zD)
 |false=>
  rw[hok (by simpa using hsf)]
  cases w
  all_goals
   refine ye2 func142 ntmps142 fun _ _ _=>?_
   repeat'(first|refine yz ?_|refine yp b217 h1 ?_)
   refine ac7 (α:=SVs ks W) (fun p=>⟨[(1,.d (.bool _)),(2,.ptr 0 0),(6,.d (.int p.i))],[.var 33 (.w (.d (by1 e)))]⟩) (fun p=>ks.length-p.i) ⟨0,by omega,rfl⟩ (zle 1) ?_;rintro⟨i,hi,ok⟩;dsimp only;rcases fj8 i ks.length with hlt|hge
   ·have hd1:decide ((i:Int)<((bx9 e).length:Int))=true:=by rw[hlen];simpa using hlt
    have hx0:=fj7 hlt;generalize ks[i]=x at hx0;have hx:=hkg i x hx0;have hv:=ih x (fj9 hx0) W;rw[←hW]at hv;rw[ok,cn0 hx0]
    cases hz:cm8 x W !=0 with
    |true=>
     rw[←hW]at hz ⊢
     repeat'(first|refine yz ?_|refine yi (by1 x) hx ?_|refine yp b142 hv ?_|exact zD)
    |false=>
     rw[←hW]at hz
     repeat'(first|refine yz ?_|refine yi (by1 x) hx ?_|refine yp b142 hv ?_)
     refine ac1 ?_;exact⟨⟨i+1,by omega,by rw[ok,cn0 hx0,←hW,hz];rfl⟩,by dsimp only;omega,(zle 1)⟩
   ·have hd1:decide ((i:Int)<((bx9 e).length:Int))=false:=by rw[hlen];simp;omega
    rw[ok,fk5 hge,cm9]
    exact Ok
def cn6(e:Ex):Int:=bif decide (dp e>24)then 5 else bif decide (nd e>300)then 4 else cm8 e false
theorem cn7(e:Ex)(h1:dp e≤1000000)(h2:nd e≤1000000):Ev E 61 [by1 e] (.d (.int (cn6 e))):=by
 have a1:=cj1 e h1;have a2:=ci5 e h2;have a3:=cn3 e false;unfold cn6
 cases g1:decide (dp e>24)with
 |true=>
  have b1:decide ((dp e:Int)>24)=true:=by simp at g1 ⊢;omega
  refine ye1 func61 ntmps61 fun _ _ _=>?_
  repeat'(first|refine yz ?_|refine yp b117 a1 ?_|exact zD)
 |false=>
  have b1:decide ((dp e:Int)>24)=false:=by simp at g1 ⊢;omega
  cases g2:decide (nd e>300)with
  |true=>
   have b2:decide ((nd e:Int)>300)=true:=by simp at g2 ⊢;omega
   refine ye1 func61 ntmps61 fun _ _ _=>?_
   repeat'(first|refine yz ?_|refine yp b117 a1 ?_|refine yp b118 a2 ?_|exact zD)
  |false=>
   have b2:decide ((nd e:Int)>300)=false:=by simp at g2 ⊢;omega
   refine ye1 func61 ntmps61 fun _ _ _=>?_
   repeat'(first|refine yz ?_|refine yp b117 a1 ?_|refine yp b118 a2 ?_|refine yp b119 a3 ?_|exact zD)
theorem cn8(e:Ex)(h1:dp e≤1000000)(h2:nd e≤1000000):Ev E 76 [by1 e] (.d (.int (cn6 e))):=by
 have a1:=cj0 e h1;have a2:=ci6 e h2;have a3:=cn5 e false;unfold cn6
 cases g1:decide (dp e>24)with
 |true=>
  have b1:decide ((dp e:Int)>24)=true:=by simp at g1 ⊢;omega
  refine ye1 func76 ntmps76 fun _ _ _=>?_
  repeat'(first|refine yz ?_|refine yp bq0 a1 ?_|exact zD)
 |false=>
  have b1:decide ((dp e:Int)>24)=false:=by simp at g1 ⊢;omega
  cases g2:decide (nd e>300)with
  |true=>
   have b2:decide ((nd e:Int)>300)=true:=by simp at g2 ⊢;omega
   refine ye1 func76 ntmps76 fun _ _ _=>?_
   repeat'(first|refine yz ?_|refine yp bq0 a1 ?_|refine yp b21 a2 ?_|exact zD)
  |false=>
   have b2:decide ((nd e:Int)>300)=false:=by simp at g2 ⊢;omega
   refine ye1 func76 ntmps76 fun _ _ _=>?_
   repeat'(first|refine yz ?_|refine yp bq0 a1 ?_|refine yp b21 a2 ?_|refine yp b142 a3 ?_|exact zD)
end Go.Proofs.YtndgolmgaenlfaaGreatDoor
namespace Go.Proofs.YtndgolmgaenlfaaGreatDoor
set_option maxRecDepth 4000
open Go Go.Abs Go.Val Go.RowKit Go.Proofs.Tryz
structure PP where
 key:ByteArray
 e:Ex
structure NP where
 vr:ByteArray
 lb:List ByteArray
 ps:List PP
structure EP where
 vr:ByteArray
 ty:List ByteArray
 dir:Int
 mode:Int
 mn:Int
 mx:Int
 ps:List PP
structure PA where
 vr:ByteArray
 ns:List NP
 es:List EP
structure IT where
 e:Ex
 asn:ByteArray
structure SK where
 e:Ex
 dc:Bool
structure SIt where
 vr:ByteArray
 key:ByteArray
 lb:ByteArray
 off:Bool
 e:Ex
structure CL where
 k:Int
 opt:Bool
 ds:Bool
 ps:List PA
 wh:List Ex
 e:Ex
 nm:ByteArray
 it:List IT
 od:List SK
 sk:Int
 lm:Int
 st:List SIt
 ns:List ByteArray
def cn9(p:PP):D:=.agg [.str p.key,.int p.e.op,.int p.e.v.k,.int p.e.v.n,.int p.e.v.d,.str p.e.v.s,.sl (bn1 p.e.v),.str p.e.nm,.bool p.e.ds,.sl (bx9 p.e)]
def co0(n:NP):D:=.agg [.str n.vr,.sl (n.lb.map .str),.sl (n.ps.map cn9)]
def co1(e:EP):D:=.agg [.str e.vr,.sl (e.ty.map .str),.int e.dir,.int e.mode,.int e.mn,.int e.mx,.sl (e.ps.map cn9)]
def co2(p:PA):D:=.agg [.str p.vr,.sl (p.ns.map co0),.sl (p.es.map co1)]
def co3(x:IT):D:=.agg [.int x.e.op,.int x.e.v.k,.int x.e.v.n,.int x.e.v.d,.str x.e.v.s,.sl (bn1 x.e.v),.str x.e.nm,.bool x.e.ds,.sl (bx9 x.e),.str x.asn]
def co4(x:SK):D:=.agg [.int x.e.op,.int x.e.v.k,.int x.e.v.n,.int x.e.v.d,.str x.e.v.s,.sl (bn1 x.e.v),.str x.e.nm,.bool x.e.ds,.sl (bx9 x.e),.bool x.dc]
def co5(x:SIt):D:=.agg [.str x.vr,.str x.key,.str x.lb,.bool x.off,.int x.e.op,.int x.e.v.k,.int x.e.v.n,.int x.e.v.d,.str x.e.v.s,.sl (bn1 x.e.v),.str x.e.nm,.bool x.e.ds,.sl (bx9 x.e)]
def co6(c:CL):D:=.agg [.int c.k,.bool c.opt,.bool c.ds,.sl (c.ps.map co2),.sl (by0 c.wh),.int c.e.op,.int c.e.v.k,.int c.e.v.n,.int c.e.v.d,.str c.e.v.s,.sl (bn1 c.e.v),.str c.e.nm,.bool c.e.ds,.sl (bx9 c.e),
 .str c.nm,.sl (c.it.map co3),.sl (c.od.map co4),.int c.sk,.int c.lm,.sl (c.st.map co5),.sl (c.ns.map .str)]
def s0B(s:ByteArray):Bool:=isS s ⟨#[]⟩
mutual
def co7:Ex→Bool
 |.mk op _ _ _ ks=>op==24||hagL ks
def hagL:List Ex→Bool
 |[]=>false
 |x::r=>co7 x||hagL r
end
def co8(l:List PP):List ByteArray:=l.map fun p=>p.key
def co9:List ByteArray→Bool
 |a::b::r=>Op.bytesLess a.toList b.toList&&co9 (b::r)
 |_=>true
def cp0(e:EP):Int:=bif e.mode==0 then 1 else min (max e.mx 0) 13
def cp1(l:List EP):Int:=l.foldl (fun n e=>n+cp0 e) 0
def cp2(p:PA):Bool:=(p.ns.length==0||decide (p.es.length>6))||decide (cp1 p.es>12)
def cp3(e:EP):Bool:=
 bif (decide (e.dir<1)||decide (e.dir>3))||(decide (e.mode<0)||decide (e.mode>5))then false else
 bif e.mode==0 then e.mn==0&&e.mx==0 else decide (e.mn≥0) &&(decide (e.mn≤e.mx) &&(decide (e.mx≥1) &&(decide (e.mx≤6) &&e.ps.length==0)))
def cp4(e:EP):Bool:=e.mode==0&&(e.ty.length==1&&e.dir !=3)
structure PT where
 nm:ByteArray
 ns:List ByteArray
 ps:List PP
def cp5(x:PT):D:=.agg [.str x.nm,.sl (x.ns.map .str),.sl (x.ps.map cn9)]
def ptN(n:NP):PT:=⟨n.vr,n.lb,n.ps⟩
def ptE(e:EP):PT:=⟨e.vr,e.ty,e.ps⟩
def cp6:List NP→List EP→List PT
 |[],_=>[]
 |n::r,[]=>ptN n::cp6 r []
 |n::r,e::q=>ptN n::ptE e::cp6 r q
def cp7(s:ByteArray):Bool:=s0B s||cm2 s
def cp8(x:PT):Bool:= !(cp7 x.nm)||(!(x.ns.all cm2)|| !((co8 x.ps).all cm2))
def cp9(x:PT):Bool:= !(co9 x.ns)|| !(co9 (co8 x.ps))
def cq0:List Ex→Int
 |[]=>0
 |e::r=>bif cn6 e !=0 then cn6 e else cq0 r
def cq1(l:List PT):List Ex:=l.flatMap fun x=>x.ps.map fun p=>p.e
def cq2(p:PA)(create:Bool):Int:=
 bif cp2 p then 4 else
 bif p.ns.length !=p.es.length+1||p.es.any fun e=> !cp3 e then 1 else
 bif !(cp7 p.vr)||(cp6 p.ns p.es).any cp8 then 6 else
 bif (cp6 p.ns p.es).any cp9 then 26 else
 bif cq0 (cq1 (cp6 p.ns p.es)) !=0 then cq0 (cq1 (cp6 p.ns p.es))else
 bif (cq1 (cp6 p.ns p.es)).any co7 then 9 else
 bif create&&p.es.any fun e=> !cp4 e then 1 else 0
def cq3(e:Ex):Bool:=e.op==0&&(cg9 e.v&&(s0B e.nm&&(!e.ds&&e.ks.length==0)))
def cq4(n:Int):Bool:=n==0||n== -1
def cq5(c:CL):Bool:=
 let w:=c.k==3||c.k==4
 bif c.opt&& !(c.k==1||c.k==8)||c.ds&& !w then true else
 bif decide (c.ps.length>0) && !(c.k==1||(c.k==5||c.k==6))||decide (c.wh.length>0) && !(c.k==1||c.k==3)then true else
 bif !(c.k==2) &&(!(cq3 c.e)|| !(s0B c.nm))|| !w&&(decide (c.it.length>0)||decide (c.od.length>0))then true else
 bif !w&&(!(cq4 c.sk)|| !(cq4 c.lm))||(decide (c.sk< -1)||(decide (c.sk>1000000000000000)||(decide (c.lm< -1)||decide (c.lm>1000000000000000))))then true else
 decide (c.st.length>0) && !(c.k==7)||decide (c.ns.length>0) && !(c.k==8)
def inN(n lo hi:Nat):Bool:=decide (lo≤n) &&decide (n≤hi)
def cq6(c:CL):Bool:=
 bif c.k==1||c.k==5 then !(inN c.ps.length 1 6)||decide (c.wh.length>1)else
 bif c.k==6 then c.ps.length !=1 else
 bif c.k==3||c.k==4 then !(inN c.it.length 1 16)||(decide (c.od.length>16)||decide (c.wh.length>1))else
 bif c.k==7 then !(inN c.st.length 1 16)else
 bif c.k==8 then !(inN c.ns.length 1 16)else false
def cq7(x:SIt):Int:=
 bif !(s0B x.lb) &&(!(s0B x.key)|| !(cq3 x.e))||s0B x.lb&&x.off then 1 else
 bif !(cm2 x.vr)||(!(s0B x.lb) && !(cm2 x.lb)||s0B x.lb&& !(cm2 x.key))then 6 else
 bif s0B x.lb then cn6 x.e else 0
def cq8:List Int→Int
 |[]=>0
 |x::r=>bif x !=0 then x else cq8 r
def cq9(s:ByteArray):Int:=bif cm2 s then 0 else 6
def cr0(c:CL):Int:=
 bif (decide (c.k<1)||decide (c.k>8))||cq5 c then 1 else
 bif cq6 c then 4 else
 cq8 (c.ps.map (fun p=>cq2 p (c.k==5))++c.wh.map cn6++(bif c.k==2 then [cn6 c.e,cq9 c.nm]else [])++c.it.flatMap (fun x=>[cn6 x.e,cq9 x.asn])++c.od.map (fun x=>cn6 x.e)++c.st.map cq7++c.ns.map cq9)
end Go.Proofs.YtndgolmgaenlfaaGreatDoor
