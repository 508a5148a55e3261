/- As each says. -/
import Derived.Test.YtndgolmgaenlfaaGreatDoorGC
import Derived.Test.YtndgolmgaenlfaaGreatDoorMA
import Derived.Lib.IndexMore
import Derived.Test.YtndgolmgaenlfaaGreatDoorGB
set_option linter.unusedVariables false
set_option linter.unusedSimpArgs false
namespace Go.Proofs.YtndgolmgaenlfaaGreatDoor
set_option maxRecDepth 4000
open Go Go.Abs Go.Val Go.Proofs.Tryz
def cg6:List (List UInt8)→List UInt8
 |[]=>[32]
 |w::r=>32::(w++cg6 r)
theorem cg7:∀r,∃t,cg6 r=32::t
 |[]=>⟨[],rfl⟩
 |w::r=>⟨w++cg6 r,rfl⟩
theorem cg8(b:UInt8)(l sub:List UInt8):Lib.contains (b::l) sub=(sub.isPrefixOf (b::l)||Lib.contains l sub):=by
 unfold Lib.contains;have hg:=Lib.index_ge l sub;rw[show Lib.index (b::l) sub=if sub.isPrefixOf (b::l)then 0 else if Lib.index l sub== -1 then-1 else Lib.index l sub+1 from rfl]
 cases hp:sub.isPrefixOf (b::l)with
 |true=>simp
 |false=>
  simp only[Bool.false_eq_true,if_false,fs4]
  by_cases h:Lib.index l sub= -1
  ·simp[h]
  ·have hb:(Lib.index l sub== -1)=false:=by rw[beq_eq_false_iff_ne];exact h
   rw[hb];simp only[Bool.false_eq_true,if_false,decide_eq_decide];omega
theorem cg9(p:List UInt8):∀(w l:List UInt8),(32:UInt8) ∉ w→Lib.contains (w++l) (32::p)=Lib.contains l (32::p)
 |[],l,_=>rfl
 |b::w,l,h=>by
  simp only[fq1,not_or]at h;have hb:((32:UInt8)==b)=false:=by rw[beq_eq_false_iff_ne];exact h.1
  rw[fs9,cg8,cg9 p w l h.2];have:(32::p).isPrefixOf (b::(w++l))=false:=by simp only[List.isPrefixOf,hb,fu5]
  rw[this,fs4]
theorem ch0:∀(U w t:List UInt8),(32:UInt8) ∉ U→(32:UInt8) ∉ w→(U++ [32]).isPrefixOf (w++32::t)=(U==w)
 |[],[],t,_,_=>by simp[List.isPrefixOf]
 |[],b::w,t,_,h=>by
  simp only[fq1,not_or]at h;have hb:((32:UInt8)==b)=false:=by rw[beq_eq_false_iff_ne];exact h.1
  simp only[fr8,fs9,List.isPrefixOf,hb,fu5];rfl
 |a::U,[],t,h,_=>by
  simp only[fq1,not_or]at h;have ha:(a==(32:UInt8))=false:=by rw[beq_eq_false_iff_ne];exact fun e=>h.1 e.symm
  simp only[fr8,fs9,List.isPrefixOf,ha,fu5];rfl
 |a::U,b::w,t,h,h'=>by
  simp only[fq1,not_or]at h h';simp only[fs9,List.isPrefixOf];rw[ch0 U w t h.2 h'.2];rfl
theorem ch1(U:List UInt8)(hU:(32:UInt8) ∉ U):∀ws:List (List UInt8),(∀w∈ws,(32:UInt8) ∉ w)→Lib.contains (cg6 ws) (32::(U++ [32]))=ws.any fun w=>U==w
 |[],_=>by
  have:(32::(U++ [32])).isPrefixOf [(32:UInt8)]=false:=by cases U<;>simp[List.isPrefixOf]
  rw[cg6,cg8,this];simp[Lib.contains,Lib.index]
 |w::r,h=>by
  obtain⟨t,ht⟩:=cg7 r;have ih:=ch1 U hU r fun x hx=>h x (by simp[hx])
  rw[cg6,cg8,cg9 _ w _ (h w Oc),ih,ft8];congr 1;rw[ht];show((32:UInt8)==32&&(U++ [32]).isPrefixOf (w++32::t))=_;rw[ch0 U w t hU (h w Oc)];rfl
attribute [local irreducible] Ev EvO EvS au8 an1 SGo go
def isS(s:ByteArray)(t:ByteArray):Bool:=s.toList==t.toList
def ch2(s:ByteArray):Bool:=isS s ⟨#[105,100]⟩||(isS s ⟨#[116,121,112,101]⟩||(isS s ⟨#[108,97,98,101,108,115]⟩||(isS s ⟨#[115,105,122,101]⟩||(isS s ⟨#[108,101,110,103,116,104]⟩||(isS s ⟨#[110,111,100,101,115]⟩||
 (isS s ⟨#[101,100,103,101,115]⟩||(isS s ⟨#[102,105,114,115,116]⟩||(isS s ⟨#[108,97,115,116]⟩||(isS s ⟨#[115,116,97,114,116]⟩||(isS s ⟨#[101,110,100]⟩||(isS s ⟨#[97,98,115]⟩||isS s ⟨#[116,101,120,116]⟩)))))))))))
def ch3(s:ByteArray):Bool:=isS s ⟨#[99,111,97,108,101,115,99,101]⟩
def ch4(s:ByteArray):Int:=bif ch2 s then 1 else bif ch3 s then 2 else 0
def ch5(s:ByteArray):Int:=bif ch2 s then 1 else bif ch3 s then 4 else 0
def ch6(s:ByteArray):Bool:=isS s ⟨#[99,111,117,110,116]⟩||(isS s ⟨#[115,117,109]⟩||(isS s ⟨#[109,105,110]⟩||(isS s ⟨#[109,97,120]⟩||(isS s ⟨#[97,118,103]⟩||isS s ⟨#[99,111,108,108,101,99,116]⟩))))
theorem ch7(s:ByteArray):Ev E 261 [.str s] (.tup [.int (ch4 s),.int (ch5 s)]):=by
 refine ye1 func261 ntmps261 fun _ _ _=>?_
 repeat'(first|refine yz ?_|(refine qV rfl ?_ ?_<;>intro _))
 all_goals simp_all [ch4,ch5,ch2,ch3,isS,fs3]
theorem ch8(s:ByteArray):Ev E 280 [.str s] (.tup [.int (ch4 s),.int (ch5 s)]):=by
 refine ye1 func280 ntmps280 fun _ _ _=>?_
 repeat'(first|refine yz ?_|(refine qV rfl ?_ ?_<;>intro _))
 all_goals simp_all [ch4,ch5,ch2,ch3,isS,fs3]
theorem ch9(s:ByteArray):Ev E 263 [.str s] (.d (.bool (ch6 s))):=by
 refine ye1 func263 ntmps263 fun _ _ _=>?_
 repeat'(first|refine yz ?_|(refine qV rfl ?_ ?_<;>intro _))
 all_goals(refine congrArg D.bool ?_;simp_all [ch6,isS])
theorem ci0(s:ByteArray):Ev E 279 [.str s] (.d (.bool (ch6 s))):=by
 refine ye1 func279 ntmps279 fun _ _ _=>?_
 repeat'(first|refine yz ?_|(refine qV rfl ?_ ?_<;>intro _))
 all_goals(refine congrArg D.bool ?_;simp_all [ch6,isS])
def ci1(v:V):Bool:=v.k==0&&(v.n==0&&(v.d==0&&(s0 v.s&&l0 v)))
theorem ci2(v:V):Ev E 262 [enc v] (.d (.bool (ci1 v))):=by
 refine ye1 func262 ntmps262 fun _ _ _=>?_
 repeat'(first|refine yz ?_|(refine yy ?_ ?_<;>intro _))
 all_goals(refine congrArg D.bool ?_;simp_all [ci1,s0,l0])
theorem ci3(v:V):Ev E 206 [enc v] (.d (.bool (ci1 v))):=by
 refine ye1 func206 ntmps206 fun _ _ _=>?_
 repeat'(first|refine yz ?_|(refine yy ?_ ?_<;>intro _))
 all_goals(refine congrArg D.bool ?_;simp_all [ci1,s0,l0])
def kn0(e:Ex):Int:=((by4 e).length:Int)
def ci4(e:Ex):Bool:=
 bif e.op==1||e.op==2 then kn0 e==0 else
 bif e.op==3||(e.op==4||(e.op==5||(e.op==6||e.op==21)))then kn0 e==1 else
 bif e.op==22 then decide (kn0 e≤16)else
 bif e.op==23 then ch4 e.nm==0||(decide (kn0 e≥ch4 e.nm) &&decide (kn0 e≤ch5 e.nm))else
 bif e.op==24 then kn0 e==1||(kn0 e==0&&(isS e.nm ⟨#[99,111,117,110,116]⟩ && !e.ds))else kn0 e==2
theorem ci5(s:ByteArray):(ch5 s==0)=(ch4 s==0):=by
 unfold ch5 ch4
 cases ch2 s<;>cases ch3 s<;>rfl
theorem ci6(e:Ex):Ev E 183 [by6 e] (.d (.bool (ci4 e))):=by
 have ha:=ch7 e.nm;refine ye1 func183 ntmps183 fun _ _ _=>?_
 repeat'(first|refine yz ?_|refine yp b261 ha ?_|(refine yy ?_ ?_<;>intro _)|(refine qV rfl ?_ ?_<;>intro _))
 all_goals(refine congrArg D.bool ?_;simp_all [ci4,kn0,isS,fs3]<;>first|rfl|(intro h;exfalso;omega)|(rw[show(ch4 e.nm==0)=false by rw[beq_eq_false_iff_ne];assumption];rfl))
theorem ci7(e:Ex):Ev E 277 [by6 e] (.d (.bool (ci4 e))):=by
 have ha:=ch8 e.nm;have hz:=ci5 e.nm;refine ye1 func277 ntmps277 fun _ _ _=>?_
 repeat'(first|refine yz ?_|refine yp b280 ha ?_|(refine yy ?_ ?_<;>intro _)|(refine qV rfl ?_ ?_<;>intro _))
 all_goals(refine congrArg D.bool ?_;simp_all [ci4,kn0,isS,fs3]<;>first|rfl|(intro h;exfalso;omega)|(rw[show(ch4 e.nm==0)=false by rw[beq_eq_false_iff_ne];assumption];rfl))
def ci8(op:Int):Bool:=op==2||(op==3||(op==4||(op==23||op==24)))
theorem ci9(op:Int):Ev E 278 [.int op] (.d (.bool (ci8 op))):=by
 refine ye1 func278 ntmps278 fun _ _ _=>?_
 repeat'(first|refine yz ?_|(refine yy ?_ ?_<;>intro _))
 all_goals(refine congrArg D.bool ?_;simp_all [ci8]<;>(rw[fq3];simp[*]))
def cj0(e:Ex):Bool:=(e.op==1||ci1 e.v) &&((ci8 e.op||isS e.nm ⟨#[]⟩) &&(e.op==24|| !e.ds))
theorem cj1(e:Ex):Ev E 184 [by6 e] (.d (.bool (cj0 e))):=by
 have hb:=ci2 e.v;refine ye1 func184 ntmps184 fun _ _ _=>?_
 repeat'(first|refine yz ?_|refine yp b262 hb ?_|refine yx ?_|(refine yy ?_ ?_<;>intro _))
 all_goals(refine congrArg D.bool ?_;simp_all [cj0,ci8,isS])
def cj2(v:V):Bool:=ci1 v||((v.k==1||(v.k==2||v.k==4)) &&Val.okV v)
theorem cj3(v:V):Ev E 185 [enc v] (.d (.bool (cj2 v))):=by
 have hb:=ci2 v;have hv:=bw2 bx8 v;refine ye1 func185 ntmps185 fun _ _ _=>?_
 repeat'(first|refine yz ?_|refine yp b262 hb ?_|refine yp br5 hv ?_|(refine yy ?_ ?_<;>intro _))
 all_goals(refine congrArg D.bool ?_;simp_all [cj2])
mutual
def nd:Ex→Nat
 |.mk _ _ _ _ l=>ndL l+1
def ndL:List Ex→Nat
 |[]=>0
 |x::r=>nd x+ndL r
end
theorem cj4(e:Ex):nd e=ndL e.ks+1:=by cases e;simp[nd,Ex.ks]
theorem cj5:∀{l:List Ex} {x:Ex},x∈l→nd x≤ndL l
 |[],x,h=>by simp at h
 |y::r,x,h=>by
  simp only[ndL];rcases fq1.1 h with e|e
  ·rw[e];omega
  ·have:=cj5 e;omega
theorem cj6{l:List Ex}{i:Nat}{x:Ex}(h:l[i]? =some x):ndL (l.drop i)=nd x+ndL (l.drop (i+1)):=by
 rw[bu9 h];rfl
structure SNd(l:List Ex) where
 i:Nat
 n:Nat
 hi:i≤l.length
 ok:ndL l+1=n+ndL (l.drop i)
theorem cj7(e:Ex):nd e≤1000000→Ev E 118 [by6 e] (.d (.int (nd e))):=by
 refine bz5 (P:=fun e=>nd e≤1000000→Ev E 118 [by6 e] (.d (.int (nd e)))) (fun op v nm ds ks ih hb=>?_) e;refine Ev.fit fun hfit=>?_
 obtain⟨-,-,-,hmax,-⟩:=bz3 (hfit (by6 (.mk op v nm ds ks)) Oc);simp only[Ex.ks]at hmax;have hlen:(by4 (.mk op v nm ds ks)).length=ks.length:=bz1 _;have hnd:nd (.mk op v nm ds ks)=ndL ks+1:=cj4 _;rw[hnd]at hb ⊢;refine ye1 func118 ntmps118 fun _ _ _=>?_
 repeat'(refine yz ?_)
 refine ac7 (α:=SNd ks) (fun p=>⟨[(3,.d (.int p.n)),(7,.d (.sl (by4 (.mk op v nm ds ks)))),(8,.d (.int (by4 (.mk op v nm ds ks)).length)),(9,.d (.int p.i))],[]⟩) (fun p=>ks.length-p.i) ⟨0,1,by omega,by rw[fu8];omega⟩ (zle 0) ?_;rintro⟨i,n,hi,ok⟩;dsimp only;rcases fp2 i ks.length with hlt|hge
 ·have hd1:decide ((i:Int)<((by4 (.mk op v nm ds ks)).length:Int))=true:=by rw[hlen];simpa using hlt
  have hx0:=fp1 hlt;generalize ks[i]=x at hx0;have hx:(by4 (.mk op v nm ds ks))[(i:Int).toNat]? =some (by6 x):=by9 (e:=.mk op v nm ds ks) (by rw[fr2];exact hx0);have hdr:=cj6 hx0;have hm:=cj5 (fp3 hx0);have hs:=ih x (fp3 hx0) Oa
  repeat'(first|refine yz ?_|refine yi (by6 x) hx ?_|refine yp b118 hs ?_)
  refine ac1 ?_;refine⟨⟨i+1,n+nd x,by omega,by omega⟩,by dsimp only;omega,?_⟩;dsimp only;rw[Int.natCast_add];exact(zle 0)
 ·have hd1:decide ((i:Int)<((by4 (.mk op v nm ds ks)).length:Int))=false:=by rw[hlen];simp;omega
  have:ks.drop i=[]:=fp8 hge;rw[ok,this]
  exact Ok
theorem cj8(e:Ex):nd e≤1000000→Ev E 21 [by6 e] (.d (.int (nd e))):=by
 refine bz5 (P:=fun e=>nd e≤1000000→Ev E 21 [by6 e] (.d (.int (nd e)))) (fun op v nm ds ks ih hb=>?_) e;refine Ev.fit fun hfit=>?_
 obtain⟨-,-,-,hmax,-⟩:=bz3 (hfit (by6 (.mk op v nm ds ks)) Oc);simp only[Ex.ks]at hmax;have hlen:(by4 (.mk op v nm ds ks)).length=ks.length:=bz1 _;have hnd:nd (.mk op v nm ds ks)=ndL ks+1:=cj4 _;rw[hnd]at hb ⊢;refine ye1 func21 ntmps21 fun _ _ _=>?_
 repeat'(refine yz ?_)
 refine ac7 (α:=SNd ks) (fun p=>⟨[(1,.ptr 0 0),(3,.d (.int p.n)),(4,.d (.int p.i))],[.var 33 (.w (.d (by6 (.mk op v nm ds ks))))]⟩) (fun p=>ks.length-p.i) ⟨0,1,by omega,by rw[fu8];omega⟩ (zle 1) ?_;rintro⟨i,n,hi,ok⟩;dsimp only;rcases fp2 i ks.length with hlt|hge
 ·have hd1:decide ((i:Int)<((by4 (.mk op v nm ds ks)).length:Int))=true:=by rw[hlen];simpa using hlt
  have hx0:=fp1 hlt;generalize ks[i]=x at hx0;have hx:(by4 (.mk op v nm ds ks))[(i:Int).toNat]? =some (by6 x):=by9 (e:=.mk op v nm ds ks) (by rw[fr2];exact hx0);have hdr:=cj6 hx0;have hm:=cj5 (fp3 hx0);have hs:=ih x (fp3 hx0) Oa
  repeat'(first|refine yz ?_|refine yi (by6 x) hx ?_|refine yp b21 hs ?_)
  refine ac1 ?_;refine⟨⟨i+1,n+nd x,by omega,by omega⟩,by dsimp only;omega,?_⟩;dsimp only;rw[Int.natCast_add];exact(zle 1)
 ·have hd1:decide ((i:Int)<((by4 (.mk op v nm ds ks)).length:Int))=false:=by rw[hlen];simp;omega
  have:ks.drop i=[]:=fp8 hge;rw[ok,this]
  exact Ok
end Go.Proofs.YtndgolmgaenlfaaGreatDoor
namespace Go.Proofs.YtndgolmgaenlfaaGreatDoor
set_option maxRecDepth 4000
open Go Go.Abs Go.Val Go.Proofs.Tryz
attribute [local irreducible] go SGo an1 Ev au8 EvO EvS
mutual
def dp:Ex→Nat
 |.mk _ _ _ _ l=>dpL l+1
def dpL:List Ex→Nat
 |[]=>0
 |x::r=>max (dp x) (dpL r)
end
theorem cj9(e:Ex):dp e=dpL e.ks+1:=by cases e;simp[dp,Ex.ks]
theorem ck0:∀{l:List Ex} {x:Ex},x∈l→dp x≤dpL l
 |[],x,h=>by simp at h
 |y::r,x,h=>by
  simp only[dpL];rcases fq1.1 h with e|e
  ·rw[e];omega
  ·have:=ck0 e;omega
theorem ck1{l:List Ex}{i:Nat}{x:Ex}(h:l[i]? =some x):dpL (l.drop i)=max (dp x) (dpL (l.drop (i+1))):=by
 rw[bu9 h];rfl
structure SDp(l:List Ex) where
 i:Nat
 n:Nat
 hi:i≤l.length
 ok:dpL l=max n (dpL (l.drop i))
theorem ck2(e:Ex):dp e≤1000000→Ev E 141 [by6 e] (.d (.int (dp e))):=by
 refine bz5 (P:=fun e=>dp e≤1000000→Ev E 141 [by6 e] (.d (.int (dp e)))) (fun op v nm ds ks ih hb=>?_) e;refine Ev.fit fun hfit=>?_
 obtain⟨-,-,-,hmax,-⟩:=bz3 (hfit (by6 (.mk op v nm ds ks)) Oc);simp only[Ex.ks]at hmax;have hlen:(by4 (.mk op v nm ds ks)).length=ks.length:=bz1 _;have hnd:dp (.mk op v nm ds ks)=dpL ks+1:=cj9 _;rw[hnd]at hb ⊢;refine ye1 func141 ntmps141 fun _ _ _=>?_
 repeat'(refine yz ?_)
 refine ac7 (α:=SDp ks) (fun p=>⟨[(1,.ptr 0 0),(3,.d (.int p.n)),(4,.d (.int p.i))],[.var 33 (.w (.d (by6 (.mk op v nm ds ks))))]⟩) (fun p=>ks.length-p.i) ⟨0,0,by omega,by rw[fu8];omega⟩ (zle 1) ?_;rintro⟨i,n,hi,ok⟩;dsimp only;rcases fp2 i ks.length with hlt|hge
 ·have hd1:decide ((i:Int)<((by4 (.mk op v nm ds ks)).length:Int))=true:=by rw[hlen];simpa using hlt
  have hx0:=fp1 hlt;generalize ks[i]=x at hx0;have hx:(by4 (.mk op v nm ds ks))[(i:Int).toNat]? =some (by6 x):=by9 (e:=.mk op v nm ds ks) (by rw[fr2];exact hx0);have hdr:=ck1 hx0;have hm:=ck0 (fp3 hx0);have hs:=ih x (fp3 hx0) Oa
  cases hgt:decide ((dp x:Int)>(n:Int))with
  |true=>
   have hgt':=of_decide_eq_true hgt
   repeat'(first|refine yz ?_|refine yi (by6 x) hx ?_|refine yp bq0 hs ?_)
   refine ac1 ?_;exact⟨⟨i+1,dp x,by omega,by omega⟩,by dsimp only;omega,(zle 1)⟩
  |false=>
   have hgt':=of_decide_eq_false hgt
   repeat'(first|refine yz ?_|refine yi (by6 x) hx ?_|refine yp bq0 hs ?_)
   refine ac1 ?_;exact⟨⟨i+1,n,by omega,by omega⟩,by dsimp only;omega,(zle 1)⟩
 ·have hd1:decide ((i:Int)<((by4 (.mk op v nm ds ks)).length:Int))=false:=by rw[hlen];simp;omega
  have:ks.drop i=[]:=fp8 hge;have hn:n=dpL ks:=by rw[ok,this];simp[dpL]
  subst hn
  exact Ok
theorem ck3(e:Ex):dp e≤1000000→Ev E 117 [by6 e] (.d (.int (dp e))):=by
 refine bz5 (P:=fun e=>dp e≤1000000→Ev E 117 [by6 e] (.d (.int (dp e)))) (fun op v nm ds ks ih hb=>?_) e;refine Ev.fit fun hfit=>?_
 obtain⟨-,-,-,hmax,-⟩:=bz3 (hfit (by6 (.mk op v nm ds ks)) Oc);simp only[Ex.ks]at hmax;have hlen:(by4 (.mk op v nm ds ks)).length=ks.length:=bz1 _;have hnd:dp (.mk op v nm ds ks)=dpL ks+1:=cj9 _;rw[hnd]at hb ⊢;refine ye1 func117 ntmps117 fun _ _ _=>?_
 repeat'(refine yz ?_)
 refine ac7 (α:=SDp ks) (fun p=>⟨[(3,.d (.int p.n)),(7,.d (.sl (by4 (.mk op v nm ds ks)))),(8,.d (.int (by4 (.mk op v nm ds ks)).length)),(9,.d (.int p.i))],[]⟩) (fun p=>ks.length-p.i) ⟨0,0,by omega,by rw[fu8];omega⟩ (zle 0) ?_;rintro⟨i,n,hi,ok⟩;dsimp only;rcases fp2 i ks.length with hlt|hge
 ·have hd1:decide ((i:Int)<((by4 (.mk op v nm ds ks)).length:Int))=true:=by rw[hlen];simpa using hlt
  have hx0:=fp1 hlt;generalize ks[i]=x at hx0;have hx:(by4 (.mk op v nm ds ks))[(i:Int).toNat]? =some (by6 x):=by9 (e:=.mk op v nm ds ks) (by rw[fr2];exact hx0);have hdr:=ck1 hx0;have hm:=ck0 (fp3 hx0);have hs:=ih x (fp3 hx0) Oa
  repeat'(first|refine yz ?_|refine yi (by6 x) hx ?_|refine yp b117 hs ?_)
  refine ac1 ?_;refine⟨⟨i+1,max n (dp x),by omega,by omega⟩,by dsimp only;omega,?_⟩;dsimp only;rw[show((max n (dp x):Nat):Int)=max (n:Int) (dp x:Int) by omega];exact(zle 0)
 ·have hd1:decide ((i:Int)<((by4 (.mk op v nm ds ks)).length:Int))=false:=by rw[hlen];simp;omega
  have:ks.drop i=[]:=fp8 hge;have hn:n=dpL ks:=by rw[ok,this];simp[dpL]
  subst hn
  exact Ok
end Go.Proofs.YtndgolmgaenlfaaGreatDoor
namespace Go.Proofs.YtndgolmgaenlfaaGreatDoor
set_option maxRecDepth 4000
open Go Go.Abs Go.Val Go.RowKit Go.Proofs.Tryz
attribute [local irreducible] go SGo an1 Ev au8 EvO EvS
theorem ck4(i:Nat):Nat.blt i i=false:=by
 cases h:Nat.blt i i with
 |false=>rfl
 |true=>simp at h
def upN(n:Int):Int:=bif decide (n≥97) &&decide (n≤122)then n-32 else n
def ck5(s:ByteArray)(i:Nat):List D:=(List.range s.size).map fun j=>D.imm (.int .u8 (bif Nat.blt j i then upN (ag0 s j)else ag0 s j))
def upL(s:ByteArray)(i:Nat):List Int:=(List.range i).map fun j=>upN (ag0 s j)
def upF(s:ByteArray):ByteArray:=Go.Abs.strOf (upL s s.size)
theorem ck6(s:ByteArray)(i:Nat):(upL s i).length=i:=by simp[upL]
theorem ck7(s:ByteArray)(i:Nat):upL s (i+1)=upL s i++ [upN (ag0 s i)]:=by simp[upL,List.range_succ]
theorem ck8(s:ByteArray)(i:Nat):(ck5 s i).length=s.size:=by simp[ck5]
theorem ck9{s:ByteArray}{i j:Nat}(h:j<s.size):(ck5 s i)[j]? =some (D.imm (.int .u8 (bif Nat.blt j i then upN (ag0 s j)else ag0 s j))):=by
 rw[ck5,fp9,fw5 h];rfl
theorem cl0(s:ByteArray):ck5 s 0=bb7 s:=by
 refine fx5 fun j=>?_
 rcases fp2 j s.size with h|h
 ·rw[ck9 h,bc0 h];rfl
 ·rw[ft2 (by rw[ck8];exact h),ft2 (by rw[bb8];exact h)]
theorem cl1{s:ByteArray}{i:Nat}(h:i<s.size):(ck5 s i).set i (.imm (.int .u8 (upN (ag0 s i))))=ck5 s (i+1):=by
 refine fx5 fun j=>?_
 rcases fp2 j s.size with hj|hj
 ·rw[fu9,ck9 hj,ck9 hj]
  by_cases e:i=j
  ·subst e;rw[if_pos rfl,if_pos (by rw[ck8];exact h),show Nat.blt i (i+1)=true by simp];rfl
  ·rw[if_neg e];have:Nat.blt j (i+1)=Nat.blt j i:=by rw[fq3];simp;omega
   rw[this]
 ·rw[ft2 (by rw[List.length_set,ck8];exact hj),ft2 (by rw[ck8];exact hj)]
theorem cl2{s:ByteArray}{i:Nat}(h:i<s.size)(hn:upN (ag0 s i)=ag0 s i):ck5 s i=ck5 s (i+1):=by
 rw[←cl1 h,hn];refine fx5 fun j=>?_
 rw[fu9]
 by_cases e:i=j
 ·subst e;rw[if_pos rfl,if_pos (by rw[ck8];exact h),ck9 h,ck4];rfl
 ·rw[if_neg e]
theorem cl3(s:ByteArray):ck5 s s.size=(upL s s.size).map fun n=>.imm (.int .u8 n):=by
 refine fx5 fun j=>?_
 rcases fp2 j s.size with hj|hj
 ·rw[ck9 hj,upL,List.map_map,fp9,fw5 hj,show Nat.blt j s.size=true by simpa using hj];rfl
 ·rw[ft2 (by rw[ck8];exact hj),ft2 (by rw[fp6,ck6];exact hj)]
theorem cl4(ns:List Int)(n:Int):Go.Abs.strOf (ns++ [n])=Go.Abs.strOf ns++Go.Abs.strOf [n]:=by
 unfold Go.Abs.strOf;rw[List.foldl_append];simp only[ft5,fw0];apply ByteArray.ext;simp[ByteArray.push]
structure SUp(s:ByteArray) where
 i:Nat
 hi:i≤s.size
set_option maxHeartbeats 1000000 in
theorem cl5(s:ByteArray):Ev E 318 [.str s] (.d (.str (upF s))):=Ev.fit fun hfit=>by
 have hs:=(hfit (.str s) Oc).str;have hlen:(bb7 s).length=s.size:=bb8 s;refine ye1 func318 ntmps318 fun _ _ _=>?_
 repeat'(first|refine yz ?_|refine bc6 rfl rfl rfl rfl rfl rfl rfl rfl ?_)
 rw[hlen,←cl0];refine ac7 (α:=SUp s) (fun p=>⟨[(3,.own 0),(8,.own 0),(9,.d (.int s.size)),(10,.d (.int p.i))],[.mrow 5 1 (ck5 s p.i)]⟩) (fun p=>s.size-p.i) ⟨0,by omega⟩ (zle 1) ?_;rintro⟨i,hi⟩;dsimp only;have hrl:=ck8 s i;rcases fp2 i s.size with hlt|hge
 ·have hd1:decide ((i:Int)<(s.size:Int))=true:=by simpa using hlt
  have hti:(i:Int).toNat=i:=fr2 i;have hx:(ck5 s i)[(i:Int).toNat]? =some (.imm (.int .u8 (ag0 s i))):=by rw[hti,ck9 hlt,ck4];rfl
  have hb:=ca1 s i hlt
  cases h1:decide (ag0 s i≥97)with
  |false=>
   have hn:upN (ag0 s i)=ag0 s i:=by unfold upN;rw[h1];rfl
   repeat'(first|refine yz ?_|refine bc9 rfl rfl rfl rfl rfl rfl rfl rfl (by constructor<;>first|omega|(simp;omega)|decide) ?_|refine bd0 _ rfl rfl rfl rfl rfl rfl hx rfl ?_|refine yx ?_)
   refine ac1 ?_;refine⟨⟨i+1,by omega⟩,by dsimp only;omega,?_⟩;rw[cl2 hlt hn];exact(zle 1)
  |true=>
   cases h2:decide (ag0 s i≤122)with
   |false=>
    have hn:upN (ag0 s i)=ag0 s i:=by unfold upN;rw[h1,h2];rfl
    repeat'(first|refine yz ?_|refine bc9 rfl rfl rfl rfl rfl rfl rfl rfl (by constructor<;>first|omega|(simp;omega)|decide) ?_|refine bd0 _ rfl rfl rfl rfl rfl rfl hx rfl ?_|refine yx ?_)
    refine ac1 ?_;refine⟨⟨i+1,by omega⟩,by dsimp only;omega,?_⟩;rw[cl2 hlt hn];exact(zle 1)
   |true=>
    have h1':=of_decide_eq_true h1;have h2':=of_decide_eq_true h2;have hn:ag0 s i-97+65=upN (ag0 s i):=by unfold upN;rw[h1,h2];simp;omega
    repeat'(first|refine yz ?_|refine bc9 rfl rfl rfl rfl rfl rfl rfl rfl (by constructor<;>first|omega|(simp;omega)|decide) ?_|refine bd0 _ rfl rfl rfl rfl rfl rfl hx rfl ?_|refine bd1 _ rfl rfl rfl rfl rfl rfl hx rfl rfl rfl ?_|refine yx ?_)
    refine ac1 ?_;refine⟨⟨i+1,by omega⟩,by dsimp only;omega,?_⟩;rw[hti,hn,cl1 hlt];exact(zle 1)
 ·have hd1:decide ((i:Int)<(s.size:Int))=false:=by simp;omega
  obtain rfl:i=s.size:=Oa
  repeat'(refine yz ?_)
  refine bc7 0 rfl ?_;dsimp only[ar6,ar5];have he:=cl3 s
  repeat'(first|refine yz ?_|refine bc8 (upL s s.size) rfl rfl rfl rfl rfl rfl rfl rfl he ?_|exact zD)
set_option maxHeartbeats 1000000 in
theorem cl6(s:ByteArray):Ev E 219 [.str s] (.d (.str (upF s))):=Ev.fit fun hfit=>by
 have hs:=(hfit (.str s) Oc).str;refine ye1 func219 ntmps219 fun _ _ _=>?_
 repeat'(refine yz ?_)
 refine ac7 (α:=SUp s) (fun p=>⟨[(0,.d (.str s)),(3,.d (.str (Go.Abs.strOf (upL s p.i)))),(4,.d (.int p.i))],[]⟩) (fun p=>s.size-p.i) ⟨0,by omega⟩ (zle 0) ?_;rintro⟨i,hi⟩;dsimp only;have hz:(Go.Abs.strOf (upL s i)).size=i:=by rw[at0,ck6]
 rcases fp2 i s.size with hlt|hge
 ·have hd1:decide ((i:Int)<(s.size:Int))=true:=by simpa using hlt
  have hti:(i:Int).toNat=i:=fr2 i;have hb:=ca1 s i hlt;rw[←hti]at hb;have hz1:∀n,(Go.Abs.strOf [n]).size=1:=fun n=>at0 [n]
  have e1:Go.Abs.strOf (upL s (i+1))=Go.Abs.strOf (upL s i)++Go.Abs.strOf [upN (ag0 s (i:Int).toNat)]:=by rw[ck7,cl4,hti]
  cases h1:decide (ag0 s (i:Int).toNat≥97)with
  |false=>
   have hn:upN (ag0 s (i:Int).toNat)=ag0 s (i:Int).toNat:=by unfold upN;rw[h1];rfl
   have hz2:=hz1 (ag0 s (i:Int).toNat)
   repeat'(first|refine yz ?_|refine yx ?_)
   refine ac1 ?_;refine⟨⟨i+1,by omega⟩,by dsimp only;omega,?_⟩;dsimp only;rw[e1,hn];exact(zle 0)
  |true=>
   cases h2:decide (ag0 s (i:Int).toNat≤122)with
   |false=>
    have hn:upN (ag0 s (i:Int).toNat)=ag0 s (i:Int).toNat:=by unfold upN;rw[h1,h2];rfl
    have hz2:=hz1 (ag0 s (i:Int).toNat)
    repeat'(first|refine yz ?_|refine yx ?_)
    refine ac1 ?_;refine⟨⟨i+1,by omega⟩,by dsimp only;omega,?_⟩;dsimp only;rw[e1,hn];exact(zle 0)
   |true=>
    have h1':=of_decide_eq_true h1;have h2':=of_decide_eq_true h2;have hn:upN (ag0 s (i:Int).toNat)=ag0 s (i:Int).toNat-32:=by unfold upN;rw[h1,h2];rfl
    have hz2:=hz1 (ag0 s (i:Int).toNat-32)
    repeat'(first|refine yz ?_|refine yx ?_)
    refine ac1 ?_;refine⟨⟨i+1,by omega⟩,by dsimp only;omega,?_⟩;dsimp only;rw[e1,hn];exact(zle 0)
 ·have hd1:decide ((i:Int)<(s.size:Int))=false:=by simp;omega
  obtain rfl:i=s.size:=Oa
  exact Ok
def cl7:List ByteArray:=[⟨#[77,65,84,67,72]⟩,⟨#[79,80,84,73,79,78,65,76]⟩,⟨#[87,72,69,82,69]⟩,⟨#[85,78,87,73,78,68]⟩,⟨#[65,83]⟩,⟨#[87,73,84,72]⟩,⟨#[68,73,83,84,73,78,67,84]⟩,⟨#[79,82,68,69,82]⟩,⟨#[66,89]⟩,⟨#[65,83,67]⟩,⟨#[68,69,83,67]⟩,⟨#[83,75,73,80]⟩,⟨#[76,73,77,73,84]⟩,⟨#[82,69,84,85,82,78]⟩,⟨#[67,82,69,65,84,69]⟩,⟨#[77,69,82,71,69]⟩,⟨#[83,69,84]⟩,⟨#[82,69,77,79,86,69]⟩,⟨#[68,69,76,69,84,69]⟩,⟨#[68,69,84,65,67,72]⟩,⟨#[65,78,68]⟩,⟨#[79,82]⟩,⟨#[78,79,84]⟩,⟨#[73,78]⟩,⟨#[73,83]⟩,⟨#[78,85,76,76]⟩,⟨#[84,82,85,69]⟩,⟨#[70,65,76,83,69]⟩,⟨#[87,65,76,75]⟩,⟨#[84,82,65,73,76]⟩,⟨#[83,73,77,80,76,69]⟩,⟨#[83,72,79,82,84,69,83,84]⟩,⟨#[65,78,89]⟩]
def cl8(s:ByteArray):Bool:=cl7.any fun w=>w.toList==(upF s).toList
theorem cl9:Ev E 220 [] (.d (.sl (cl7.map .str))):=by
 refine ap4 func220 ntmps220 rfl rfl fun w0 F0 O=>?_
 exact Ok
structure SWd(u:ByteArray) where
 i:Nat
 hi:i≤cl7.length
 ok:(cl7.any fun w=>w.toList==u.toList)=((cl7.drop i).any fun w=>w.toList==u.toList)
theorem cm0(s:ByteArray):Ev E 144 [.str s] (.d (.bool (cl8 s))):=by
 have h1:=cl6 s;have h2:=cl9;unfold cl8;have hwl:cl7.length=33:=rfl;have h33:(cl7.map D.str).length=cl7.length:=by rw[fp6]
 generalize hw:cl7.map D.str=ws at*;generalize upF s=u at*;refine ye1 func144 ntmps144 fun _ _ _=>?_
 repeat'(first|refine yz ?_|refine yp b219 h1 ?_|refine yp b220 h2 ?_)
 refine ac7 (α:=SWd u) (fun p=>⟨[(3,.d (.str u)),(4,.d (.sl ws)),(5,.d (.int p.i))],[]⟩) (fun p=>cl7.length-p.i) ⟨0,fr4 _,rfl⟩ (zle 0) ?_;rintro⟨i,hi,ok⟩;dsimp only;rcases fp2 i cl7.length with hlt|hge
 ·have hd1:decide ((i:Int)<(ws.length:Int))=true:=by rw[h33];simpa using hlt
  have hx0:=fp1 hlt;generalize cl7[i]=x at hx0;have hx:ws[(i:Int).toNat]? =some (.str x):=by rw[←hw,fr2,fp9,hx0];rfl
  rw[ok,bu9 hx0,ft8]
  cases he:x.toList==u.toList with
  |true=>
   repeat'(first|refine yz ?_|refine yi (.str x) hx ?_|exact zD)
  |false=>
   repeat'(first|refine yz ?_|refine yi (.str x) hx ?_)
   refine ac1 ?_;exact⟨⟨i+1,by omega,by rw[ok,bu9 hx0,ft8,he,fs4]⟩,by dsimp only;omega,(zle 0)⟩
 ·have hd1:decide ((i:Int)<(ws.length:Int))=false:=by rw[h33];simp;omega
  rw[ok,fp8 hge]
  exact Ok
def upB(b:UInt8):UInt8:=UInt8.ofNat (upN b.toNat).toNat
theorem cm1(ns:List Int):(Go.Abs.strOf ns).data.toList=ns.map fun n=>UInt8.ofNat n.toNat:=by
 have key:∀(ns:List Int) (r:ByteArray),(ns.foldl (fun r n=>r.push (UInt8.ofNat n.toNat)) r).data.toList=r.data.toList++ns.map fun n=>UInt8.ofNat n.toNat:=by
  intro ns
  induction ns with
  |nil=>intro r;simp
  |cons n ns ih=>
   intro r;rw[ft5,ih];simp[ByteArray.push]
 have:=key ns ByteArray.empty;unfold Go.Abs.strOf;rw[this];simp
theorem cm2(s:ByteArray):(upF s).data.toList=s.data.toList.map upB:=by
 unfold upF;rw[cm1];refine fx5 fun j=>?_
 have hl:s.data.toList.length=s.size:=Oc
 rcases fp2 j s.size with hj|hj
 ·have hx:=fp1 (show j<s.data.toList.length by omega);rw[fp9,upL,fp9,fw5 hj,fp9,hx];simp only[ft1,upB,ag0,fu1,hx,fv1]
 ·rw[ft2 (by rw[fp6,ck6];exact hj),ft2 (by rw[fp6];omega)]
theorem cm3(b:UInt8):upB b=32↔b=32:=by
 have key:∀c:Fin 256,(upB (UInt8.ofFin c)=32)=(UInt8.ofFin c=32):=by
  intro c;revert c;decide+kernel
 have hb:b=UInt8.ofFin b.toFin:=by rfl
 rw[hb];exact iff_of_eq (key b.toFin)
theorem cm4:∀l:List UInt8,Lib.contains l [32]=decide ((32:UInt8)∈l)
 |[]=>by simp[Lib.contains,Lib.index]
 |b::l=>by
  rw[cg8,cm4 l];have:([32]:List UInt8).isPrefixOf (b::l)=((32:UInt8)==b):=by simp only[List.isPrefixOf,Bool.and_true]
  rw[this,fq3,ft0,beq_iff_eq,decide_eq_true_eq,decide_eq_true_eq,fq1]
theorem cm5(s:ByteArray):(32:UInt8)∈(upF s).data.toList↔(32:UInt8)∈s.data.toList:=by
 rw[cm2,fq8];constructor
 ·rintro⟨b,h1,h2⟩;rw[(cm3 b).1 h2]at h1;exact h1
 ·intro h;exact⟨32,h,(cm3 32).2 rfl⟩
theorem cm6:∀w∈cl7.map (·.data.toList),(32:UInt8) ∉ w:=by
 have:(cl7.map (·.data.toList)).all (fun w=> !w.contains 32)=true:=Od
 intro w hw hm;have:=fr7.1 this w hw;simp[List.contains_iff_mem]at this;exact this hm
theorem cm7(U:List UInt8):((cl7.map (·.data.toList)).any fun w=>U==w)=cl7.any fun w=>w.data.toList==U:=by
 rw[List.any_map];congr 1
 funext w
 simp only[Function.comp];rw[fq3,beq_iff_eq,beq_iff_eq];exact⟨fun h=>h.symm,fun h=>h.symm⟩
theorem cm8(s:ByteArray):cl8 s=cl7.any fun w=>w.data.toList==(upF s).data.toList:=by
 unfold cl8;simp only[ByteArray.toList_eq]
theorem cm9(s:ByteArray)(h:Lib.contains s.data.toList [32]=false):Lib.contains (cg6 (cl7.map (·.data.toList))) (32::((upF s).data.toList++ [32]))=cl8 s:=by
 rw[cm4,decide_eq_false_iff_not]at h;rw[ch1 _ (fun hm=>h ((cm5 s).1 hm)) _ cm6,cm7,cm8]
theorem cn0(s:ByteArray)(h:Lib.contains s.data.toList [32]=true):cl8 s=false:=by
 rw[cm4,decide_eq_true_eq]at h;rw[cm8,fv8];intro w hw he;have e:=eq_of_beq he;refine cm6 _ (fs7 hw) ?_;rw[e];exact(cm5 s).2 h
theorem cn1(s sub:ByteArray)(hs:s.size<4294967281):Ev E 317 [.str s,.str sub] (.d (.bool (Lib.contains s.data.toList sub.data.toList))):=by
 refine bw9 rfl fun w F hG _ _=>?_
 obtain⟨-,-,m,hm⟩:=hG.2;refine(Tryz.strings_Contains s sub m w hs hm).mono ?_;rintro e w' ⟨rfl,rfl⟩;exact⟨rfl,Below.refl _ _⟩
theorem cn2(s:ByteArray):(upF s).size=s.size:=by unfold upF;rw[at0,ck6]
set_option maxRecDepth 10000 in
attribute [local irreducible] upF cl8 cg6 cl7 in
theorem cn3(s:ByteArray)(hs:s.size≤1000):Ev E 267 [.str s] (.d (.bool (cl8 s))):=by
 have hu:=cl5 s;have hus:=cn2 s;have h1:(⟨#[32]⟩:ByteArray).size=1:=rfl;have hc1:=cn1 s ⟨#[32]⟩ Oa
 cases h0: !(s.toList==(⟨#[]⟩:ByteArray).toList)with
 |false=>
  have e:cl8 s=false:=by
   rw[cm8,cm2];have:s.data.toList=[]:=by rw[Bool.not_eq_false',beq_iff_eq,ByteArray.toList_eq,ByteArray.toList_eq]at h0;exact h0
   rw[this];unfold cl7;decide+kernel
  rw[e];refine ye1 func267 ntmps267 fun _ _ _=>?_
  exact Ok
 |true=>
  cases hb:Lib.contains s.data.toList [32]with
  |true=>
   rw[show(⟨#[32]⟩:ByteArray).data.toList=[32]from rfl,hb]at hc1;rw[cn0 s hb];refine ye1 func267 ntmps267 fun _ _ _=>?_
   repeat'(first|refine yz ?_|refine yp b317 hc1 ?_|refine yx ?_|exact zD)
  |false=>
   rw[show(⟨#[32]⟩:ByteArray).data.toList=[32]from rfl,hb]at hc1;have hr:=cm9 s hb;refine ye1 func267 ntmps267 fun _ _ _=>?_
   repeat'(first|refine yz ?_|refine qP (d:=7) rfl rfl rfl rfl rfl rfl b317 (hc1) ?_|refine yp b318 hu ?_|refine qP (d:=15) rfl rfl rfl rfl rfl rfl b317 ((cn1 _ _ Oe)) ?_|refine yx ?_)
   rw[show ∀x,(cond (bif true then !false else false) x false)=x from fun _=>rfl];refine congrArg D.bool (Eq.trans (congr (congrArg Lib.contains ?_) ?_) hr)
   ·unfold cg6 cl7;decide+kernel
   ·simp only[ByteArray.data_append,Array.toList_append];simp
def cn4(s:ByteArray):Bool:=bz7 s&& !cl8 s
theorem cn5{s:ByteArray}(h:bz7 s=true):s.size≤1000:=by
 unfold bz7 at h;simp only[fq9,decide_eq_true_eq]at h;omega
theorem cn6(s:ByteArray):Ev E 200 [.str s] (.d (.bool (cn4 s))):=by
 have h1:=ca2 s;unfold cn4
 cases hn:bz7 s with
 |false=>
  rw[hn]at h1;refine ye1 func200 ntmps200 fun _ _ _=>?_
  repeat'(first|refine yz ?_|refine yp b179 h1 ?_|exact zD)
 |true=>
  rw[hn]at h1;have h2:=cn3 s (cn5 hn);refine ye1 func200 ntmps200 fun _ _ _=>?_
  repeat'(first|refine yz ?_|refine yp b179 h1 ?_|refine yp b267 h2 ?_|exact zD)
theorem cn7(s:ByteArray):Ev E 77 [.str s] (.d (.bool (cn4 s))):=by
 have h1:=ca3 s;have h2:=cm0 s;unfold cn4
 cases hn:bz7 s with
 |false=>
  rw[hn]at h1;refine ye1 func77 ntmps77 fun _ _ _=>?_
  repeat'(first|refine yz ?_|refine yp bq1 h1 ?_|exact zD)
 |true=>
  rw[hn]at h1;refine ye1 func77 ntmps77 fun _ _ _=>?_
  repeat'(first|refine yz ?_|refine yp bq1 h1 ?_|refine yp b144 h2 ?_|exact zD)
def nlF(e:Ex):Bool:=
 bif e.op==2||(e.op==3||e.op==4)then !cn4 e.nm else
 bif e.op==23 then ch4 e.nm==0 else
 bif e.op==24 then !ch6 e.nm else false
theorem cn8(e:Ex):Ev E 186 [by6 e] (.d (.bool (nlF e))):=by
 have h1:=cn6 e.nm;have h2:=ch7 e.nm;have h3:=ch9 e.nm;refine ye1 func186 ntmps186 fun _ _ _=>?_
 repeat'(first|refine yz ?_|refine yp br2 h1 ?_|refine yp b261 h2 ?_|refine yp b263 h3 ?_|(refine qV rfl ?_ ?_<;>intro _))
 all_goals(refine congrArg D.bool ?_;simp_all [nlF,fs3])
end Go.Proofs.YtndgolmgaenlfaaGreatDoor
namespace Go.Proofs.YtndgolmgaenlfaaGreatDoor
set_option maxRecDepth 4000
open Go Go.Abs Go.Val Go.RowKit Go.Proofs.Tryz
attribute [local irreducible] go SGo an1 Ev au8 EvO EvS
def cn9(e:Ex)(w:Bool):Int:=
 bif (decide (e.op<1)||decide (e.op>24))||(!ci4 e|| !cj0 e)then 1 else
 bif e.op==1&& !cj2 e.v then 8 else
 bif nlF e then 6 else
 bif e.op==24&&w then 9 else 0
mutual
def co0:Ex→Bool→Int
 |.mk op v nm ds ks,w=>bif cn9 (.mk op v nm ds ks) w !=0 then cn9 (.mk op v nm ds ks) w else co1 ks (w||op==24)
def co1:List Ex→Bool→Int
 |[],_=>0
 |x::r,w=>bif co0 x w !=0 then co0 x w else co1 r w
end
theorem co2{l:List Ex}{i:Nat}{x:Ex}{w:Bool}(h:l[i]? =some x):co1 (l.drop i) w=bif co0 x w !=0 then co0 x w else co1 (l.drop (i+1)) w:=by
 rw[bu9 h,co1]
structure SVs(l:List Ex)(w:Bool) where
 i:Nat
 hi:i≤l.length
 ok:co1 l w=co1 (l.drop i) w
theorem co3{e:Ex}{w:Bool}(h:cn9 e w=0):co0 e w=co1 e.ks (w||e.op==24):=by
 cases e
 rw[co0,h];rfl
theorem co4{e:Ex}{w:Bool}{c:Int}(h:cn9 e w=c)(hc:(c !=0)=true):c=co0 e w:=by
 cases e
 rw[co0,h,hc];rfl
set_option maxHeartbeats 4000000 in
theorem co5(e:Ex):∀w,Ev E 119 [by6 e,.bool w] (.d (.int (co0 e w))):=by
 refine bz5 (P:=fun e=>∀w,Ev E 119 [by6 e,.bool w] (.d (.int (co0 e w)))) (fun op v nm ds ks ih w=>?_) e;refine Ev.fit fun hfit=>?_
 obtain⟨-,-,-,hmax,-⟩:=bz3 (hfit (by6 (.mk op v nm ds ks)) Oc);have hlen:(by4 (.mk op v nm ds ks)).length=ks.length:=bz1 _;have hkg:∀(i:Nat) (x:Ex),ks[i]? =some x→(by4 (.mk op v nm ds ks))[(i:Int).toNat]? =some (by6 x):=fun i x h=>by9 (e:=.mk op v nm ds ks) (by rw[fr2];exact h)
 have hks:Ex.ks (.mk op v nm ds ks)=ks:=rfl;generalize Ex.mk op v nm ds ks=e at*;rw[hks]at hmax;have h1:=ci6 e;have h2:=cj1 e;have h3:=cj3 e.v;have h4:=cn8 e;have hsf:∀c,(bif (decide (e.op<1)||decide (e.op>24))||(!ci4 e|| !cj0 e)then 1 else bif e.op==1&& !cj2 e.v then 8 else bif nlF e then 6 else bif e.op==24&&w then 9 else 0)=c→cn9 e w=c:=fun c h=>h
 have hbad:=fun c (h:cn9 e w=c)=>co4 h
 have hok:=co3 (e:=e) (w:=w);rw[hks]at hok;clear hks;generalize hW:(w||e.op==24)=W at hok
 cases w
 all_goals
  refine ye2 func119 ntmps119 fun _ _ _=>?_
  repeat'(first|refine yz ?_|refine yp b183 h1 ?_|refine yp b184 h2 ?_|refine yp b185 h3 ?_|refine yp b186 h4 ?_|(refine yy ?_ ?_<;>intro _)|(refine qV rfl ?_ ?_<;>intro _))
  any_goals(refine congrArg D.int (hbad _ (hsf _ ?_) rfl);clear ih hkg hfit hsf hbad hok h1 h2 h3 h4;simp_all [fs3];done)
 all_goals
  rw[hok (hsf _ (by clear ih hkg hfit hsf hbad hok h1 h2 h3 h4;simp_all [fs3]))];clear hsf hbad hok h1 h2 h3 h4;refine ac7 (α:=SVs ks W) (fun p=>⟨[(1,.d (.bool _)),(2,.ptr 0 0),(44,.d (.sl (by4 e))),(45,.d (.int (by4 e).length)),(46,.d (.int p.i))],[.var 33 (.w (.d (by6 e)))]⟩) (fun p=>ks.length-p.i) ⟨0,by omega,rfl⟩ (zle 1) ?_;rintro⟨i,hi,ok⟩;dsimp only;rcases fp2 i ks.length with hlt|hge
  ·have hd1:decide ((i:Int)<((by4 e).length:Int))=true:=by rw[hlen];simpa using hlt
   have hx0:=fp1 hlt;generalize ks[i]=x at hx0;have hx:=hkg i x hx0;have hv:=ih x (fp3 hx0) W;rw[←hW]at hv;rw[ok,co2 hx0]
   cases hz:co0 x W !=0 with
   |true=>
    rw[←hW]at hz ⊢
    repeat'(first|refine yz ?_|refine yi (by6 x) hx ?_|refine yp b119 hv ?_|exact zD)
   |false=>
    rw[←hW]at hz
    repeat'(first|refine yz ?_|refine yi (by6 x) hx ?_|refine yp b119 hv ?_)
    refine ac1 ?_;exact⟨⟨i+1,by omega,by rw[ok,co2 hx0,←hW,hz];rfl⟩,by dsimp only;omega,(zle 1)⟩
  ·have hd1:decide ((i:Int)<((by4 e).length:Int))=false:=by rw[hlen];simp;omega
   rw[ok,fp8 hge,co1]
   exact Ok
end Go.Proofs.YtndgolmgaenlfaaGreatDoor
namespace Go.Proofs.YtndgolmgaenlfaaGreatDoor
set_option maxRecDepth 4000
open Go Go.Abs Go.Val Go.RowKit Go.Proofs.Tryz
attribute [local irreducible] go SGo an1 Ev au8 EvO EvS
set_option maxHeartbeats 4000000 in
theorem co6(e:Ex)(w:Bool):Ev E 217 [by6 e,.bool w] (.d (.int (cn9 e w))):=by
 have h1:=ci7 e;have h2:=ci3 e.v;have h3:=bw3 e.v;have h4:=ci9 e.op;have h5:=cn7 e.nm;have h6:=ch8 e.nm;have h7:=ci0 e.nm;have hz:=ci5 e.nm;generalize hc1:((decide (e.op<1)||decide (e.op>24))||(!ci4 e|| !cj0 e))=c1;generalize hc2:(e.op==1&& !cj2 e.v)=c2;generalize hc3:((bif e.op==2||(e.op==3||e.op==4)then !cn4 e.nm else bif e.op==24 then !ch6 e.nm else false))=c3;refine ye2 func217 ntmps217 fun _ _ _=>?_
 repeat'(first|refine bd3 1 (fun b=>⟨[(50,.d (.bool b)),(1,.d (.bool w)),(2,.ptr 0 0)],[.var 33 (.w (.d (by6 e)))]⟩) (c1) ?_ ?_|refine bd3 3 (fun b=>⟨[(83,.d (.bool b)),(1,.d (.bool w)),(2,.ptr 0 0)],[.var 33 (.w (.d (by6 e)))]⟩) (c2) ?_ ?_|refine bd3 5 (fun b=>⟨[(113,.d (.bool b)),(1,.d (.bool w)),(2,.ptr 0 0)],[.var 33 (.w (.d (by6 e)))]⟩) (c3) ?_ ?_|refine yz ?_|refine ac1 ⟨_,?_,(zle 1)⟩|refine yp b277 h1 ?_|refine yp b206 h2 ?_|refine yp b99 h3 ?_|refine yp b278 h4 ?_|refine yp b77 h5 ?_|refine yp b280 h6 ?_|refine yp b279 h7 ?_|(refine yy ?_ ?_<;>intro _)|(refine qV rfl ?_ ?_<;>intro _))
 all_goals clear h1 h2 h3 h4 h5 h6 h7
 any_goals(refine Eq.trans ?_ hc1;clear hc1 hc2 hc3;simp_all [cj0,cj2,nlF,isS,fs3])
 any_goals(refine Eq.trans ?_ hc2;clear hc1 hc2 hc3;simp_all [cj0,cj2,nlF,isS,fs3])
 any_goals(refine Eq.trans ?_ hc3;clear hc1 hc2 hc3;simp_all [cj0,cj2,nlF,isS,fs3])
 any_goals(refine congrArg D.int ?_;unfold cn9;rw[hc1,hc2];clear hc1 hc2;simp_all [nlF,fs3])
 all_goals first
  |(have o1: ¬ e.op<1:=Oa;have o2: ¬ 24<e.op:=Oa;simp_all;done)
  |(rw[fq3];simp_all;done)
  |(split at hc3<;>simp_all;done)
theorem co7(e:Ex):∀w,Ev E 142 [by6 e,.bool w] (.d (.int (co0 e w))):=by
 refine bz5 (P:=fun e=>∀w,Ev E 142 [by6 e,.bool w] (.d (.int (co0 e w)))) (fun op v nm ds ks ih w=>?_) e;refine Ev.fit fun hfit=>?_
 obtain⟨-,-,-,hmax,-⟩:=bz3 (hfit (by6 (.mk op v nm ds ks)) Oc);have hlen:(by4 (.mk op v nm ds ks)).length=ks.length:=bz1 _;have hkg:∀(i:Nat) (x:Ex),ks[i]? =some x→(by4 (.mk op v nm ds ks))[(i:Int).toNat]? =some (by6 x):=fun i x h=>by9 (e:=.mk op v nm ds ks) (by rw[fr2];exact h)
 have hks:Ex.ks (.mk op v nm ds ks)=ks:=rfl;generalize Ex.mk op v nm ds ks=e at*;rw[hks]at hmax;have h1:=co6 e w;have hbad:=co4 (e:=e) (w:=w) rfl;have hok:=co3 (e:=e) (w:=w);rw[hks]at hok;clear hks;generalize hW:(w||e.op==24)=W at hok
 cases hsf:cn9 e w !=0 with
 |true=>
  rw[←hbad hsf];refine ye2 func142 ntmps142 fun _ _ _=>?_
  repeat'(first|refine yz ?_|refine yp b217 h1 ?_|exact zD)
 |false=>
  rw[hok (by simpa using hsf)]
  cases w
  all_goals
   refine ye2 func142 ntmps142 fun _ _ _=>?_
   repeat'(first|refine yz ?_|refine yp b217 h1 ?_)
   refine ac7 (α:=SVs ks W) (fun p=>⟨[(1,.d (.bool _)),(2,.ptr 0 0),(6,.d (.int p.i))],[.var 33 (.w (.d (by6 e)))]⟩) (fun p=>ks.length-p.i) ⟨0,by omega,rfl⟩ (zle 1) ?_;rintro⟨i,hi,ok⟩;dsimp only;rcases fp2 i ks.length with hlt|hge
   ·have hd1:decide ((i:Int)<((by4 e).length:Int))=true:=by rw[hlen];simpa using hlt
    have hx0:=fp1 hlt;generalize ks[i]=x at hx0;have hx:=hkg i x hx0;have hv:=ih x (fp3 hx0) W;rw[←hW]at hv;rw[ok,co2 hx0]
    cases hz:co0 x W !=0 with
    |true=>
     rw[←hW]at hz ⊢
     repeat'(first|refine yz ?_|refine yi (by6 x) hx ?_|refine yp b142 hv ?_|exact zD)
    |false=>
     rw[←hW]at hz
     repeat'(first|refine yz ?_|refine yi (by6 x) hx ?_|refine yp b142 hv ?_)
     refine ac1 ?_;exact⟨⟨i+1,by omega,by rw[ok,co2 hx0,←hW,hz];rfl⟩,by dsimp only;omega,(zle 1)⟩
   ·have hd1:decide ((i:Int)<((by4 e).length:Int))=false:=by rw[hlen];simp;omega
    rw[ok,fp8 hge,co1]
    exact Ok
def co8(e:Ex):Int:=bif decide (dp e>24)then 5 else bif decide (nd e>300)then 4 else co0 e false
theorem co9(e:Ex)(h1:dp e≤1000000)(h2:nd e≤1000000):Ev E 61 [by6 e] (.d (.int (co8 e))):=by
 have a1:=ck3 e h1;have a2:=cj7 e h2;have a3:=co5 e false;unfold co8
 cases g1:decide (dp e>24)with
 |true=>
  have b1:decide ((dp e:Int)>24)=true:=by simp at g1 ⊢;omega
  refine ye1 func61 ntmps61 fun _ _ _=>?_
  repeat'(first|refine yz ?_|refine yp b117 a1 ?_|exact zD)
 |false=>
  have b1:decide ((dp e:Int)>24)=false:=by simp at g1 ⊢;omega
  cases g2:decide (nd e>300)with
  |true=>
   have b2:decide ((nd e:Int)>300)=true:=by simp at g2 ⊢;omega
   refine ye1 func61 ntmps61 fun _ _ _=>?_
   repeat'(first|refine yz ?_|refine yp b117 a1 ?_|refine yp b118 a2 ?_|exact zD)
  |false=>
   have b2:decide ((nd e:Int)>300)=false:=by simp at g2 ⊢;omega
   refine ye1 func61 ntmps61 fun _ _ _=>?_
   repeat'(first|refine yz ?_|refine yp b117 a1 ?_|refine yp b118 a2 ?_|refine yp b119 a3 ?_|exact zD)
theorem cp0(e:Ex)(h1:dp e≤1000000)(h2:nd e≤1000000):Ev E 76 [by6 e] (.d (.int (co8 e))):=by
 have a1:=ck2 e h1;have a2:=cj8 e h2;have a3:=co7 e false;unfold co8
 cases g1:decide (dp e>24)with
 |true=>
  have b1:decide ((dp e:Int)>24)=true:=by simp at g1 ⊢;omega
  refine ye1 func76 ntmps76 fun _ _ _=>?_
  repeat'(first|refine yz ?_|refine yp bq0 a1 ?_|exact zD)
 |false=>
  have b1:decide ((dp e:Int)>24)=false:=by simp at g1 ⊢;omega
  cases g2:decide (nd e>300)with
  |true=>
   have b2:decide ((nd e:Int)>300)=true:=by simp at g2 ⊢;omega
   refine ye1 func76 ntmps76 fun _ _ _=>?_
   repeat'(first|refine yz ?_|refine yp bq0 a1 ?_|refine yp b21 a2 ?_|exact zD)
  |false=>
   have b2:decide ((nd e:Int)>300)=false:=by simp at g2 ⊢;omega
   refine ye1 func76 ntmps76 fun _ _ _=>?_
   repeat'(first|refine yz ?_|refine yp bq0 a1 ?_|refine yp b21 a2 ?_|refine yp b142 a3 ?_|exact zD)
end Go.Proofs.YtndgolmgaenlfaaGreatDoor
namespace Go.Proofs.YtndgolmgaenlfaaGreatDoor
set_option maxRecDepth 4000
open Go Go.Abs Go.Val Go.RowKit Go.Proofs.Tryz
structure PP where
 key:ByteArray
 e:Ex
structure NP where
 vr:ByteArray
 lb:List ByteArray
 ps:List PP
structure EP where
 vr:ByteArray
 ty:List ByteArray
 dir:Int
 mode:Int
 mn:Int
 mx:Int
 ps:List PP
structure PA where
 vr:ByteArray
 ns:List NP
 es:List EP
structure IT where
 e:Ex
 asn:ByteArray
structure SK where
 e:Ex
 dc:Bool
structure SIt where
 vr:ByteArray
 key:ByteArray
 lb:ByteArray
 off:Bool
 e:Ex
structure CL where
 k:Int
 opt:Bool
 ds:Bool
 ps:List PA
 wh:List Ex
 e:Ex
 nm:ByteArray
 it:List IT
 od:List SK
 sk:Int
 lm:Int
 st:List SIt
 ns:List ByteArray
def cp1(p:PP):D:=.agg [.str p.key,.int p.e.op,.int p.e.v.k,.int p.e.v.n,.int p.e.v.d,.str p.e.v.s,.sl (kids p.e.v),.str p.e.nm,.bool p.e.ds,.sl (by4 p.e)]
def cp2(n:NP):D:=.agg [.str n.vr,.sl (n.lb.map .str),.sl (n.ps.map cp1)]
def cp3(e:EP):D:=.agg [.str e.vr,.sl (e.ty.map .str),.int e.dir,.int e.mode,.int e.mn,.int e.mx,.sl (e.ps.map cp1)]
def cp4(p:PA):D:=.agg [.str p.vr,.sl (p.ns.map cp2),.sl (p.es.map cp3)]
def cp5(x:IT):D:=.agg [.int x.e.op,.int x.e.v.k,.int x.e.v.n,.int x.e.v.d,.str x.e.v.s,.sl (kids x.e.v),.str x.e.nm,.bool x.e.ds,.sl (by4 x.e),.str x.asn]
def cp6(x:SK):D:=.agg [.int x.e.op,.int x.e.v.k,.int x.e.v.n,.int x.e.v.d,.str x.e.v.s,.sl (kids x.e.v),.str x.e.nm,.bool x.e.ds,.sl (by4 x.e),.bool x.dc]
def cp7(x:SIt):D:=.agg [.str x.vr,.str x.key,.str x.lb,.bool x.off,.int x.e.op,.int x.e.v.k,.int x.e.v.n,.int x.e.v.d,.str x.e.v.s,.sl (kids x.e.v),.str x.e.nm,.bool x.e.ds,.sl (by4 x.e)]
def cp8(c:CL):D:=.agg [.int c.k,.bool c.opt,.bool c.ds,.sl (c.ps.map cp4),.sl (by5 c.wh),.int c.e.op,.int c.e.v.k,.int c.e.v.n,.int c.e.v.d,.str c.e.v.s,.sl (kids c.e.v),.str c.e.nm,.bool c.e.ds,.sl (by4 c.e),
 .str c.nm,.sl (c.it.map cp5),.sl (c.od.map cp6),.int c.sk,.int c.lm,.sl (c.st.map cp7),.sl (c.ns.map .str)]
def s0B(s:ByteArray):Bool:=isS s ⟨#[]⟩
mutual
def cp9:Ex→Bool
 |.mk op _ _ _ ks=>op==24||hagL ks
def hagL:List Ex→Bool
 |[]=>false
 |x::r=>cp9 x||hagL r
end
def cq0(l:List PP):List ByteArray:=l.map fun p=>p.key
def cq1:List ByteArray→Bool
 |a::b::r=>Op.bytesLess a.toList b.toList&&cq1 (b::r)
 |_=>true
def cq2(e:EP):Int:=bif e.mode==0 then 1 else min (max e.mx 0) 13
def cq3(l:List EP):Int:=l.foldl (fun n e=>n+cq2 e) 0
def cq4(p:PA):Bool:=(p.ns.length==0||decide (p.es.length>6))||decide (cq3 p.es>12)
def cq5(e:EP):Bool:=
 bif (decide (e.dir<1)||decide (e.dir>3))||(decide (e.mode<0)||decide (e.mode>5))then false else
 bif e.mode==0 then e.mn==0&&e.mx==0 else decide (e.mn≥0) &&(decide (e.mn≤e.mx) &&(decide (e.mx≥1) &&(decide (e.mx≤6) &&e.ps.length==0)))
def cq6(e:EP):Bool:=e.mode==0&&(e.ty.length==1&&e.dir !=3)
structure PT where
 nm:ByteArray
 ns:List ByteArray
 ps:List PP
def cq7(x:PT):D:=.agg [.str x.nm,.sl (x.ns.map .str),.sl (x.ps.map cp1)]
def ptN(n:NP):PT:=⟨n.vr,n.lb,n.ps⟩
def ptE(e:EP):PT:=⟨e.vr,e.ty,e.ps⟩
def cq8:List NP→List EP→List PT
 |[],_=>[]
 |n::r,[]=>ptN n::cq8 r []
 |n::r,e::q=>ptN n::ptE e::cq8 r q
def cq9(s:ByteArray):Bool:=s0B s||cn4 s
def cr0(x:PT):Bool:= !(cq9 x.nm)||(!(x.ns.all cn4)|| !((cq0 x.ps).all cn4))
def cr1(x:PT):Bool:= !(cq1 x.ns)|| !(cq1 (cq0 x.ps))
def cr2:List Ex→Int
 |[]=>0
 |e::r=>bif co8 e !=0 then co8 e else cr2 r
def cr3(l:List PT):List Ex:=l.flatMap fun x=>x.ps.map fun p=>p.e
def cr4(p:PA)(create:Bool):Int:=
 bif cq4 p then 4 else
 bif p.ns.length !=p.es.length+1||p.es.any fun e=> !cq5 e then 1 else
 bif !(cq9 p.vr)||(cq8 p.ns p.es).any cr0 then 6 else
 bif (cq8 p.ns p.es).any cr1 then 26 else
 bif cr2 (cr3 (cq8 p.ns p.es)) !=0 then cr2 (cr3 (cq8 p.ns p.es))else
 bif (cr3 (cq8 p.ns p.es)).any cp9 then 9 else
 bif create&&p.es.any fun e=> !cq6 e then 1 else 0
def cr5(e:Ex):Bool:=e.op==0&&(ci1 e.v&&(s0B e.nm&&(!e.ds&&e.ks.length==0)))
def cr6(n:Int):Bool:=n==0||n== -1
def cr7(c:CL):Bool:=
 let w:=c.k==3||c.k==4
 bif c.opt&& !(c.k==1||c.k==8)||c.ds&& !w then true else
 bif decide (c.ps.length>0) && !(c.k==1||(c.k==5||c.k==6))||decide (c.wh.length>0) && !(c.k==1||c.k==3)then true else
 bif !(c.k==2) &&(!(cr5 c.e)|| !(s0B c.nm))|| !w&&(decide (c.it.length>0)||decide (c.od.length>0))then true else
 bif !w&&(!(cr6 c.sk)|| !(cr6 c.lm))||(decide (c.sk< -1)||(decide (c.sk>1000000000000000)||(decide (c.lm< -1)||decide (c.lm>1000000000000000))))then true else
 decide (c.st.length>0) && !(c.k==7)||decide (c.ns.length>0) && !(c.k==8)
def inN(n lo hi:Nat):Bool:=decide (lo≤n) &&decide (n≤hi)
def cr8(c:CL):Bool:=
 bif c.k==1||c.k==5 then !(inN c.ps.length 1 6)||decide (c.wh.length>1)else
 bif c.k==6 then c.ps.length !=1 else
 bif c.k==3||c.k==4 then !(inN c.it.length 1 16)||(decide (c.od.length>16)||decide (c.wh.length>1))else
 bif c.k==7 then !(inN c.st.length 1 16)else
 bif c.k==8 then !(inN c.ns.length 1 16)else false
def cr9(x:SIt):Int:=
 bif !(s0B x.lb) &&(!(s0B x.key)|| !(cr5 x.e))||s0B x.lb&&x.off then 1 else
 bif !(cn4 x.vr)||(!(s0B x.lb) && !(cn4 x.lb)||s0B x.lb&& !(cn4 x.key))then 6 else
 bif s0B x.lb then co8 x.e else 0
def cs0:List Int→Int
 |[]=>0
 |x::r=>bif x !=0 then x else cs0 r
def cs1(s:ByteArray):Int:=bif cn4 s then 0 else 6
def cs2(c:CL):Int:=
 bif (decide (c.k<1)||decide (c.k>8))||cr7 c then 1 else
 bif cr8 c then 4 else
 cs0 (c.ps.map (fun p=>cr4 p (c.k==5))++c.wh.map co8++(bif c.k==2 then [co8 c.e,cs1 c.nm]else [])++c.it.flatMap (fun x=>[co8 x.e,cs1 x.asn])++c.od.map (fun x=>co8 x.e)++c.st.map cr9++c.ns.map cs1)
end Go.Proofs.YtndgolmgaenlfaaGreatDoor
