/- A word between blanks in a text of words between blanks: it is one of them; The functions' numbers of operands and the aggregates' names, by both text. Conditions: each part's own, as it says. -/
import Derived.Test.YtndgolmgaenlfaaGreatDoorGC
import Derived.Test.YtndgolmgaenlfaaGreatDoorMA
import Derived.Lib.IndexMore
import Derived.Test.YtndgolmgaenlfaaGreatDoorGB
set_option linter.unusedVariables false
set_option linter.unusedSimpArgs false
namespace Go.Proofs.YtndgolmgaenlfaaGreatDoor
set_option maxRecDepth 4000
open Go Go.Abs Go.Val Go.Proofs.Tryz
def cm8:List (List UInt8)→List UInt8
 |[]=>[32]
 |w::r=>32::(w++cm8 r)
theorem cm9:∀r,∃t,cm8 r=32::t
 |[]=>⟨[],rfl⟩
 |w::r=>⟨w++cm8 r,rfl⟩
theorem cn0(b:UInt8)(l sub:List UInt8):Lib.contains (b::l) sub=(sub.isPrefixOf (b::l)||Lib.contains l sub):=by
 unfold Lib.contains;have hg:=Lib.index_ge l sub;rw[show Lib.index (b::l) sub=if sub.isPrefixOf (b::l)then 0 else if Lib.index l sub== -1 then-1 else Lib.index l sub+1 from rfl]
 cases hp:sub.isPrefixOf (b::l)with
 |true=>simp
 |false=>
  simp only[Bool.false_eq_true,if_false,gd0]
  by_cases h:Lib.index l sub= -1
  ·simp[h]
  ·have hb:(Lib.index l sub== -1)=false:=by rw[beq_eq_false_iff_ne];exact h
   rw[hb];simp only[Bool.false_eq_true,if_false,decide_eq_decide];omega
theorem cn1(p:List UInt8):∀(w l:List UInt8),(32:UInt8) ∉ w→Lib.contains (w++l) (32::p)=Lib.contains l (32::p)
 |[],l,_=>rfl
 |b::w,l,h=>by
  simp only[fz0,not_or]at h;have hb:((32:UInt8)==b)=false:=by rw[beq_eq_false_iff_ne];exact h.1
  rw[gb4,cn0,cn1 p w l h.2];have:(32::p).isPrefixOf (b::(w++l))=false:=by simp only[List.isPrefixOf,hb,ge9]
  rw[this,gd0]
theorem cn2:∀(U w t:List UInt8),(32:UInt8) ∉ U→(32:UInt8) ∉ w→(U++ [32]).isPrefixOf (w++32::t)=(U==w)
 |[],[],t,_,_=>by simp[List.isPrefixOf]
 |[],b::w,t,_,h=>by
  simp only[fz0,not_or]at h;have hb:((32:UInt8)==b)=false:=by rw[beq_eq_false_iff_ne];exact h.1
  simp only[gb7,gb4,List.isPrefixOf,hb,ge9];rfl
 |a::U,[],t,h,_=>by
  simp only[fz0,not_or]at h;have ha:(a==(32:UInt8))=false:=by rw[beq_eq_false_iff_ne];exact fun e=>h.1 e.symm
  simp only[gb7,gb4,List.isPrefixOf,ha,ge9];rfl
 |a::U,b::w,t,h,h'=>by
  simp only[fz0,not_or]at h h';simp only[gb4,List.isPrefixOf];rw[cn2 U w t h.2 h'.2];rfl
theorem cn3(U:List UInt8)(hU:(32:UInt8) ∉ U):∀ws:List (List UInt8),(∀w∈ws,(32:UInt8) ∉ w)→Lib.contains (cm8 ws) (32::(U++ [32]))=ws.any fun w=>U==w
 |[],_=>by
  have:(32::(U++ [32])).isPrefixOf [(32:UInt8)]=false:=by cases U<;>simp[List.isPrefixOf]
  rw[cm8,cn0,this];simp[Lib.contains,Lib.index]
 |w::r,h=>by
  obtain⟨t,ht⟩:=cm9 r;have ih:=cn3 U hU r fun x hx=>h x (by simp[hx])
  rw[cm8,cn0,cn1 _ w _ (h w Oc),ih,ge0];congr 1;rw[ht];show((32:UInt8)==32&&(U++ [32]).isPrefixOf (w++32::t))=_;rw[cn2 U w t hU (h w Oc)];rfl
attribute [local irreducible] Ev EvO EvS aw1 an9 SGo go
def isS(s:ByteArray)(t:ByteArray):Bool:=s.toList==t.toList
def cn4(s:ByteArray):Bool:=isS s ⟨#[105,100]⟩||(isS s ⟨#[116,121,112,101]⟩||(isS s ⟨#[108,97,98,101,108,115]⟩||(isS s ⟨#[115,105,122,101]⟩||(isS s ⟨#[108,101,110,103,116,104]⟩||(isS s ⟨#[110,111,100,101,115]⟩||
 (isS s ⟨#[101,100,103,101,115]⟩||(isS s ⟨#[102,105,114,115,116]⟩||(isS s ⟨#[108,97,115,116]⟩||(isS s ⟨#[115,116,97,114,116]⟩||(isS s ⟨#[101,110,100]⟩||(isS s ⟨#[97,98,115]⟩||isS s ⟨#[116,101,120,116]⟩)))))))))))
def cn5(s:ByteArray):Bool:=isS s ⟨#[99,111,97,108,101,115,99,101]⟩
def cn6(s:ByteArray):Int:=bif cn4 s then 1 else bif cn5 s then 2 else 0
def cn7(s:ByteArray):Int:=bif cn4 s then 1 else bif cn5 s then 4 else 0
def cn8(s:ByteArray):Bool:=isS s ⟨#[99,111,117,110,116]⟩||(isS s ⟨#[115,117,109]⟩||(isS s ⟨#[109,105,110]⟩||(isS s ⟨#[109,97,120]⟩||(isS s ⟨#[97,118,103]⟩||isS s ⟨#[99,111,108,108,101,99,116]⟩))))
theorem cn9(s:ByteArray):Ev E 261 [.str s] (.tup [.int (cn6 s),.int (cn7 s)]):=by
 refine ye1 func261 ntmps261 fun _ _ _=>?_
 repeat'(first|refine yz ?_|(refine qV rfl ?_ ?_<;>intro _))
 all_goals simp_all [cn6,cn7,cn4,cn5,isS,gd9]
theorem co0(s:ByteArray):Ev E 263 [.str s] (.d (.bool (cn8 s))):=by
 refine ye1 func263 ntmps263 fun _ _ _=>?_
 repeat'(first|refine yz ?_|(refine qV rfl ?_ ?_<;>intro _))
 all_goals(refine congrArg D.bool ?_;simp_all [cn8,isS])
def co1(v:V):Bool:=v.k==0&&(v.n==0&&(v.d==0&&(s0 v.s&&l0 v)))
theorem co2(v:V):Ev E 262 [enc v] (.d (.bool (co1 v))):=by
 refine ye1 func262 ntmps262 fun _ _ _=>?_
 repeat'(first|refine yz ?_|(refine yy ?_ ?_<;>intro _))
 all_goals(refine congrArg D.bool ?_;simp_all [co1,s0,l0])
def kn0(e:Ex):Int:=((by9 e).length:Int)
def co3(e:Ex):Bool:=
 bif e.op==1||e.op==2 then kn0 e==0 else
 bif e.op==3||(e.op==4||(e.op==5||(e.op==6||e.op==21)))then kn0 e==1 else
 bif e.op==22 then decide (kn0 e≤16)else
 bif e.op==23 then cn6 e.nm==0||(decide (kn0 e≥cn6 e.nm) &&decide (kn0 e≤cn7 e.nm))else
 bif e.op==24 then kn0 e==1||(kn0 e==0&&(isS e.nm ⟨#[99,111,117,110,116]⟩ && !e.ds))else kn0 e==2
theorem co4(e:Ex):Ev E 183 [bz1 e] (.d (.bool (co3 e))):=by
 have ha:=cn9 e.nm;refine ye1 func183 ntmps183 fun _ _ _=>?_
 repeat'(first|refine yz ?_|refine yp b261 ha ?_|(refine yy ?_ ?_<;>intro _)|(refine qV rfl ?_ ?_<;>intro _))
 all_goals(refine congrArg D.bool ?_;simp_all [co3,kn0,isS,gd9]<;>first|rfl|(intro h;exfalso;omega)|(rw[show(cn6 e.nm==0)=false by rw[beq_eq_false_iff_ne];assumption];rfl))
def co5(op:Int):Bool:=op==2||(op==3||(op==4||(op==23||op==24)))
def co6(e:Ex):Bool:=(e.op==1||co1 e.v) &&((co5 e.op||isS e.nm ⟨#[]⟩) &&(e.op==24|| !e.ds))
theorem co7(e:Ex):Ev E 184 [bz1 e] (.d (.bool (co6 e))):=by
 have hb:=co2 e.v;refine ye1 func184 ntmps184 fun _ _ _=>?_
 repeat'(first|refine yz ?_|refine yp b262 hb ?_|refine yx ?_|(refine yy ?_ ?_<;>intro _))
 all_goals(refine congrArg D.bool ?_;simp_all [co6,co5,isS])
def co8(v:V):Bool:=co1 v||((v.k==1||(v.k==2||v.k==4)) &&Val.okV v)
theorem co9(v:V):Ev E 185 [enc v] (.d (.bool (co8 v))):=by
 have hb:=co2 v;have hv:=bx0 by5 v;refine ye1 func185 ntmps185 fun _ _ _=>?_
 repeat'(first|refine yz ?_|refine yp b262 hb ?_|refine yp bs7 hv ?_|(refine yy ?_ ?_<;>intro _))
 all_goals(refine congrArg D.bool ?_;simp_all [co8])
mutual
def nd:Ex→Nat
 |.mk _ _ _ _ l=>ndL l+1
def ndL:List Ex→Nat
 |[]=>0
 |x::r=>nd x+ndL r
end
theorem cp0(e:Ex):nd e=ndL e.ks+1:=by cases e;simp[nd,Ex.ks]
theorem cp1:∀{l:List Ex} {x:Ex},x∈l→nd x≤ndL l
 |[],x,h=>by simp at h
 |y::r,x,h=>by
  simp only[ndL];rcases fz0.1 h with e|e
  ·rw[e];omega
  ·have:=cp1 e;omega
theorem cp2{l:List Ex}{i:Nat}{x:Ex}(h:l[i]? =some x):ndL (l.drop i)=nd x+ndL (l.drop (i+1)):=by
 rw[bv7 h];rfl
structure SNd(l:List Ex) where
 i:Nat
 n:Nat
 hi:i≤l.length
 ok:ndL l+1=n+ndL (l.drop i)
theorem cp3(e:Ex):nd e≤1000000→Ev E 118 [bz1 e] (.d (.int (nd e))):=by
 refine ca0 (P:=fun e=>nd e≤1000000→Ev E 118 [bz1 e] (.d (.int (nd e)))) (fun op v nm ds ks ih hb=>?_) e;refine Ev.fit fun hfit=>?_
 obtain⟨-,-,-,hmax,-⟩:=bz8 (hfit (bz1 (.mk op v nm ds ks)) Oc);simp only[Ex.ks]at hmax;have hlen:(by9 (.mk op v nm ds ks)).length=ks.length:=bz6 _;have hnd:nd (.mk op v nm ds ks)=ndL ks+1:=cp0 _;rw[hnd]at hb ⊢;refine ye1 func118 ntmps118 fun _ _ _=>?_
 repeat'(refine yz ?_)
 refine ac8 (α:=SNd ks) (fun p=>⟨[(3,.d (.int p.n)),(7,.d (.sl (by9 (.mk op v nm ds ks)))),(8,.d (.int (by9 (.mk op v nm ds ks)).length)),(9,.d (.int p.i))],[]⟩) (fun p=>ks.length-p.i) ⟨0,1,by omega,by rw[gh6];omega⟩ (zle 0) ?_;rintro⟨i,n,hi,ok⟩;dsimp only;rcases fy5 i ks.length with hlt|hge
 ·have hd1:decide ((i:Int)<((by9 (.mk op v nm ds ks)).length:Int))=true:=by rw[hlen];simpa using hlt
  have hx0:=fy4 hlt;generalize ks[i]=x at hx0;have hx:(by9 (.mk op v nm ds ks))[(i:Int).toNat]? =some (bz1 x):=bz4 (e:=.mk op v nm ds ks) (by rw[gb1];exact hx0);have hdr:=cp2 hx0;have hm:=cp1 (fy6 hx0);have hs:=ih x (fy6 hx0) Oa
  repeat'(first|refine yz ?_|refine yi (bz1 x) hx ?_|refine yp b118 hs ?_)
  refine ac2 ?_;refine⟨⟨i+1,n+nd x,by omega,by omega⟩,by dsimp only;omega,?_⟩;dsimp only;rw[Int.natCast_add];exact(zle 0)
 ·have hd1:decide ((i:Int)<((by9 (.mk op v nm ds ks)).length:Int))=false:=by rw[hlen];simp;omega
  have:ks.drop i=[]:=ga2 hge;rw[ok,this]
  exact Om
theorem cp4(e:Ex):nd e≤1000000→Ev E 21 [bz1 e] (.d (.int (nd e))):=by
 refine ca0 (P:=fun e=>nd e≤1000000→Ev E 21 [bz1 e] (.d (.int (nd e)))) (fun op v nm ds ks ih hb=>?_) e;refine Ev.fit fun hfit=>?_
 obtain⟨-,-,-,hmax,-⟩:=bz8 (hfit (bz1 (.mk op v nm ds ks)) Oc);simp only[Ex.ks]at hmax;have hlen:(by9 (.mk op v nm ds ks)).length=ks.length:=bz6 _;have hnd:nd (.mk op v nm ds ks)=ndL ks+1:=cp0 _;rw[hnd]at hb ⊢;refine ye1 func21 ntmps21 fun _ _ _=>?_
 repeat'(refine yz ?_)
 refine ac8 (α:=SNd ks) (fun p=>⟨[(1,.ptr 0 0),(3,.d (.int p.n)),(4,.d (.int p.i))],[.var 33 (.w (.d (bz1 (.mk op v nm ds ks))))]⟩) (fun p=>ks.length-p.i) ⟨0,1,by omega,by rw[gh6];omega⟩ (zle 1) ?_;rintro⟨i,n,hi,ok⟩;dsimp only;rcases fy5 i ks.length with hlt|hge
 ·have hd1:decide ((i:Int)<((by9 (.mk op v nm ds ks)).length:Int))=true:=by rw[hlen];simpa using hlt
  have hx0:=fy4 hlt;generalize ks[i]=x at hx0;have hx:(by9 (.mk op v nm ds ks))[(i:Int).toNat]? =some (bz1 x):=bz4 (e:=.mk op v nm ds ks) (by rw[gb1];exact hx0);have hdr:=cp2 hx0;have hm:=cp1 (fy6 hx0);have hs:=ih x (fy6 hx0) Oa
  repeat'(first|refine yz ?_|refine yi (bz1 x) hx ?_|refine yp b21 hs ?_)
  refine ac2 ?_;refine⟨⟨i+1,n+nd x,by omega,by omega⟩,by dsimp only;omega,?_⟩;dsimp only;rw[Int.natCast_add];exact(zle 1)
 ·have hd1:decide ((i:Int)<((by9 (.mk op v nm ds ks)).length:Int))=false:=by rw[hlen];simp;omega
  have:ks.drop i=[]:=ga2 hge;rw[ok,this]
  exact Om
end Go.Proofs.YtndgolmgaenlfaaGreatDoor
namespace Go.Proofs.YtndgolmgaenlfaaGreatDoor
set_option maxRecDepth 4000
open Go Go.Abs Go.Val Go.Proofs.Tryz
attribute [local irreducible] go SGo an9 Ev aw1 EvO EvS
mutual
def dp:Ex→Nat
 |.mk _ _ _ _ l=>dpL l+1
def dpL:List Ex→Nat
 |[]=>0
 |x::r=>max (dp x) (dpL r)
end
theorem cp5(e:Ex):dp e=dpL e.ks+1:=by cases e;simp[dp,Ex.ks]
theorem cp6:∀{l:List Ex} {x:Ex},x∈l→dp x≤dpL l
 |[],x,h=>by simp at h
 |y::r,x,h=>by
  simp only[dpL];rcases fz0.1 h with e|e
  ·rw[e];omega
  ·have:=cp6 e;omega
theorem cp7{l:List Ex}{i:Nat}{x:Ex}(h:l[i]? =some x):dpL (l.drop i)=max (dp x) (dpL (l.drop (i+1))):=by
 rw[bv7 h];rfl
structure SDp(l:List Ex) where
 i:Nat
 n:Nat
 hi:i≤l.length
 ok:dpL l=max n (dpL (l.drop i))
theorem cp8(e:Ex):dp e≤1000000→Ev E 117 [bz1 e] (.d (.int (dp e))):=by
 refine ca0 (P:=fun e=>dp e≤1000000→Ev E 117 [bz1 e] (.d (.int (dp e)))) (fun op v nm ds ks ih hb=>?_) e;refine Ev.fit fun hfit=>?_
 obtain⟨-,-,-,hmax,-⟩:=bz8 (hfit (bz1 (.mk op v nm ds ks)) Oc);simp only[Ex.ks]at hmax;have hlen:(by9 (.mk op v nm ds ks)).length=ks.length:=bz6 _;have hnd:dp (.mk op v nm ds ks)=dpL ks+1:=cp5 _;rw[hnd]at hb ⊢;refine ye1 func117 ntmps117 fun _ _ _=>?_
 repeat'(refine yz ?_)
 refine ac8 (α:=SDp ks) (fun p=>⟨[(3,.d (.int p.n)),(7,.d (.sl (by9 (.mk op v nm ds ks)))),(8,.d (.int (by9 (.mk op v nm ds ks)).length)),(9,.d (.int p.i))],[]⟩) (fun p=>ks.length-p.i) ⟨0,0,by omega,by rw[gh6];omega⟩ (zle 0) ?_;rintro⟨i,n,hi,ok⟩;dsimp only;rcases fy5 i ks.length with hlt|hge
 ·have hd1:decide ((i:Int)<((by9 (.mk op v nm ds ks)).length:Int))=true:=by rw[hlen];simpa using hlt
  have hx0:=fy4 hlt;generalize ks[i]=x at hx0;have hx:(by9 (.mk op v nm ds ks))[(i:Int).toNat]? =some (bz1 x):=bz4 (e:=.mk op v nm ds ks) (by rw[gb1];exact hx0);have hdr:=cp7 hx0;have hm:=cp6 (fy6 hx0);have hs:=ih x (fy6 hx0) Oa
  repeat'(first|refine yz ?_|refine yi (bz1 x) hx ?_|refine yp b117 hs ?_)
  refine ac2 ?_;refine⟨⟨i+1,max n (dp x),by omega,by omega⟩,by dsimp only;omega,?_⟩;dsimp only;rw[show((max n (dp x):Nat):Int)=max (n:Int) (dp x:Int) by omega];exact(zle 0)
 ·have hd1:decide ((i:Int)<((by9 (.mk op v nm ds ks)).length:Int))=false:=by rw[hlen];simp;omega
  have:ks.drop i=[]:=ga2 hge;have hn:n=dpL ks:=by rw[ok,this];simp[dpL]
  subst hn
  exact Om
end Go.Proofs.YtndgolmgaenlfaaGreatDoor
namespace Go.Proofs.YtndgolmgaenlfaaGreatDoor
set_option maxRecDepth 4000
open Go Go.Abs Go.Val Go.RowKit Go.Proofs.Tryz
attribute [local irreducible] go SGo an9 Ev aw1 EvO EvS
theorem cp9(i:Nat):Nat.blt i i=false:=by
 cases h:Nat.blt i i with
 |false=>rfl
 |true=>simp at h
def upN(n:Int):Int:=bif decide (n≥97) &&decide (n≤122)then n-32 else n
def cq0(s:ByteArray)(i:Nat):List D:=(List.range s.size).map fun j=>D.imm (.int .u8 (bif Nat.blt j i then upN (ag5 s j)else ag5 s j))
def upL(s:ByteArray)(i:Nat):List Int:=(List.range i).map fun j=>upN (ag5 s j)
def upF(s:ByteArray):ByteArray:=Go.Abs.strOf (upL s s.size)
theorem cq1(s:ByteArray)(i:Nat):(upL s i).length=i:=by simp[upL]
theorem cq2(s:ByteArray)(i:Nat):(cq0 s i).length=s.size:=by simp[cq0]
theorem cq3{s:ByteArray}{i j:Nat}(h:j<s.size):(cq0 s i)[j]? =some (D.imm (.int .u8 (bif Nat.blt j i then upN (ag5 s j)else ag5 s j))):=by
 rw[cq0,fz1,gf6 h];rfl
theorem cq4(s:ByteArray):cq0 s 0=bd2 s:=by
 refine gg8 fun j=>?_
 rcases fy5 j s.size with h|h
 ·rw[cq3 h,bd5 h];rfl
 ·rw[gc5 (by rw[cq2];exact h),gc5 (by rw[bd3];exact h)]
theorem cq5{s:ByteArray}{i:Nat}(h:i<s.size):(cq0 s i).set i (.imm (.int .u8 (upN (ag5 s i))))=cq0 s (i+1):=by
 refine gg8 fun j=>?_
 rcases fy5 j s.size with hj|hj
 ·rw[ge2,cq3 hj,cq3 hj]
  by_cases e:i=j
  ·subst e;rw[if_pos rfl,if_pos (by rw[cq2];exact h),show Nat.blt i (i+1)=true by simp];rfl
  ·rw[if_neg e];have:Nat.blt j (i+1)=Nat.blt j i:=by rw[gb5];simp;omega
   rw[this]
 ·rw[gc5 (by rw[List.length_set,cq2];exact hj),gc5 (by rw[cq2];exact hj)]
theorem cq6{s:ByteArray}{i:Nat}(h:i<s.size)(hn:upN (ag5 s i)=ag5 s i):cq0 s i=cq0 s (i+1):=by
 rw[←cq5 h,hn];refine gg8 fun j=>?_
 rw[ge2]
 by_cases e:i=j
 ·subst e;rw[if_pos rfl,if_pos (by rw[cq2];exact h),cq3 h,cp9];rfl
 ·rw[if_neg e]
theorem cq7(s:ByteArray):cq0 s s.size=(upL s s.size).map fun n=>.imm (.int .u8 n):=by
 refine gg8 fun j=>?_
 rcases fy5 j s.size with hj|hj
 ·rw[cq3 hj,upL,List.map_map,fz1,gf6 hj,show Nat.blt j s.size=true by simpa using hj];rfl
 ·rw[gc5 (by rw[cq2];exact hj),gc5 (by rw[fz3,cq1];exact hj)]
structure SUp(s:ByteArray) where
 i:Nat
 hi:i≤s.size
set_option maxHeartbeats 1000000 in
theorem cq8(s:ByteArray):Ev E 318 [.str s] (.d (.str (upF s))):=Ev.fit fun hfit=>by
 have hs:=(hfit (.str s) Oc).str;have hlen:(bd2 s).length=s.size:=bd3 s;refine ye1 func318 ntmps318 fun _ _ _=>?_
 repeat'(first|refine yz ?_|refine be2 rfl rfl rfl rfl rfl rfl rfl rfl ?_)
 rw[hlen,←cq4];refine ac8 (α:=SUp s) (fun p=>⟨[(3,.own 0),(8,.own 0),(9,.d (.int s.size)),(10,.d (.int p.i))],[.mrow 5 1 (cq0 s p.i)]⟩) (fun p=>s.size-p.i) ⟨0,by omega⟩ (zle 1) ?_;rintro⟨i,hi⟩;dsimp only;have hrl:=cq2 s i;rcases fy5 i s.size with hlt|hge
 ·have hd1:decide ((i:Int)<(s.size:Int))=true:=by simpa using hlt
  have hti:(i:Int).toNat=i:=gb1 i;have hx:(cq0 s i)[(i:Int).toNat]? =some (.imm (.int .u8 (ag5 s i))):=by rw[hti,cq3 hlt,cp9];rfl
  have hb:=ca5 s i hlt
  cases h1:decide (ag5 s i≥97)with
  |false=>
   have hn:upN (ag5 s i)=ag5 s i:=by unfold upN;rw[h1];rfl
   repeat'(first|refine yz ?_|refine be5 rfl rfl rfl rfl rfl rfl rfl rfl (by constructor<;>first|omega|(simp;omega)|decide) ?_|refine be6 _ rfl rfl rfl rfl rfl rfl hx rfl ?_|refine yx ?_)
   refine ac2 ?_;refine⟨⟨i+1,by omega⟩,by dsimp only;omega,?_⟩;rw[cq6 hlt hn];exact(zle 1)
  |true=>
   cases h2:decide (ag5 s i≤122)with
   |false=>
    have hn:upN (ag5 s i)=ag5 s i:=by unfold upN;rw[h1,h2];rfl
    repeat'(first|refine yz ?_|refine be5 rfl rfl rfl rfl rfl rfl rfl rfl (by constructor<;>first|omega|(simp;omega)|decide) ?_|refine be6 _ rfl rfl rfl rfl rfl rfl hx rfl ?_|refine yx ?_)
    refine ac2 ?_;refine⟨⟨i+1,by omega⟩,by dsimp only;omega,?_⟩;rw[cq6 hlt hn];exact(zle 1)
   |true=>
    have h1':=of_decide_eq_true h1;have h2':=of_decide_eq_true h2;have hn:ag5 s i-97+65=upN (ag5 s i):=by unfold upN;rw[h1,h2];simp;omega
    repeat'(first|refine yz ?_|refine be5 rfl rfl rfl rfl rfl rfl rfl rfl (by constructor<;>first|omega|(simp;omega)|decide) ?_|refine be6 _ rfl rfl rfl rfl rfl rfl hx rfl ?_|refine be7 _ rfl rfl rfl rfl rfl rfl hx rfl rfl rfl ?_|refine yx ?_)
    refine ac2 ?_;refine⟨⟨i+1,by omega⟩,by dsimp only;omega,?_⟩;rw[hti,hn,cq5 hlt];exact(zle 1)
 ·have hd1:decide ((i:Int)<(s.size:Int))=false:=by simp;omega
  obtain rfl:i=s.size:=Oa
  repeat'(refine yz ?_)
  refine be3 0 rfl ?_;dsimp only[as7,as6];have he:=cq7 s
  repeat'(first|refine yz ?_|refine be4 (upL s s.size) rfl rfl rfl rfl rfl rfl rfl rfl he ?_|exact zD)
def cq9:List ByteArray:=[⟨#[77,65,84,67,72]⟩,⟨#[79,80,84,73,79,78,65,76]⟩,⟨#[87,72,69,82,69]⟩,⟨#[85,78,87,73,78,68]⟩,⟨#[65,83]⟩,⟨#[87,73,84,72]⟩,⟨#[68,73,83,84,73,78,67,84]⟩,⟨#[79,82,68,69,82]⟩,⟨#[66,89]⟩,⟨#[65,83,67]⟩,⟨#[68,69,83,67]⟩,⟨#[83,75,73,80]⟩,⟨#[76,73,77,73,84]⟩,⟨#[82,69,84,85,82,78]⟩,⟨#[67,82,69,65,84,69]⟩,⟨#[77,69,82,71,69]⟩,⟨#[83,69,84]⟩,⟨#[82,69,77,79,86,69]⟩,⟨#[68,69,76,69,84,69]⟩,⟨#[68,69,84,65,67,72]⟩,⟨#[65,78,68]⟩,⟨#[79,82]⟩,⟨#[78,79,84]⟩,⟨#[73,78]⟩,⟨#[73,83]⟩,⟨#[78,85,76,76]⟩,⟨#[84,82,85,69]⟩,⟨#[70,65,76,83,69]⟩,⟨#[87,65,76,75]⟩,⟨#[84,82,65,73,76]⟩,⟨#[83,73,77,80,76,69]⟩,⟨#[83,72,79,82,84,69,83,84]⟩,⟨#[65,78,89]⟩]
def cr0(s:ByteArray):Bool:=cq9.any fun w=>w.toList==(upF s).toList
def upB(b:UInt8):UInt8:=UInt8.ofNat (upN b.toNat).toNat
theorem cr1(ns:List Int):(Go.Abs.strOf ns).data.toList=ns.map fun n=>UInt8.ofNat n.toNat:=by
 have key:∀(ns:List Int) (r:ByteArray),(ns.foldl (fun r n=>r.push (UInt8.ofNat n.toNat)) r).data.toList=r.data.toList++ns.map fun n=>UInt8.ofNat n.toNat:=by
  intro ns
  induction ns with
  |nil=>intro r;simp
  |cons n ns ih=>
   intro r;rw[gd3,ih];simp[ByteArray.push]
 have:=key ns ByteArray.empty;unfold Go.Abs.strOf;rw[this];simp
theorem cr2(s:ByteArray):(upF s).data.toList=s.data.toList.map upB:=by
 unfold upF;rw[cr1];refine gg8 fun j=>?_
 have hl:s.data.toList.length=s.size:=Oc
 rcases fy5 j s.size with hj|hj
 ·have hx:=fy4 (show j<s.data.toList.length by omega);rw[fz1,upL,fz1,gf6 hj,fz1,hx];simp only[gc1,upB,ag5,gd6,hx,ge1]
 ·rw[gc5 (by rw[fz3,cq1];exact hj),gc5 (by rw[fz3];omega)]
theorem cr3(b:UInt8):upB b=32↔b=32:=by
 have key:∀c:Fin 256,(upB (UInt8.ofFin c)=32)=(UInt8.ofFin c=32):=by
  intro c;revert c;decide+kernel
 have hb:b=UInt8.ofFin b.toFin:=by rfl
 rw[hb];exact iff_of_eq (key b.toFin)
theorem cr4:∀l:List UInt8,Lib.contains l [32]=decide ((32:UInt8)∈l)
 |[]=>by simp[Lib.contains,Lib.index]
 |b::l=>by
  rw[cn0,cr4 l];have:([32]:List UInt8).isPrefixOf (b::l)=((32:UInt8)==b):=by simp only[List.isPrefixOf,Bool.and_true]
  rw[this,gb5,gb0,beq_iff_eq,decide_eq_true_eq,decide_eq_true_eq,fz0]
theorem cr5(s:ByteArray):(32:UInt8)∈(upF s).data.toList↔(32:UInt8)∈s.data.toList:=by
 rw[cr2,ga1];constructor
 ·rintro⟨b,h1,h2⟩;rw[(cr3 b).1 h2]at h1;exact h1
 ·intro h;exact⟨32,h,(cr3 32).2 rfl⟩
theorem cr6:∀w∈cq9.map (·.data.toList),(32:UInt8) ∉ w:=by
 have:(cq9.map (·.data.toList)).all (fun w=> !w.contains 32)=true:=Od
 intro w hw hm;have:=ga6.1 this w hw;simp[List.contains_iff_mem]at this;exact this hm
theorem cr7(U:List UInt8):((cq9.map (·.data.toList)).any fun w=>U==w)=cq9.any fun w=>w.data.toList==U:=by
 rw[List.any_map];congr 1
 funext w
 simp only[Function.comp];rw[gb5,beq_iff_eq,beq_iff_eq];exact⟨fun h=>h.symm,fun h=>h.symm⟩
theorem cr8(s:ByteArray):cr0 s=cq9.any fun w=>w.data.toList==(upF s).data.toList:=by
 unfold cr0;simp only[ByteArray.toList_eq]
theorem cr9(s:ByteArray)(h:Lib.contains s.data.toList [32]=false):Lib.contains (cm8 (cq9.map (·.data.toList))) (32::((upF s).data.toList++ [32]))=cr0 s:=by
 rw[cr4,decide_eq_false_iff_not]at h;rw[cn3 _ (fun hm=>h ((cr5 s).1 hm)) _ cr6,cr7,cr8]
theorem cs0(s:ByteArray)(h:Lib.contains s.data.toList [32]=true):cr0 s=false:=by
 rw[cr4,decide_eq_true_eq]at h;rw[cr8,gb9];intro w hw he;have e:=eq_of_beq he;refine cr6 _ (gc4 hw) ?_;rw[e];exact(cr5 s).2 h
theorem cs1(s sub:ByteArray)(hs:s.size<4294967281):Ev E 317 [.str s,.str sub] (.d (.bool (Lib.contains s.data.toList sub.data.toList))):=by
 refine bx6 rfl fun w F hG _ _=>?_
 obtain⟨-,-,m,hm⟩:=hG.2;refine(Tryz.strings_Contains s sub m w hs hm).mono ?_;rintro e w' ⟨rfl,rfl⟩;exact⟨rfl,Below.refl _ _⟩
theorem cs2(s:ByteArray):(upF s).size=s.size:=by unfold upF;rw[au1,cq1]
set_option maxRecDepth 10000 in
attribute [local irreducible] upF cr0 cm8 cq9 in
theorem cs3(s:ByteArray)(hs:s.size≤1000):Ev E 267 [.str s] (.d (.bool (cr0 s))):=by
 have hu:=cq8 s;have hus:=cs2 s;have h1:(⟨#[32]⟩:ByteArray).size=1:=rfl;have hc1:=cs1 s ⟨#[32]⟩ Oa
 cases h0: !(s.toList==(⟨#[]⟩:ByteArray).toList)with
 |false=>
  have e:cr0 s=false:=by
   rw[cr8,cr2];have:s.data.toList=[]:=by rw[Bool.not_eq_false',beq_iff_eq,ByteArray.toList_eq,ByteArray.toList_eq]at h0;exact h0
   rw[this];unfold cq9;decide+kernel
  rw[e];refine ye1 func267 ntmps267 fun _ _ _=>?_
  exact Om
 |true=>
  cases hb:Lib.contains s.data.toList [32]with
  |true=>
   rw[show(⟨#[32]⟩:ByteArray).data.toList=[32]from rfl,hb]at hc1;rw[cs0 s hb];refine ye1 func267 ntmps267 fun _ _ _=>?_
   repeat'(first|refine yz ?_|refine yp b317 hc1 ?_|refine yx ?_|exact zD)
  |false=>
   rw[show(⟨#[32]⟩:ByteArray).data.toList=[32]from rfl,hb]at hc1;have hr:=cr9 s hb;refine ye1 func267 ntmps267 fun _ _ _=>?_
   repeat'(first|refine yz ?_|refine qP (d:=7) rfl rfl rfl rfl rfl rfl b317 (hc1) ?_|refine yp b318 hu ?_|refine qP (d:=15) rfl rfl rfl rfl rfl rfl b317 ((cs1 _ _ Oe)) ?_|refine yx ?_)
   rw[show ∀x,(cond (bif true then !false else false) x false)=x from fun _=>rfl];refine congrArg D.bool (Eq.trans (congr (congrArg Lib.contains ?_) ?_) hr)
   ·unfold cm8 cq9;decide+kernel
   ·simp only[ByteArray.data_append,Array.toList_append];simp
def cs4(s:ByteArray):Bool:=ca2 s&& !cr0 s
theorem cs5{s:ByteArray}(h:ca2 s=true):s.size≤1000:=by
 unfold ca2 at h;simp only[fz4,decide_eq_true_eq]at h;omega
theorem cs6(s:ByteArray):Ev E 200 [.str s] (.d (.bool (cs4 s))):=by
 have h1:=ca6 s;unfold cs4
 cases hn:ca2 s with
 |false=>
  rw[hn]at h1;refine ye1 func200 ntmps200 fun _ _ _=>?_
  repeat'(first|refine yz ?_|refine yp b179 h1 ?_|exact zD)
 |true=>
  rw[hn]at h1;have h2:=cs3 s (cs5 hn);refine ye1 func200 ntmps200 fun _ _ _=>?_
  repeat'(first|refine yz ?_|refine yp b179 h1 ?_|refine yp b267 h2 ?_|exact zD)
def nlF(e:Ex):Bool:=
 bif e.op==2||(e.op==3||e.op==4)then !cs4 e.nm else
 bif e.op==23 then cn6 e.nm==0 else
 bif e.op==24 then !cn8 e.nm else false
theorem cs7(e:Ex):Ev E 186 [bz1 e] (.d (.bool (nlF e))):=by
 have h1:=cs6 e.nm;have h2:=cn9 e.nm;have h3:=co0 e.nm;refine ye1 func186 ntmps186 fun _ _ _=>?_
 repeat'(first|refine yz ?_|refine yp bs6 h1 ?_|refine yp b261 h2 ?_|refine yp b263 h3 ?_|(refine qV rfl ?_ ?_<;>intro _))
 all_goals(refine congrArg D.bool ?_;simp_all [nlF,gd9])
end Go.Proofs.YtndgolmgaenlfaaGreatDoor
namespace Go.Proofs.YtndgolmgaenlfaaGreatDoor
set_option maxRecDepth 4000
open Go Go.Abs Go.Val Go.RowKit Go.Proofs.Tryz
attribute [local irreducible] go SGo an9 Ev aw1 EvO EvS
def cs8(e:Ex)(w:Bool):Int:=
 bif (decide (e.op<1)||decide (e.op>24))||(!co3 e|| !co6 e)then 1 else
 bif e.op==1&& !co8 e.v then 8 else
 bif nlF e then 6 else
 bif e.op==24&&w then 9 else 0
mutual
def cs9:Ex→Bool→Int
 |.mk op v nm ds ks,w=>bif cs8 (.mk op v nm ds ks) w !=0 then cs8 (.mk op v nm ds ks) w else ct0 ks (w||op==24)
def ct0:List Ex→Bool→Int
 |[],_=>0
 |x::r,w=>bif cs9 x w !=0 then cs9 x w else ct0 r w
end
theorem ct1{l:List Ex}{i:Nat}{x:Ex}{w:Bool}(h:l[i]? =some x):ct0 (l.drop i) w=bif cs9 x w !=0 then cs9 x w else ct0 (l.drop (i+1)) w:=by
 rw[bv7 h,ct0]
structure SVs(l:List Ex)(w:Bool) where
 i:Nat
 hi:i≤l.length
 ok:ct0 l w=ct0 (l.drop i) w
theorem ct2{e:Ex}{w:Bool}(h:cs8 e w=0):cs9 e w=ct0 e.ks (w||e.op==24):=by
 cases e
 rw[cs9,h];rfl
theorem ct3{e:Ex}{w:Bool}{c:Int}(h:cs8 e w=c)(hc:(c !=0)=true):c=cs9 e w:=by
 cases e
 rw[cs9,h,hc];rfl
set_option maxHeartbeats 4000000 in
theorem ct4(e:Ex):∀w,Ev E 119 [bz1 e,.bool w] (.d (.int (cs9 e w))):=by
 refine ca0 (P:=fun e=>∀w,Ev E 119 [bz1 e,.bool w] (.d (.int (cs9 e w)))) (fun op v nm ds ks ih w=>?_) e;refine Ev.fit fun hfit=>?_
 obtain⟨-,-,-,hmax,-⟩:=bz8 (hfit (bz1 (.mk op v nm ds ks)) Oc);have hlen:(by9 (.mk op v nm ds ks)).length=ks.length:=bz6 _;have hkg:∀(i:Nat) (x:Ex),ks[i]? =some x→(by9 (.mk op v nm ds ks))[(i:Int).toNat]? =some (bz1 x):=fun i x h=>bz4 (e:=.mk op v nm ds ks) (by rw[gb1];exact h)
 have hks:Ex.ks (.mk op v nm ds ks)=ks:=rfl;generalize Ex.mk op v nm ds ks=e at*;rw[hks]at hmax;have h1:=co4 e;have h2:=co7 e;have h3:=co9 e.v;have h4:=cs7 e;have hsf:∀c,(bif (decide (e.op<1)||decide (e.op>24))||(!co3 e|| !co6 e)then 1 else bif e.op==1&& !co8 e.v then 8 else bif nlF e then 6 else bif e.op==24&&w then 9 else 0)=c→cs8 e w=c:=fun c h=>h
 have hbad:=fun c (h:cs8 e w=c)=>ct3 h
 have hok:=ct2 (e:=e) (w:=w);rw[hks]at hok;clear hks;generalize hW:(w||e.op==24)=W at hok
 cases w
 all_goals
  refine ye2 func119 ntmps119 fun _ _ _=>?_
  repeat'(first|refine yz ?_|refine yp b183 h1 ?_|refine yp b184 h2 ?_|refine yp b185 h3 ?_|refine yp b186 h4 ?_|(refine yy ?_ ?_<;>intro _)|(refine qV rfl ?_ ?_<;>intro _))
  any_goals(refine congrArg D.int (hbad _ (hsf _ ?_) rfl);clear ih hkg hfit hsf hbad hok h1 h2 h3 h4;simp_all [gd9];done)
 all_goals
  rw[hok (hsf _ (by clear ih hkg hfit hsf hbad hok h1 h2 h3 h4;simp_all [gd9]))];clear hsf hbad hok h1 h2 h3 h4;refine ac8 (α:=SVs ks W) (fun p=>⟨[(1,.d (.bool _)),(2,.ptr 0 0),(44,.d (.sl (by9 e))),(45,.d (.int (by9 e).length)),(46,.d (.int p.i))],[.var 33 (.w (.d (bz1 e)))]⟩) (fun p=>ks.length-p.i) ⟨0,by omega,rfl⟩ (zle 1) ?_;rintro⟨i,hi,ok⟩;dsimp only;rcases fy5 i ks.length with hlt|hge
  ·have hd1:decide ((i:Int)<((by9 e).length:Int))=true:=by rw[hlen];simpa using hlt
   have hx0:=fy4 hlt;generalize ks[i]=x at hx0;have hx:=hkg i x hx0;have hv:=ih x (fy6 hx0) W;rw[←hW]at hv;rw[ok,ct1 hx0]
   cases hz:cs9 x W !=0 with
   |true=>
    rw[←hW]at hz ⊢
    repeat'(first|refine yz ?_|refine yi (bz1 x) hx ?_|refine yp b119 hv ?_|exact zD)
   |false=>
    rw[←hW]at hz
    repeat'(first|refine yz ?_|refine yi (bz1 x) hx ?_|refine yp b119 hv ?_)
    refine ac2 ?_;exact⟨⟨i+1,by omega,by rw[ok,ct1 hx0,←hW,hz];rfl⟩,by dsimp only;omega,(zle 1)⟩
  ·have hd1:decide ((i:Int)<((by9 e).length:Int))=false:=by rw[hlen];simp;omega
   rw[ok,ga2 hge,ct0]
   exact Om
end Go.Proofs.YtndgolmgaenlfaaGreatDoor
namespace Go.Proofs.YtndgolmgaenlfaaGreatDoor
set_option maxRecDepth 4000
open Go Go.Abs Go.Val Go.RowKit Go.Proofs.Tryz
attribute [local irreducible] go SGo an9 Ev aw1 EvO EvS
def ct5(e:Ex):Int:=bif decide (dp e>24)then 5 else bif decide (nd e>300)then 4 else cs9 e false
theorem ct6(e:Ex)(h1:dp e≤1000000)(h2:nd e≤1000000):Ev E 61 [bz1 e] (.d (.int (ct5 e))):=by
 have a1:=cp8 e h1;have a2:=cp3 e h2;have a3:=ct4 e false;unfold ct5
 cases g1:decide (dp e>24)with
 |true=>
  have b1:decide ((dp e:Int)>24)=true:=by simp at g1 ⊢;omega
  refine ye1 func61 ntmps61 fun _ _ _=>?_
  repeat'(first|refine yz ?_|refine yp b117 a1 ?_|exact zD)
 |false=>
  have b1:decide ((dp e:Int)>24)=false:=by simp at g1 ⊢;omega
  cases g2:decide (nd e>300)with
  |true=>
   have b2:decide ((nd e:Int)>300)=true:=by simp at g2 ⊢;omega
   refine ye1 func61 ntmps61 fun _ _ _=>?_
   repeat'(first|refine yz ?_|refine yp b117 a1 ?_|refine yp b118 a2 ?_|exact zD)
  |false=>
   have b2:decide ((nd e:Int)>300)=false:=by simp at g2 ⊢;omega
   refine ye1 func61 ntmps61 fun _ _ _=>?_
   repeat'(first|refine yz ?_|refine yp b117 a1 ?_|refine yp b118 a2 ?_|refine yp b119 a3 ?_|exact zD)
end Go.Proofs.YtndgolmgaenlfaaGreatDoor
namespace Go.Proofs.YtndgolmgaenlfaaGreatDoor
set_option maxRecDepth 4000
open Go Go.Abs Go.Val Go.RowKit Go.Proofs.Tryz
structure PP where
 key:ByteArray
 e:Ex
structure NP where
 vr:ByteArray
 lb:List ByteArray
 ps:List PP
structure EP where
 vr:ByteArray
 ty:List ByteArray
 dir:Int
 mode:Int
 mn:Int
 mx:Int
 ps:List PP
structure PA where
 vr:ByteArray
 ns:List NP
 es:List EP
structure IT where
 e:Ex
 asn:ByteArray
structure SK where
 e:Ex
 dc:Bool
structure SIt where
 vr:ByteArray
 key:ByteArray
 lb:ByteArray
 off:Bool
 e:Ex
structure CL where
 k:Int
 opt:Bool
 ds:Bool
 ps:List PA
 wh:List Ex
 e:Ex
 nm:ByteArray
 it:List IT
 od:List SK
 sk:Int
 lm:Int
 st:List SIt
 ns:List ByteArray
def ct7(p:PP):D:=.agg [.str p.key,.int p.e.op,.int p.e.v.k,.int p.e.v.n,.int p.e.v.d,.str p.e.v.s,.sl (kids p.e.v),.str p.e.nm,.bool p.e.ds,.sl (by9 p.e)]
def ct8(n:NP):D:=.agg [.str n.vr,.sl (n.lb.map .str),.sl (n.ps.map ct7)]
def ct9(e:EP):D:=.agg [.str e.vr,.sl (e.ty.map .str),.int e.dir,.int e.mode,.int e.mn,.int e.mx,.sl (e.ps.map ct7)]
def cu0(p:PA):D:=.agg [.str p.vr,.sl (p.ns.map ct8),.sl (p.es.map ct9)]
def cu1(x:IT):D:=.agg [.int x.e.op,.int x.e.v.k,.int x.e.v.n,.int x.e.v.d,.str x.e.v.s,.sl (kids x.e.v),.str x.e.nm,.bool x.e.ds,.sl (by9 x.e),.str x.asn]
def cu2(x:SK):D:=.agg [.int x.e.op,.int x.e.v.k,.int x.e.v.n,.int x.e.v.d,.str x.e.v.s,.sl (kids x.e.v),.str x.e.nm,.bool x.e.ds,.sl (by9 x.e),.bool x.dc]
def cu3(x:SIt):D:=.agg [.str x.vr,.str x.key,.str x.lb,.bool x.off,.int x.e.op,.int x.e.v.k,.int x.e.v.n,.int x.e.v.d,.str x.e.v.s,.sl (kids x.e.v),.str x.e.nm,.bool x.e.ds,.sl (by9 x.e)]
def cu4(c:CL):D:=.agg [.int c.k,.bool c.opt,.bool c.ds,.sl (c.ps.map cu0),.sl (bz0 c.wh),.int c.e.op,.int c.e.v.k,.int c.e.v.n,.int c.e.v.d,.str c.e.v.s,.sl (kids c.e.v),.str c.e.nm,.bool c.e.ds,.sl (by9 c.e),
 .str c.nm,.sl (c.it.map cu1),.sl (c.od.map cu2),.int c.sk,.int c.lm,.sl (c.st.map cu3),.sl (c.ns.map .str)]
def s0B(s:ByteArray):Bool:=isS s ⟨#[]⟩
mutual
def cu5:Ex→Bool
 |.mk op _ _ _ ks=>op==24||hagL ks
def hagL:List Ex→Bool
 |[]=>false
 |x::r=>cu5 x||hagL r
end
def cu6(l:List PP):List ByteArray:=l.map fun p=>p.key
def cu7:List ByteArray→Bool
 |a::b::r=>Op.bytesLess a.toList b.toList&&cu7 (b::r)
 |_=>true
def cu8(e:EP):Int:=bif e.mode==0 then 1 else min (max e.mx 0) 13
def hopS(l:List EP):Int:=l.foldl (fun n e=>n+cu8 e) 0
def cu9(p:PA):Bool:=(p.ns.length==0||decide (p.es.length>6))||decide (hopS p.es>12)
def cv0(e:EP):Bool:=
 bif (decide (e.dir<1)||decide (e.dir>3))||(decide (e.mode<0)||decide (e.mode>5))then false else
 bif e.mode==0 then e.mn==0&&e.mx==0 else decide (e.mn≥0) &&(decide (e.mn≤e.mx) &&(decide (e.mx≥1) &&(decide (e.mx≤6) &&e.ps.length==0)))
def cv1(e:EP):Bool:=e.mode==0&&(e.ty.length==1&&e.dir !=3)
structure PT where
 nm:ByteArray
 ns:List ByteArray
 ps:List PP
def cv2(x:PT):D:=.agg [.str x.nm,.sl (x.ns.map .str),.sl (x.ps.map ct7)]
def ptN(n:NP):PT:=⟨n.vr,n.lb,n.ps⟩
def ptE(e:EP):PT:=⟨e.vr,e.ty,e.ps⟩
def cv3:List NP→List EP→List PT
 |[],_=>[]
 |n::r,[]=>ptN n::cv3 r []
 |n::r,e::q=>ptN n::ptE e::cv3 r q
def cv4(s:ByteArray):Bool:=s0B s||cs4 s
def cv5(x:PT):Bool:= !(cv4 x.nm)||(!(x.ns.all cs4)|| !((cu6 x.ps).all cs4))
def cv6(x:PT):Bool:= !(cu7 x.ns)|| !(cu7 (cu6 x.ps))
def cv7:List Ex→Int
 |[]=>0
 |e::r=>bif ct5 e !=0 then ct5 e else cv7 r
def cv8(l:List PT):List Ex:=l.flatMap fun x=>x.ps.map fun p=>p.e
def cv9(p:PA)(create:Bool):Int:=
 bif cu9 p then 4 else
 bif p.ns.length !=p.es.length+1||p.es.any fun e=> !cv0 e then 1 else
 bif !(cv4 p.vr)||(cv3 p.ns p.es).any cv5 then 6 else
 bif (cv3 p.ns p.es).any cv6 then 26 else
 bif cv7 (cv8 (cv3 p.ns p.es)) !=0 then cv7 (cv8 (cv3 p.ns p.es))else
 bif (cv8 (cv3 p.ns p.es)).any cu5 then 9 else
 bif create&&p.es.any fun e=> !cv1 e then 1 else 0
def cw0(e:Ex):Bool:=e.op==0&&(co1 e.v&&(s0B e.nm&&(!e.ds&&e.ks.length==0)))
def cw1(n:Int):Bool:=n==0||n== -1
def cw2(c:CL):Bool:=
 let w:=c.k==3||c.k==4
 bif c.opt&& !(c.k==1||c.k==8)||c.ds&& !w then true else
 bif decide (c.ps.length>0) && !(c.k==1||(c.k==5||c.k==6))||decide (c.wh.length>0) && !(c.k==1||c.k==3)then true else
 bif !(c.k==2) &&(!(cw0 c.e)|| !(s0B c.nm))|| !w&&(decide (c.it.length>0)||decide (c.od.length>0))then true else
 bif !w&&(!(cw1 c.sk)|| !(cw1 c.lm))||(decide (c.sk< -1)||(decide (c.sk>1000000000000000)||(decide (c.lm< -1)||decide (c.lm>1000000000000000))))then true else
 decide (c.st.length>0) && !(c.k==7)||decide (c.ns.length>0) && !(c.k==8)
def inN(n lo hi:Nat):Bool:=decide (lo≤n) &&decide (n≤hi)
def cw3(c:CL):Bool:=
 bif c.k==1||c.k==5 then !(inN c.ps.length 1 6)||decide (c.wh.length>1)else
 bif c.k==6 then c.ps.length !=1 else
 bif c.k==3||c.k==4 then !(inN c.it.length 1 16)||(decide (c.od.length>16)||decide (c.wh.length>1))else
 bif c.k==7 then !(inN c.st.length 1 16)else
 bif c.k==8 then !(inN c.ns.length 1 16)else false
def cw4(x:SIt):Int:=
 bif !(s0B x.lb) &&(!(s0B x.key)|| !(cw0 x.e))||s0B x.lb&&x.off then 1 else
 bif !(cs4 x.vr)||(!(s0B x.lb) && !(cs4 x.lb)||s0B x.lb&& !(cs4 x.key))then 6 else
 bif s0B x.lb then ct5 x.e else 0
def cw5:List Int→Int
 |[]=>0
 |x::r=>bif x !=0 then x else cw5 r
def cw6(s:ByteArray):Int:=bif cs4 s then 0 else 6
def cw7(c:CL):Int:=
 bif (decide (c.k<1)||decide (c.k>8))||cw2 c then 1 else
 bif cw3 c then 4 else
 cw5 (c.ps.map (fun p=>cv9 p (c.k==5))++c.wh.map ct5++(bif c.k==2 then [ct5 c.e,cw6 c.nm]else [])++c.it.flatMap (fun x=>[ct5 x.e,cw6 x.asn])++c.od.map (fun x=>ct5 x.e)++c.st.map cw4++c.ns.map cw6)
end Go.Proofs.YtndgolmgaenlfaaGreatDoor
