/- Sort keys, UNWIND, items and conjunctive queries of a plan, checked by the program; Items of a plan, checked by the program; The variables of path pat. Conditions: each part's own, as it says. -/
import Derived.Test.YtndgolmgaenlfaaGreatDoorCA
import Derived.Test.YtndgolmgaenlfaaGreatDoorGC
import Derived.Test.YtndgolmgaenlfaaGreatDoorFB
set_option linter.unusedVariables false
set_option linter.unusedSimpArgs false
namespace Go.Proofs.YtndgolmgaenlfaaGreatDoor
set_option maxRecDepth 4000
open Go Go.Abs Go.Val Go.RowKit Go.Proofs.Tryz
attribute [local irreducible] go SGo an9 Ev aw1 EvO EvS RGo PGo
abbrev smE(e:Ex):Prop:=nd e≤1000000
theorem dw5{e:Ex}(h:smE e):dp e≤1000000:=by have h':nd e≤1000000:=h;have:=dg6 e;omega
structure SStP(l:List SK)(cols:List ByteArray) where
 i:Nat
 hi:i≤l.length
 ok:dq7 cols l=dq7 cols (l.drop i)
theorem dw6{cols:List ByteArray}{l:List SK}{i:Nat}{x:SK}(h:l[i]? =some x):dq7 cols (l.drop i)=bif di8 x.e cols !=0 then di8 x.e cols else dq7 cols (l.drop (i+1)):=by
 rw[cz0 h,dq7]
theorem dw7(l:List SK)(cols:List ByteArray)(hs:∀x∈l,smE x.e):Ev E 43 [.sl (l.map cu2),.sl (cols.map .str)] (.d (.int (dq7 cols l))):=Ev.fit fun hfit=>by
 have hmax:=(cz2 (hfit (.sl (l.map cu2)) Oc)).1;have hle:(l.map cu2).length=l.length:=Oc
 refine ye2 func43 ntmps43 fun _ _ _=>?_
 repeat'(refine yz ?_)
 refine ac8 (α:=SStP l cols) (fun p=>⟨[(1,.d (.sl (cols.map .str))),(8,.d (.sl (l.map cu2))),(9,.d (.int (l.map cu2).length)),(10,.d (.int p.i))],[]⟩) (fun p=>l.length-p.i) ⟨0,by omega,rfl⟩ (zle 0) ?_;rintro⟨i,hi,ok⟩;dsimp only;rcases fy5 i l.length with hlt|hge
 ·have g1:decide ((i:Int)<((l.map cu2).length:Int))=true:=by rw[hle];simpa using hlt
  have hx0:=fy4 hlt;generalize l[i]=x at hx0;have hx:=cz1 (f:=cu2) hx0;have hm:=hs x (fy6 hx0);have hc:=dj4 x.e cols (dw5 hm) hm;rw[dw6 hx0]at ok
  cases hz:di8 x.e cols !=0 with
  |true=>
   rw[hz,cond_true]at ok;rw[ok];generalize di8 x.e cols=z at*
   repeat'(first|refine yz ?_|refine yi (cu2 x) hx ?_|refine bl5 rfl rfl rfl rfl rfl rfl rfl ?_|refine yp b42 hc ?_|exact zD)
  |false=>
   rw[hz,cond_false]at ok;have h0:di8 x.e cols=0:=by simpa using hz
   rw[h0]at hc
   repeat'(first|refine yz ?_|refine yi (cu2 x) hx ?_|refine bl5 rfl rfl rfl rfl rfl rfl rfl ?_|refine yp b42 hc ?_)
   refine ac2 ?_;exact⟨⟨i+1,by omega,ok⟩,by dsimp only;omega,(zle 0)⟩
 ·have g1:decide ((i:Int)<((l.map cu2).length:Int))=false:=by rw[hle];simp;omega
  rw[ga2 hge,dq7]at ok;rw[ok]
  exact Om
theorem dw8(b:PB)(K:List D)(cols:List ByteArray)(hs:smE b.e):Ev E 44 [do7 b K,.sl (cols.map .str)] (.d (.int (dq8 b cols))):=by
 have h1:=ct6 b.e (dw5 hs) hs;have h2:=dv6 b.nm;have h3:=dj3 b.e cols hs;have h4:=db2 b.e;have h5:=cb1 cols b.nm;unfold dq8
 cases hz:ct5 b.e !=0 with
 |true=>
  rw[cond_true];generalize ct5 b.e=z at*;refine ye2 func44 ntmps44 fun _ _ _=>?_
  repeat'(first|refine yz ?_|refine yp b61 h1 ?_|exact zD)
 |false=>
 have h0:ct5 b.e=0:=by simpa using hz
 rw[h0]at h1;rw[cond_false];clear hz h0;generalize di7 b.e cols=kn at*;generalize cu5 b.e=ha at*;generalize by8 cols b.nm=hc at*
 cases hw:cs4 b.nm with
 |false=>
  rw[hw]at h2;refine ye2 func44 ntmps44 fun _ _ _=>?_
  repeat'(first|refine yz ?_|refine yp b61 h1 ?_|refine yp b58 h2 ?_|exact zD)
 |true=>
 rw[hw]at h2
 cases kn with
 |false=>
  refine ye2 func44 ntmps44 fun _ _ _=>?_
  repeat'(first|refine yz ?_|refine yp b61 h1 ?_|refine yp b58 h2 ?_|refine yp b62 h3 ?_|exact zD)
 |true=>
 cases ha with
 |true=>
  refine ye2 func44 ntmps44 fun _ _ _=>?_
  repeat'(first|refine yz ?_|refine yp b61 h1 ?_|refine yp b58 h2 ?_|refine yp b62 h3 ?_|refine yp b63 h4 ?_|exact zD)
 |false=>
 cases hc with
 |true=>
  refine ye2 func44 ntmps44 fun _ _ _=>?_
  repeat'(first|refine yz ?_|refine yp b61 h1 ?_|refine yp b58 h2 ?_|refine yp b62 h3 ?_|refine yp b63 h4 ?_|refine yp b60 h5 ?_|exact zD)
 |false=>
  refine ye2 func44 ntmps44 fun _ _ _=>?_
  repeat'(first|refine yz ?_|refine yp b61 h1 ?_|refine yp b58 h2 ?_|refine yp b62 h3 ?_|refine yp b63 h4 ?_|refine yp b60 h5 ?_|exact zD)
structure SMuP(l:List ByteArray) where
 i:Nat
 hi:i≤l.length
 ok:l.all (fun s=>cs4 s||dp6 s)=(l.drop i).all fun s=>cs4 s||dp6 s
theorem dw9(c:CJ)(hl:c.vs.length≤1000000):Ev E 37 [cj7 c] (.tup [.sl ((dq2 c).1.map .str),.int (dq2 c).2]):=Ev.fit fun hfit=>by
 have hk:=dw0 c;have hle:(c.vs.map D.str).length=c.vs.length:=Oc
 have hcl:=dw4 c.vs Oa;unfold dq2
 cases hz:dn8 c !=0 with
 |true=>
  rw[cond_true];generalize dn8 c=z at*;show Ev E 37 [cj7 c] (.tup [.sl [],.int z]);refine ye1 func37 ntmps37 fun _ _ _=>?_
  repeat'(first|refine yz ?_|refine yp b57 hk ?_|exact zL)
 |false=>
  have h0:dn8 c=0:=by simpa using hz
  rw[h0]at hk;rw[cond_false];clear hz h0;refine ye1 func37 ntmps37 fun _ _ _=>?_
  repeat'(first|refine yz ?_|refine yp b57 hk ?_)
  refine ac8 (α:=SMuP c.vs) (fun p=>⟨[(1,.ptr 0 0),(13,.d (.sl (c.vs.map .str))),(14,.d (.int (c.vs.map D.str).length)),(15,.d (.int p.i))],[oCJ c]⟩) (fun p=>c.vs.length-p.i) ⟨0,by omega,rfl⟩ (zle 1) ?_;rintro⟨i,hi,ok⟩;dsimp only;rcases fy5 i c.vs.length with hlt|hge
  ·have g1:decide ((i:Int)<((c.vs.map D.str).length:Int))=true:=by rw[hle];simpa using hlt
   have hx0:=fy4 hlt;generalize c.vs[i]=x at hx0;have hx:=cz1 (f:=D.str) hx0;have h1:=dv6 x;have h2:=dv7 x;rw[cz0 hx0,ge6]at ok
   cases hw:cs4 x with
   |true=>
    rw[hw]at h1 ok;rw[Bool.true_or,gd1]at ok
    repeat'(first|refine yz ?_|refine yi (.str x) hx ?_|refine yp b58 h1 ?_)
    refine ac2 ?_;exact⟨⟨i+1,by omega,ok⟩,by dsimp only;omega,(zle 1)⟩
   |false=>
    rw[hw]at h1 ok
    cases hu:dp6 x with
    |true=>
     rw[hu]at h2 ok;rw[gd0,gd1]at ok
     repeat'(first|refine yz ?_|refine yi (.str x) hx ?_|refine yp b58 h1 ?_|refine yp b59 h2 ?_)
     refine ac2 ?_;exact⟨⟨i+1,by omega,ok⟩,by dsimp only;omega,(zle 1)⟩
    |false=>
     rw[hu]at h2 ok;rw[ok]
     repeat'(first|refine yz ?_|refine yi (.str x) hx ?_|refine yp b58 h1 ?_|refine yp b59 h2 ?_|exact zL)
  ·have g1:decide ((i:Int)<((c.vs.map D.str).length:Int))=false:=by rw[hle];simp;omega
   rw[ga2 hge,List.all_nil]at ok;rw[ok]
   repeat'(first|refine yz ?_|refine yp b45 hcl ?_|exact zL)
abbrev oPB(b:PB)(K:List D):aa5:=.var 40 (.w (.d (do7 b K)))
theorem dx0(l:List ByteArray)(s:ByteArray):EvS E 60 [.own 0,.d (.str s)] [.row 9 1 (l.map .str)] (.d (.bool (by8 l s))) [.row 9 1 (l.map .str)]:=
 dw1 (ds:=[]) (es:=[.str s]) (cb1 l s)
structure SItP(g:Bool)(cols:List ByteArray)(l:List IT) where
 i:Nat
 out:List ByteArray
 hi:i≤l.length
 ho:out.length=i
 ok:dq6 g cols l []=dq6 g cols (l.drop i) out
theorem dx1{g:Bool}{cols out:List ByteArray}{l:List IT}{i:Nat}{x:IT}(h:l[i]? =some x):dq6 g cols (l.drop i) out=bif dq5 g x cols out !=0 then erR (dq5 g x cols out)else dq6 g cols (l.drop (i+1)) (out++ [x.asn]):=by
 rw[cz0 h,dq6]
set_option maxHeartbeats 4000000 in
theorem dx2(b:PB)(K:List D)(cols:List ByteArray)(hs:∀x∈b.it,smE x.e):Ev E 39 [do7 b K,.sl (cols.map .str)]
  (.tup [.sl ((bif decide (b.it.length>24)then erR 4 else dq6 (b.op==8) cols b.it []).1.map .str),.int (bif decide (b.it.length>24)then erR 4 else dq6 (b.op==8) cols b.it []).2]):=by
 have hle:(b.it.map cu1).length=b.it.length:=Oc
 generalize hg8:(b.op==8)=g8
 cases hn:decide (b.it.length>24)with
 |true=>
  have g1:decide (((b.it.map cu1).length:Int)>24)=true:=by rw[hle];simp at hn ⊢;omega
  show Ev E 39 _ (.tup [.sl [],.int 4]);refine ye2 func39 ntmps39 fun _ _ _=>?_
  exact Om
 |false=>
 have hn24:b.it.length≤24:=by have:=of_decide_eq_false hn;omega
 have g1:decide (((b.it.map cu1).length:Int)>24)=false:=by rw[hle];simp;omega
 rw[cond_false];refine ye2 func39 ntmps39 fun _ _ _=>?_
 repeat'(refine yz ?_)
 refine ac8 (α:=SItP g8 cols b.it) (fun p=>⟨[(1,.d (.sl (cols.map .str))),(2,.ptr 0 0),(6,bh5 1 (p.out.map .str)),(16,.d (.sl (b.it.map cu1))),(17,.d (.int (b.it.map cu1).length)),(18,.d (.int p.i))],[oPB b K]++ay0 9 1 (p.out.map .str)⟩) (fun p=>b.it.length-p.i) ⟨0,[],by omega,rfl,rfl⟩ (zle 1) ?_;rintro⟨i,out,hi,ho,ok⟩;dsimp only;rcases fy5 i b.it.length with hlt|hge
 ·have g2:decide ((i:Int)<((b.it.map cu1).length:Int))=true:=by rw[hle];simpa using hlt
  have hx0:=fy4 hlt;generalize b.it[i]=x at hx0;have hx:=cz1 (f:=cu1) hx0;have hm:=hs x (fy6 hx0);have h1:=ct6 x.e (dw5 hm) hm;have h2:=dv6 x.asn;have h3:=dj3 x.e cols hm;have h4:=db2 x.e;have hat:=dx1 (g:=g8) (cols:=cols) (out:=out) hx0;unfold dq5 at hat;rw[ok,hat];generalize di7 x.e cols=kn at*;generalize cu5 x.e=ha at*
  match out,ho,ok with
  |[],ho,ok=>
   dsimp only[bh5,ay0,List.map,List.append,HAppend.hAppend,Append.append];have hcon:=cb1 [] x.asn;generalize hq:by8 [] x.asn=hc at*
   cases hz:ct5 x.e !=0 with
   |true=>
    rw[cond_true,hz,cond_true];generalize ct5 x.e=z at*;show go _ _ _ (ao3 _ _ (.tup [.sl [],.int z]))
    repeat'(first|refine yz ?_|refine yi (cu1 x) hx ?_|refine bl5 rfl rfl rfl rfl rfl rfl rfl ?_|refine yp b61 h1 ?_|exact zL)
   |false=>
   have h0:ct5 x.e=0:=by simpa using hz
   rw[h0]at h1;rw[cond_false];clear h0
   cases hw:cs4 x.asn with
   |false=>
    rw[hw]at h2;show go _ _ _ (ao3 _ _ (.tup [.sl [],.int 6]))
    repeat'(first|refine yz ?_|refine yi (cu1 x) hx ?_|refine bl5 rfl rfl rfl rfl rfl rfl rfl ?_|refine yp b61 h1 ?_|refine yp b58 h2 ?_|(refine yy ?_ ?_<;>intro _)|exact zL)
   |true=>
   rw[hw]at h2
   cases kn with
   |false=>
    show go _ _ _ (ao3 _ _ (.tup [.sl [],.int 6]))
    repeat'(first|refine yz ?_|refine yi (cu1 x) hx ?_|refine bl5 rfl rfl rfl rfl rfl rfl rfl ?_|refine yp b61 h1 ?_|refine yp b58 h2 ?_|refine yp b62 h3 ?_|(refine yy ?_ ?_<;>intro _)|exact zL)
   |true=>
   cases ha with
   |false=>
    cases g8 with
    |false=>
     cases hc with
     |true=>
      simp[by8]at hq
     |false=>
      show go _ _ _ (ao3 _ _ (.tup [.sl ((dq6 false cols (b.it.drop (i+1)) ([]++ [x.asn])).1.map .str),.int (dq6 false cols (b.it.drop (i+1)) ([]++ [x.asn])).2]));have hnew:dq6 false cols b.it []=dq6 false cols (b.it.drop (i+1)) ([]++ [x.asn]):=by rw[ok,hat,hz,hw];rfl
      rw[←hnew]
      repeat'(first|refine yz ?_|refine yi (cu1 x) hx ?_|refine bl5 rfl rfl rfl rfl rfl rfl rfl ?_|refine yp b61 h1 ?_|refine yp b58 h2 ?_|refine yp b62 h3 ?_|refine yp b63 h4 ?_|refine yp b60 hcon ?_|(refine qS rfl ⟨by simp,fun d hd=>by(obtain rfl:=ga4.1 hd;rfl),by(show _*16≤140737488355328;simp;try omega),by(show _≤9223372036854775807;simp;try omega)⟩ ?_)|refine yx ?_)
      refine ac2 ?_;exact⟨⟨i+1,[]++ [x.asn],by omega,by simp only[fy8,fy7,fz2]at*;omega,hnew⟩,by dsimp only;omega,(bi7 [0,2])⟩
    |true=>
     cases hc with
     |true=>
      simp[by8]at hq
     |false=>
      show go _ _ _ (ao3 _ _ (.tup [.sl ((dq6 true cols (b.it.drop (i+1)) ([]++ [x.asn])).1.map .str),.int (dq6 true cols (b.it.drop (i+1)) ([]++ [x.asn])).2]));have hnew:dq6 true cols b.it []=dq6 true cols (b.it.drop (i+1)) ([]++ [x.asn]):=by rw[ok,hat,hz,hw];rfl
      rw[←hnew]
      repeat'(first|refine yz ?_|refine yi (cu1 x) hx ?_|refine bl5 rfl rfl rfl rfl rfl rfl rfl ?_|refine yp b61 h1 ?_|refine yp b58 h2 ?_|refine yp b62 h3 ?_|refine yp b63 h4 ?_|refine yp b60 hcon ?_|(refine qS rfl ⟨by simp,fun d hd=>by(obtain rfl:=ga4.1 hd;rfl),by(show _*16≤140737488355328;simp;try omega),by(show _≤9223372036854775807;simp;try omega)⟩ ?_)|refine yx ?_)
      refine ac2 ?_;exact⟨⟨i+1,[]++ [x.asn],by omega,by simp only[fy8,fy7,fz2]at*;omega,hnew⟩,by dsimp only;omega,(bi7 [0,2])⟩
   |true=>
    cases g8 with
    |false=>
     show go _ _ _ (ao3 _ _ (.tup [.sl [],.int 9]))
     repeat'(first|refine yz ?_|refine yi (cu1 x) hx ?_|refine bl5 rfl rfl rfl rfl rfl rfl rfl ?_|refine yp b61 h1 ?_|refine yp b58 h2 ?_|refine yp b62 h3 ?_|refine yp b63 h4 ?_|refine yx ?_|exact zL)
    |true=>
     cases c2:x.e.op==24 with
     |false=>
      have c3:(!(x.e.op==24))=true:=by rw[c2];rfl
      show go _ _ _ (ao3 _ _ (.tup [.sl [],.int 9]))
      repeat'(first|refine yz ?_|refine yi (cu1 x) hx ?_|refine bl5 rfl rfl rfl rfl rfl rfl rfl ?_|refine yp b61 h1 ?_|refine yp b58 h2 ?_|refine yp b62 h3 ?_|refine yp b63 h4 ?_|refine yx ?_|exact zL)
     |true=>
      rw[c2]at hat;have c3:(!(x.e.op==24))=false:=by rw[c2];rfl
      cases hc with
      |true=>
       simp[by8]at hq
      |false=>
       show go _ _ _ (ao3 _ _ (.tup [.sl ((dq6 true cols (b.it.drop (i+1)) ([]++ [x.asn])).1.map .str),.int (dq6 true cols (b.it.drop (i+1)) ([]++ [x.asn])).2]));have hnew:dq6 true cols b.it []=dq6 true cols (b.it.drop (i+1)) ([]++ [x.asn]):=by rw[ok,hat,hz,hw];rfl
       rw[←hnew]
       repeat'(first|refine yz ?_|refine yi (cu1 x) hx ?_|refine bl5 rfl rfl rfl rfl rfl rfl rfl ?_|refine yp b61 h1 ?_|refine yp b58 h2 ?_|refine yp b62 h3 ?_|refine yp b63 h4 ?_|refine yp b60 hcon ?_|(refine qS rfl ⟨by simp,fun d hd=>by(obtain rfl:=ga4.1 hd;rfl),by(show _*16≤140737488355328;simp;try omega),by(show _≤9223372036854775807;simp;try omega)⟩ ?_)|refine yx ?_)
       refine ac2 ?_;exact⟨⟨i+1,[]++ [x.asn],by omega,by simp only[fy8,fy7,fz2]at*;omega,hnew⟩,by dsimp only;omega,(bi7 [0,2])⟩
  |a::q,ho,ok=>
   dsimp only[bh5,ay0,List.map,List.append,HAppend.hAppend,Append.append];have hcon:=dx0 (a::q) x.asn;generalize hq:by8 (a::q) x.asn=hc at*
   cases hz:ct5 x.e !=0 with
   |true=>
    rw[cond_true,hz,cond_true];generalize ct5 x.e=z at*;show go _ _ _ (ao3 _ _ (.tup [.sl [],.int z]))
    repeat'(first|refine yz ?_|refine yi (cu1 x) hx ?_|refine bl5 rfl rfl rfl rfl rfl rfl rfl ?_|refine yp b61 h1 ?_|exact zL)
   |false=>
   have h0:ct5 x.e=0:=by simpa using hz
   rw[h0]at h1;rw[cond_false];clear h0
   cases hw:cs4 x.asn with
   |false=>
    rw[hw]at h2;show go _ _ _ (ao3 _ _ (.tup [.sl [],.int 6]))
    repeat'(first|refine yz ?_|refine yi (cu1 x) hx ?_|refine bl5 rfl rfl rfl rfl rfl rfl rfl ?_|refine yp b61 h1 ?_|refine yp b58 h2 ?_|(refine yy ?_ ?_<;>intro _)|exact zL)
   |true=>
   rw[hw]at h2
   cases kn with
   |false=>
    show go _ _ _ (ao3 _ _ (.tup [.sl [],.int 6]))
    repeat'(first|refine yz ?_|refine yi (cu1 x) hx ?_|refine bl5 rfl rfl rfl rfl rfl rfl rfl ?_|refine yp b61 h1 ?_|refine yp b58 h2 ?_|refine yp b62 h3 ?_|(refine yy ?_ ?_<;>intro _)|exact zL)
   |true=>
   cases ha with
   |false=>
    cases g8 with
    |false=>
     cases hc with
     |true=>
      show go _ _ _ (ao3 _ _ (.tup [.sl [],.int 7]))
      repeat'(first|refine yz ?_|refine yi (cu1 x) hx ?_|refine bl5 rfl rfl rfl rfl rfl rfl rfl ?_|refine yp b61 h1 ?_|refine yp b58 h2 ?_|refine yp b62 h3 ?_|refine yp b63 h4 ?_|refine yc [1] b60 (hcon) ?_|refine yx ?_|exact zL)
     |false=>
      show go _ _ _ (ao3 _ _ (.tup [.sl ((dq6 false cols (b.it.drop (i+1)) ((a::q)++ [x.asn])).1.map .str),.int (dq6 false cols (b.it.drop (i+1)) ((a::q)++ [x.asn])).2]));have hnl:q.length≤24:=by simp only[fy7]at ho;omega
      have hnew:dq6 false cols b.it []=dq6 false cols (b.it.drop (i+1)) ((a::q)++ [x.asn]):=by rw[ok,hat,hz,hw];rfl
      rw[←hnew]
      repeat'(first|refine yz ?_|refine yi (cu1 x) hx ?_|refine bl5 rfl rfl rfl rfl rfl rfl rfl ?_|refine yp b61 h1 ?_|refine yp b58 h2 ?_|refine yp b62 h3 ?_|refine yp b63 h4 ?_|refine yc [1] b60 (hcon) ?_|(refine qS rfl ⟨by simp,fun d hd=>by(obtain rfl:=ga4.1 hd;rfl),by(show _*16≤140737488355328;simp;try omega),by(show _≤9223372036854775807;simp;try omega)⟩ ?_)|refine yx ?_)
      refine ac2 ?_;have hmap:(a::q++ [x.asn]).map D.str=(D.str a::List.map D.str q)++ [D.str x.asn]:=Oc
      refine⟨⟨i+1,a::q++ [x.asn],by omega,by simp only[fy8,fy7,fz2]at*;omega,hnew⟩,by dsimp only;omega,?_⟩;dsimp only;rw[hmap];exact(bi7 [0,3])
    |true=>
     cases hc with
     |true=>
      show go _ _ _ (ao3 _ _ (.tup [.sl [],.int 7]))
      repeat'(first|refine yz ?_|refine yi (cu1 x) hx ?_|refine bl5 rfl rfl rfl rfl rfl rfl rfl ?_|refine yp b61 h1 ?_|refine yp b58 h2 ?_|refine yp b62 h3 ?_|refine yp b63 h4 ?_|refine yc [1] b60 (hcon) ?_|refine yx ?_|exact zL)
     |false=>
      show go _ _ _ (ao3 _ _ (.tup [.sl ((dq6 true cols (b.it.drop (i+1)) ((a::q)++ [x.asn])).1.map .str),.int (dq6 true cols (b.it.drop (i+1)) ((a::q)++ [x.asn])).2]));have hnl:q.length≤24:=by simp only[fy7]at ho;omega
      have hnew:dq6 true cols b.it []=dq6 true cols (b.it.drop (i+1)) ((a::q)++ [x.asn]):=by rw[ok,hat,hz,hw];rfl
      rw[←hnew]
      repeat'(first|refine yz ?_|refine yi (cu1 x) hx ?_|refine bl5 rfl rfl rfl rfl rfl rfl rfl ?_|refine yp b61 h1 ?_|refine yp b58 h2 ?_|refine yp b62 h3 ?_|refine yp b63 h4 ?_|refine yc [1] b60 (hcon) ?_|(refine qS rfl ⟨by simp,fun d hd=>by(obtain rfl:=ga4.1 hd;rfl),by(show _*16≤140737488355328;simp;try omega),by(show _≤9223372036854775807;simp;try omega)⟩ ?_)|refine yx ?_)
      refine ac2 ?_;have hmap:(a::q++ [x.asn]).map D.str=(D.str a::List.map D.str q)++ [D.str x.asn]:=Oc
      refine⟨⟨i+1,a::q++ [x.asn],by omega,by simp only[fy8,fy7,fz2]at*;omega,hnew⟩,by dsimp only;omega,?_⟩;dsimp only;rw[hmap];exact(bi7 [0,3])
   |true=>
    cases g8 with
    |false=>
     show go _ _ _ (ao3 _ _ (.tup [.sl [],.int 9]))
     repeat'(first|refine yz ?_|refine yi (cu1 x) hx ?_|refine bl5 rfl rfl rfl rfl rfl rfl rfl ?_|refine yp b61 h1 ?_|refine yp b58 h2 ?_|refine yp b62 h3 ?_|refine yp b63 h4 ?_|refine yx ?_|exact zL)
    |true=>
     cases c2:x.e.op==24 with
     |false=>
      have c3:(!(x.e.op==24))=true:=by rw[c2];rfl
      show go _ _ _ (ao3 _ _ (.tup [.sl [],.int 9]))
      repeat'(first|refine yz ?_|refine yi (cu1 x) hx ?_|refine bl5 rfl rfl rfl rfl rfl rfl rfl ?_|refine yp b61 h1 ?_|refine yp b58 h2 ?_|refine yp b62 h3 ?_|refine yp b63 h4 ?_|refine yx ?_|exact zL)
     |true=>
      rw[c2]at hat;have c3:(!(x.e.op==24))=false:=by rw[c2];rfl
      cases hc with
      |true=>
       show go _ _ _ (ao3 _ _ (.tup [.sl [],.int 7]))
       repeat'(first|refine yz ?_|refine yi (cu1 x) hx ?_|refine bl5 rfl rfl rfl rfl rfl rfl rfl ?_|refine yp b61 h1 ?_|refine yp b58 h2 ?_|refine yp b62 h3 ?_|refine yp b63 h4 ?_|refine yc [1] b60 (hcon) ?_|refine yx ?_|exact zL)
      |false=>
       show go _ _ _ (ao3 _ _ (.tup [.sl ((dq6 true cols (b.it.drop (i+1)) ((a::q)++ [x.asn])).1.map .str),.int (dq6 true cols (b.it.drop (i+1)) ((a::q)++ [x.asn])).2]));have hnl:q.length≤24:=by simp only[fy7]at ho;omega
       have hnew:dq6 true cols b.it []=dq6 true cols (b.it.drop (i+1)) ((a::q)++ [x.asn]):=by rw[ok,hat,hz,hw];rfl
       rw[←hnew]
       repeat'(first|refine yz ?_|refine yi (cu1 x) hx ?_|refine bl5 rfl rfl rfl rfl rfl rfl rfl ?_|refine yp b61 h1 ?_|refine yp b58 h2 ?_|refine yp b62 h3 ?_|refine yp b63 h4 ?_|refine yc [1] b60 (hcon) ?_|(refine qS rfl ⟨by simp,fun d hd=>by(obtain rfl:=ga4.1 hd;rfl),by(show _*16≤140737488355328;simp;try omega),by(show _≤9223372036854775807;simp;try omega)⟩ ?_)|refine yx ?_)
       refine ac2 ?_;have hmap:(a::q++ [x.asn]).map D.str=(D.str a::List.map D.str q)++ [D.str x.asn]:=Oc
       refine⟨⟨i+1,a::q++ [x.asn],by omega,by simp only[fy8,fy7,fz2]at*;omega,hnew⟩,by dsimp only;omega,?_⟩;dsimp only;rw[hmap];exact(bi7 [0,3])
 ·have g2:decide ((i:Int)<((b.it.map cu1).length:Int))=false:=by rw[hle];simp;omega
  rw[ok,ga2 hge,dq6]
  match out with
  |[]=>
   dsimp only[bh5,ay0,List.map]
   exact Om
  |a::q=>
   dsimp only[bh5,ay0,List.map];refine av3 1 rfl ?_;dsimp only[as7,as6,as9,as8,List.map,List.set]
   exact Om
abbrev rS(l:List ByteArray):aa5:=.row 9 1 (l.map .str)
def fS(k:Nat):List ByteArray→X
 |[]=>.nilS
 |_::_=>.own k
def gS:List ByteArray→aa5
 |[]=>.dead
 |x::r=>rS (x::r)
structure dx3(P:Prop):Prop where
 h:P
theorem dx4{C:Cx}{r:List It}{s:St}{Q:Exit→St→Prop}{α:Type}(id t:Nat){l:Array Oper}{d:Bool}{a b:Code}{c:Code}(S:α→St)(b0:α)(h1:dx3 (go C (.code (.seq (.region id l d) (.cond (.tmp t) a b)):: .stop (fun s'=>∃b,b=b0∧Le C s' (S b)):: .code c::r) s Q))
  (h2:dx3 (go C (.code c::r) (S b0) Q)):go C (.code (.seq (.region id l d) (.cond (.tmp t) a b)):: .code c::r) s Q:=by
 refine be8 _ h1.h ?_;rintro s' ⟨b,rfl,hl⟩;exact ac7 hl h2.h
theorem dx5{s:ByteArray}(h:s0B s=true):EvS E 69 [.nilS,.d (.str s)] [] .nilS []:=by
 have g0:(s.toList==(⟨#[]⟩:ByteArray).toList)=true:=h;refine yn func69 ntmps69 fun _ _ _ _=>?_
 repeat'(first|refine yz ?_|refine bc6 [] rfl rfl rfl rfl rfl ?_|refine yx ?_)
 all_goals rfl
theorem dx6{s:ByteArray}(h:s0B s=false):EvS E 69 [.nilS,.d (.str s)] [] (.own 0) [rS [s]]:=by
 have g0:(s.toList==(⟨#[]⟩:ByteArray).toList)=false:=h;have hc:=cb1 [] s;have hc:Ev E 60 [.sl [],.str s] (.d (.bool false)):=hc;refine yn func69 ntmps69 fun _ _ _ _=>?_
 repeat'(first|refine yz ?_|refine yp b60 hc ?_|(refine qS rfl ⟨by simp,fun d hd=>by(obtain rfl:=ga4.1 hd;rfl),by(show(0+1)*16≤140737488355328;omega),by(show 0+1≤9223372036854775807;omega)⟩ ?_)|refine bc6 [0] rfl rfl rfl rfl rfl ?_|refine yx ?_)
 all_goals rfl
theorem dx7{s:ByteArray}{l:List ByteArray}(h:(s0B s||by8 l s)=true):EvS E 69 [.own 0,.d (.str s)] [rS l] (.own 0) [rS l]:=by
 have hc:=dx0 l s
 cases h0:s0B s with
 |true=>
  have g0:(s.toList==(⟨#[]⟩:ByteArray).toList)=true:=h0;refine yn func69 ntmps69 fun _ _ _ _=>?_
  repeat'(first|refine yz ?_|refine bc6 [0] rfl rfl rfl rfl rfl ?_|refine yx ?_)
  all_goals rfl
 |false=>
  have g0:(s.toList==(⟨#[]⟩:ByteArray).toList)=false:=h0;rw[h0,gd0]at h;rw[h]at hc;refine yn func69 ntmps69 fun _ _ _ _=>?_
  repeat'(first|refine yz ?_|refine yc [0] b60 (hc) ?_|refine bc6 [0] rfl rfl rfl rfl rfl ?_|refine yx ?_)
  all_goals rfl
theorem dx8{s:ByteArray}{l:List ByteArray}(h:(s0B s||by8 l s)=false)(hl:l.length≤1000000):EvS E 69 [.own 0,.d (.str s)] [rS l] (.own 1) [.dead,rS (l++ [s])]:=by
 have hc:=dx0 l s;rw[gb3]at h;have g0:(s.toList==(⟨#[]⟩:ByteArray).toList)=false:=h.1;rw[h.2]at hc;have hle:(l.map D.str).length=l.length:=Oc
 have hm:(l++ [s]).map D.str=l.map D.str++ [.str s]:=Oc
 unfold rS;rw[hm];refine yn func69 ntmps69 fun _ _ _ _=>?_
 repeat'(first|refine yz ?_|refine yc [0] b60 (hc) ?_|(refine qS rfl ⟨by simp,fun d hd=>by(obtain rfl:=ga4.1 hd;rfl),by(show((l.map D.str).length+1)*16≤140737488355328;omega),by(show(l.map D.str).length+1≤9223372036854775807;omega)⟩ ?_)|refine bc6 [0,1] rfl rfl rfl rfl rfl ?_|refine yx ?_)
 all_goals rfl
def nE(es:List EP)(i:Nat):List ByteArray:=(es[i]?).toList.map EP.vr
def nN(ns:List NP)(i:Nat):List ByteArray:=(ns[i]?).toList.map NP.vr
def nB(es:List EP):Nat→List ByteArray
 |0=>[]
 |j+1=>nE es j
def rnd(ns:List NP)(es:List EP)(i:Nat):List ByteArray:=nB es i++nN ns i
def dx9(ns:List NP)(es:List EP)(i:Nat):List ByteArray:=nN ns i++nE es i
theorem dy0{f:Nat→List ByteArray}(n:Nat):(List.range (n+1)).flatMap f=(List.range n).flatMap f++f n:=by rw[List.range_succ,gi0];simp
theorem dy1(ns:List NP)(es:List EP):∀n,(List.range (n+1)).flatMap (rnd ns es)=(List.range n).flatMap (dx9 ns es)++nN ns n
 |0=>by simp[rnd,nB]
 |n+1=>by rw[dy0,dy1 ns es n,dy0];simp[rnd,dx9,nB]
theorem dy2{f:Nat→List ByteArray}(h:∀i,f i=[])(n:Nat):(List.range n).flatMap f=[]:=by
 rw[List.flatMap_eq_nil_iff];intro i _;exact h i
theorem dy3{f g:Nat→List ByteArray}(h:∀i,f (i+1)=g i):∀n,(List.range (n+1)).flatMap f=f 0++(List.range n).flatMap g
 |0=>by simp
 |n+1=>by rw[dy0,dy3 h n,dy0,h];simp
theorem dy4:∀(ns:List NP) (es:List EP) (n:Nat),ns.length≤n→es.length≤n→(List.range n).flatMap (dx9 ns es)=dp9 ns es
 |[],[],n,_,_=>by rw[dp9,gd8];exact dy2 (fun i=>by simp[dx9,nN,nE]) n
 |[],e::q,n,_,h=>by
  match n,h with
  |n+1,h=>
   rw[dp9,fz7,dy3 (g:=dx9 [] q) (fun i=>by simp[dx9,nN,nE]),dy4 [] q n Oc (by simpa using h)];simp[dx9,nN,nE,dp9]
 |a::r,[],n,h,_=>by
  match n,h with
  |n+1,h=>
   rw[dp9,dy3 (g:=dx9 r []) (fun i=>by simp[dx9,nN,nE]),dy4 r [] n (by simpa using h) Oc]
   cases r<;>simp[dx9,nN,nE,dp9]
 |a::r,e::q,n,h1,h2=>by
  match n,h1,h2 with
  |n+1,h1,h2=>
   rw[dp9,dy3 (g:=dx9 r q) (fun i=>by simp[dx9,nN,nE]),dy4 r q n (by simpa using h1) (by simpa using h2)];simp[dx9,nN,nE]
theorem dy5(ns:List NP)(es:List EP){n:Nat}(hn:n=max ns.length (es.length+1)):(List.range n).flatMap (rnd ns es)=dp9 ns es:=by
 obtain⟨m,rfl⟩:∃m,n=m+1:=⟨n-1,by omega⟩;rw[dy1,←dy4 ns es (m+1) Oa Oa,dy0];have:nE es m=[]:=by unfold nE;rw[gc5 Oa];rfl
 rw[dx9,this,ge7]
def dy6(l:List ByteArray)(ns:List ByteArray):List ByteArray:=ns.foldl dp8 l
theorem dy7(l a b:List ByteArray):dy6 l (a++b)=dy6 (dy6 l a) b:=by unfold dy6;rw[List.foldl_append]
theorem dy8:∀(ns l:List ByteArray),(dy6 l ns).length≤l.length+ns.length
 |[],l=>by simp[dy6]
 |s::r,l=>by
  have h1:=dy8 r (dp8 l s);have h2:(dp8 l s).length≤l.length+1:=by unfold dp8;cases s0B s||by8 l s<;>simp
  show(dy6 (dp8 l s) r).length≤_;simp only[fy7];omega
theorem dy9{l:List ByteArray}{s:ByteArray}(h:(s0B s||by8 l s)=true):dp8 l s=l:=by unfold dp8;rw[h];rfl
theorem dz0{l:List ByteArray}{s:ByteArray}(h:(s0B s||by8 l s)=false):dp8 l s=l++ [s]:=by unfold dp8;rw[h];rfl
abbrev oPAp(p:PA):aa5:=.var 69 (.w (.d (cu0 p)))
structure SVi(M:Nat) where
 j:Nat
 hj:j≤M
structure SVo(l:List PA) where
 i:Nat
 hi:i≤l.length
theorem nN_at{ns:List NP}{i:Nat}{x:NP}(h:ns[i]? =some x):nN ns i=[x.vr]:=by unfold nN;rw[h];rfl
theorem dz1{ns:List NP}{i:Nat}(h:ns.length≤i):nN ns i=[]:=by unfold nN;rw[gc5 h];rfl
theorem nE_at{es:List EP}{i:Nat}{x:EP}(h:es[i]? =some x):nE es i=[x.vr]:=by unfold nE;rw[h];rfl
theorem dz2{es:List EP}{i:Nat}(h:es.length≤i):nE es i=[]:=by unfold nE;rw[gc5 h];rfl
theorem dz3(l:List ByteArray)(s:ByteArray):(l++ [s]).map D.str=l.map D.str++ [.str s]:=Oc
set_option maxHeartbeats 4000000 in
theorem dz4(l:List PA)(hsm:(dq0 l).length≤900000)(hn:∀p∈l,p.ns.length≤1000000∧p.es.length≤1000000):Ev E 41 [.sl (l.map cu0)] (.d (.sl ((dq1 l).map .str))):=Ev.fit fun hfit=>by
 have hmax:=(cz2 (hfit (.sl (l.map cu0)) Oc)).1;have hle:(l.map cu0).length=l.length:=Oc
 refine ye1 func41 ntmps41 fun _ _ _=>?_
 repeat'(refine yz ?_)
 refine bl9 ?_;refine ac8 (α:=SVo l) (fun p=>⟨[(3,fS 0 (dy6 [] (dq0 (l.take p.i)))),(7,.d (.sl (l.map cu0))),(8,.d (.int (l.map cu0).length)),(9,.d (.int p.i))],[gS (dy6 [] (dq0 (l.take p.i)))]⟩) (fun p=>l.length-p.i) ⟨0,by omega⟩ (zle 1) ?_;rintro⟨i,hi⟩;dsimp only;rcases fy5 i l.length with hlt|hge
 ·have g1:decide ((i:Int)<((l.map cu0).length:Int))=true:=by rw[hle];simpa using hlt
  have hx0:=fy4 hlt;generalize l[i]=p at hx0;have hx:=cz1 (f:=cu0) hx0;have hpm:=fy6 hx0;obtain⟨hns,hes⟩:=hn p hpm;have hln:(p.ns.map ct8).length=p.ns.length:=Oc
  have hlee:(p.es.map ct9).length=p.es.length:=Oc
  have htk:dq0 (l.take (i+1))=dq0 (l.take i)++(dp9 p.ns p.es++ [p.vr]):=by unfold dq0;rw[gd7,hx0,gi0];simp
  have hbnd:(dq0 (l.take (i+1))).length≤900000:=by
   have h:dq0 l=dq0 (l.take (i+1))++dq0 (l.drop (i+1)):=by unfold dq0;rw[←gi0,gf7]
   have:=congrArg List.length h;rw[fy8]at this;omega
  rw[htk,fy8,fy8]at hbnd;simp only[fy7,fz2]at hbnd;obtain⟨L0,hL0⟩:∃L0,L0=dy6 [] (dq0 (l.take i)):=⟨_,rfl⟩;have hL0l:L0.length≤(dq0 (l.take i)).length:=by rw[hL0];have:=dy8 (dq0 (l.take i)) [];simpa using this
  have hend:dy6 [] (dq0 (l.take (i+1)))=dp8 (dy6 L0 (dp9 p.ns p.es)) p.vr:=by rw[htk,dy7,dy7,←hL0];rfl
  rw[←hL0];clear hL0;obtain⟨M,hM⟩:∃M,M=max p.ns.length (p.es.length+1):=⟨_,rfl⟩;have hMx:(max ((p.ns.map ct8).length:Int) (((p.es.map ct9).length:Int)+1))=(M:Int):=by rw[hln,hlee,hM];omega
  have hin:∀j,j≤M→(dy6 L0 ((List.range j).flatMap (rnd p.ns p.es))).length≤900000:=fun j hj=>by
   have h1:=dy8 ((List.range j).flatMap (rnd p.ns p.es)) L0
   have h2:((List.range j).flatMap (rnd p.ns p.es)).length≤(dp9 p.ns p.es).length:=by
    have h3:=dy5 p.ns p.es hM
    have h4:List.range M=List.range j++(List.range M).drop j:=by
     have h5:=gf7 j (List.range M);rw[List.take_range,Nat.min_eq_left hj]at h5;exact h5.symm
    rw[h4,gi0]at h3;have:=congrArg List.length h3;rw[fy8]at this;omega
   omega
  repeat'(first|refine yz ?_|refine yi (cu0 p) hx ?_)
  refine ac8 (α:=SVi M) (fun q=>⟨[(3,fS 0 (dy6 L0 ((List.range q.j).flatMap (rnd p.ns p.es)))),(5,.ptr 1 0),(7,.d (.sl (l.map cu0))),(8,.d (.int (l.map cu0).length)),(9,.d (.int i)),(20,.d (.int (max ((p.ns.map ct8).length:Int) (((p.es.map ct9).length:Int)+1)))),(21,.d (.int q.j))],[gS (dy6 L0 ((List.range q.j).flatMap (rnd p.ns p.es))),oPAp p]⟩) (fun q=>M-q.j) ⟨0,by omega⟩ (by
   dsimp only;show Le _ _ ⟨[(3,fS 0 L0),_,_,_,_,_,_],[gS L0,_]⟩;rcases L0 with _|⟨a0,q0⟩<;>exact(zle 2)) ?_
  rintro⟨j,hj⟩;dsimp only;have hL1b:=hin j hj;have hnext:dy6 L0 ((List.range (j+1)).flatMap (rnd p.ns p.es))=dy6 (dy6 (dy6 L0 ((List.range j).flatMap (rnd p.ns p.es))) (nB p.es j)) (nN p.ns j):=by rw[dy0,dy7,rnd,dy7]
  have hlast:j=M→dy6 L0 ((List.range j).flatMap (rnd p.ns p.es))=dy6 L0 (dp9 p.ns p.es):=fun h=>by rw[h,dy5 p.ns p.es hM]
  clear hin;generalize dy6 L0 ((List.range j).flatMap (rnd p.ns p.es))=L1 at*
  have hL2b:(dy6 L1 (nB p.es j)).length≤900001:=by
   have h1:=dy8 (nB p.es j) L1
   have h2:(nB p.es j).length≤1:=by
    cases j with
    |zero=>simp[nB]
    |succ j=>simp only[nB,nE,fz3];cases p.es[j]? <;>simp
   omega
  have hnode:(∃n,decide ((j:Int)<((p.ns.map ct8).length:Int))=true∧(p.ns.map ct8)[((j:Nat):Int).toNat]? =some (ct8 n)∧nN p.ns j=[n.vr])∨(decide ((j:Int)<((p.ns.map ct8).length:Int))=false∧nN p.ns j=[]):=by
   rcases fy5 j p.ns.length with h|h
   ·have h0:=fy4 h;exact .inl ⟨_,by rw[hln];simpa using h,cz1 (f:=ct8) h0,nN_at h0⟩
   ·exact .inr ⟨by rw[hln];simp;omega,dz1 h⟩
  have hedge:(decide ((j:Int)>0)=false∧nB p.es j=[])∨(decide ((j:Int)>0)=true∧decide ((j:Int)≤((p.es.map ct9).length:Int))=false∧nB p.es j=[])∨(∃e,decide ((j:Int)>0)=true∧decide ((j:Int)≤((p.es.map ct9).length:Int))=true∧(p.es.map ct9)[((j:Int) -1).toNat]? =some (ct9 e)∧nB p.es j=[e.vr]):=by
   match j with
   |0=>exact .inl ⟨rfl,rfl⟩
   |k+1=>
    rcases fy5 k p.es.length with h|h
    ·have h0:=fy4 h;refine .inr (.inr ⟨_,decide_eq_true Oa,by rw[hlee];exact decide_eq_true Oa,?_,nE_at h0⟩);have e1:(((k+1:Nat):Int) -1).toNat=k:=by omega
     rw[e1,fz1,h0];rfl
    ·exact .inr (.inl ⟨decide_eq_true Oa,by rw[hlee];exact decide_eq_false Oa,dz2 h⟩)
  rcases fy5 j M with hlj|hgj
  ·have g2:decide ((j:Int)<(max ((p.ns.map ct8).length:Int) (((p.es.map ct9).length:Int)+1)))=true:=by rw[hMx];simpa using hlj
   repeat'(first|(refine dx4 8 32 (fun(_:Unit)=>⟨[(3,fS 0 (dy6 L1 (nB p.es j))),(5,.ptr 1 0),(6,.d (.int j)),(7,.d (.sl (l.map cu0))),(8,.d (.int (l.map cu0).length)),(9,.d (.int i)),(20,.d (.int (max ((p.ns.map ct8).length:Int) (((p.es.map ct9).length:Int)+1)))),(21,.d (.int j))],[gS (dy6 L1 (nB p.es j)),oPAp p]⟩) () ?_ ?_)|refine yz ?_)
   ·refine⟨?_⟩;rcases hedge with⟨e1,hnB⟩|⟨e1,e2,hnB⟩|⟨e,e1,e2,hxe,hnB⟩
    ·have hE:dy6 L1 (nB p.es j)=L1:=by rw[hnB];rfl
     rcases L1 with _|⟨a,q⟩
     ·dsimp only[fS,gS]
      repeat'(first|refine yz ?_|refine yx ?_)
      refine ac2 ?_;refine⟨(),rfl,?_⟩;rw[hE];exact(zle 2)
     ·dsimp only[fS,gS]
      repeat'(first|refine yz ?_|refine yx ?_)
      refine ac2 ?_;refine⟨(),rfl,?_⟩;rw[hE];exact(zle 2)
    ·have hE:dy6 L1 (nB p.es j)=L1:=by rw[hnB];rfl
     rcases L1 with _|⟨a,q⟩
     ·dsimp only[fS,gS]
      repeat'(first|refine yz ?_|refine yx ?_)
      refine ac2 ?_;refine⟨(),rfl,?_⟩;rw[hE];exact(zle 2)
     ·dsimp only[fS,gS]
      repeat'(first|refine yz ?_|refine yx ?_)
      refine ac2 ?_;refine⟨(),rfl,?_⟩;rw[hE];exact(zle 2)
    ·have hE:dy6 L1 (nB p.es j)=dp8 L1 e.vr:=by rw[hnB];rfl
     have f1:=of_decide_eq_true e1;have f2:=of_decide_eq_true e2;clear hnext hL2b hlast
     cases hsk:s0B e.vr||by8 L1 e.vr with
     |true=>
      have hL2:=dy9 hsk
      match L1,hsk,hL2,hL1b with
      |[],hsk,hL2,hL1b=>
       dsimp only[fS,gS];have hs0:s0B e.vr=true:=by simpa[by8]using hsk
       repeat'(first|refine yz ?_|refine yi (ct9 e) hxe ?_|refine bp1 [] rfl rfl rfl rfl (FnX.plain _) b69 ((dx5 (s:=e.vr) hs0)) rfl rfl rfl rfl rfl ?_|refine yx ?_)
       refine ac2 ?_;refine⟨(),rfl,?_⟩;rw[hE,hL2];exact(zle 2)
      |a::q,hsk,hL2,hL1b=>
       dsimp only[fS,gS]
       repeat'(first|refine yz ?_|refine yi (ct9 e) hxe ?_|refine yc [0] b69 (dx7 (l:=a::q) (s:=e.vr) hsk) ?_|refine yx ?_)
       refine ac2 ?_;refine⟨(),rfl,?_⟩;rw[hE,hL2];exact(zle 2)
     |false=>
      have hL2:=dz0 hsk
      match L1,hsk,hL2,hL1b with
      |[],hsk,hL2,hL1b=>
       dsimp only[fS,gS];have hs0:s0B e.vr=false:=by simpa[by8]using hsk
       repeat'(first|refine yz ?_|refine yi (ct9 e) hxe ?_|refine bp1 [] rfl rfl rfl rfl (FnX.plain _) b69 ((dx6 (s:=e.vr) hs0)) rfl rfl rfl rfl rfl ?_|refine yx ?_)
       refine ac2 ?_;refine⟨(),rfl,?_⟩;rw[hE,hL2];exact(bi7 [2,1])
      |a::q,hsk,hL2,hL1b=>
       dsimp only[fS,gS]
       repeat'(first|refine yz ?_|refine yi (ct9 e) hxe ?_|refine bc1 [0] rfl rfl rfl rfl (FnX.plain _) b69 ((dx8 (l:=a::q) (s:=e.vr) hsk (by simp only[fy7]at*;omega))) rfl rfl rfl rfl rfl ?_|refine yx ?_)
       refine ac2 ?_;refine⟨(),rfl,?_⟩;rw[hE,hL2];exact(bi7 [2,1])
   ·refine⟨?_⟩;generalize dy6 L1 (nB p.es j)=L2 at*;rcases hnode with⟨n,gn,hxn,hnN⟩|⟨gn,hnN⟩
    ·rw[hnN]at hnext;have hnext:dy6 L0 ((List.range (j+1)).flatMap (rnd p.ns p.es))=dp8 L2 n.vr:=hnext
     cases hsk:s0B n.vr||by8 L2 n.vr with
     |true=>
      have hL2:=dy9 hsk
      match L2,hsk,hL2,hL2b with
      |[],hsk,hL2,hL2b=>
       dsimp only[fS,gS];have hs0:s0B n.vr=true:=by simpa[by8]using hsk
       repeat'(first|refine yz ?_|refine yi (ct8 n) hxn ?_|refine bp1 [] rfl rfl rfl rfl (FnX.plain _) b69 ((dx5 (s:=n.vr) hs0)) rfl rfl rfl rfl rfl ?_)
       refine ac2 ?_;refine⟨⟨j+1,by omega⟩,by dsimp only;omega,?_⟩;dsimp only;rw[hnext,hL2];exact(zle 2)
      |a::q,hsk,hL2,hL2b=>
       dsimp only[fS,gS]
       repeat'(first|refine yz ?_|refine yi (ct8 n) hxn ?_|refine yc [0] b69 (dx7 (l:=a::q) (s:=n.vr) hsk) ?_)
       refine ac2 ?_;refine⟨⟨j+1,by omega⟩,by dsimp only;omega,?_⟩;dsimp only;rw[hnext,hL2];exact(zle 2)
     |false=>
      have hL2:=dz0 hsk
      match L2,hsk,hL2,hL2b with
      |[],hsk,hL2,hL2b=>
       dsimp only[fS,gS];have hs0:s0B n.vr=false:=by simpa[by8]using hsk
       repeat'(first|refine yz ?_|refine yi (ct8 n) hxn ?_|refine bp1 [] rfl rfl rfl rfl (FnX.plain _) b69 ((dx6 (s:=n.vr) hs0)) rfl rfl rfl rfl rfl ?_)
       refine ac2 ?_;refine⟨⟨j+1,by omega⟩,by dsimp only;omega,?_⟩;dsimp only;rw[hnext,hL2];exact(bi7 [2,1])
      |a::q,hsk,hL2,hL2b=>
       dsimp only[fS,gS]
       repeat'(first|refine yz ?_|refine yi (ct8 n) hxn ?_|refine bc1 [0] rfl rfl rfl rfl (FnX.plain _) b69 ((dx8 (l:=a::q) (s:=n.vr) hsk (by simp only[fy7]at*;omega))) rfl rfl rfl rfl rfl ?_)
       refine ac2 ?_;refine⟨⟨j+1,by omega⟩,by dsimp only;omega,?_⟩;dsimp only;rw[hnext,hL2];exact(bi7 [2,1])
    ·rw[hnN]at hnext;have hnext:dy6 L0 ((List.range (j+1)).flatMap (rnd p.ns p.es))=L2:=hnext;rcases L2 with _|⟨a,q⟩
     ·dsimp only[fS,gS]
      repeat'(refine yz ?_)
      refine ac2 ?_;refine⟨⟨j+1,by omega⟩,by dsimp only;omega,?_⟩;dsimp only;rw[hnext];exact(zle 2)
     ·dsimp only[fS,gS]
      repeat'(refine yz ?_)
      refine ac2 ?_;refine⟨⟨j+1,by omega⟩,by dsimp only;omega,?_⟩;dsimp only;rw[hnext];exact(zle 2)
  ·have g2:decide ((j:Int)<(max ((p.ns.map ct8).length:Int) (((p.es.map ct9).length:Int)+1)))=false:=by rw[hMx];simp;omega
   rw[←hlast Oa]at hend;clear hnode hedge hnext hlast hL2b
   cases hsk:s0B p.vr||by8 L1 p.vr with
   |true=>
    have hL2:=dy9 hsk
    match L1,hsk,hL2,hL1b with
    |[],hsk,hL2,hL1b=>
     dsimp only[fS,gS];have hs0:s0B p.vr=true:=by simpa[by8]using hsk
     repeat'(first|refine yz ?_|refine bp1 [] rfl rfl rfl rfl (FnX.plain _) b69 ((dx5 (s:=p.vr) hs0)) rfl rfl rfl rfl rfl ?_)
     refine ac2 ?_;refine⟨⟨i+1,by omega⟩,by dsimp only;omega,?_⟩;dsimp only;rw[hend,hL2];exact(zle 1)
    |a::q,hsk,hL2,hL1b=>
     dsimp only[fS,gS]
     repeat'(first|refine yz ?_|refine yc [0] b69 (dx7 (l:=a::q) (s:=p.vr) hsk) ?_)
     refine ac2 ?_;refine⟨⟨i+1,by omega⟩,by dsimp only;omega,?_⟩;dsimp only;rw[hend,hL2];exact(zle 1)
   |false=>
    have hL2:=dz0 hsk
    match L1,hsk,hL2,hL1b with
    |[],hsk,hL2,hL1b=>
     dsimp only[fS,gS];have hs0:s0B p.vr=false:=by simpa[by8]using hsk
     repeat'(first|refine yz ?_|refine bp1 [] rfl rfl rfl rfl (FnX.plain _) b69 ((dx6 (s:=p.vr) hs0)) rfl rfl rfl rfl rfl ?_)
     refine ac2 ?_;refine⟨⟨i+1,by omega⟩,by dsimp only;omega,?_⟩;dsimp only;rw[hend,hL2];exact(bi7 [2])
    |a::q,hsk,hL2,hL1b=>
     dsimp only[fS,gS]
     repeat'(first|refine yz ?_|refine bc1 [0] rfl rfl rfl rfl (FnX.plain _) b69 ((dx8 (l:=a::q) (s:=p.vr) hsk (by simp only[fy7]at*;omega))) rfl rfl rfl rfl rfl ?_)
     refine ac2 ?_;refine⟨⟨i+1,by omega⟩,by dsimp only;omega,?_⟩;dsimp only;rw[hend,hL2];exact(bi7 [2])
 ·have g1:decide ((i:Int)<((l.map cu0).length:Int))=false:=by rw[hle];simp;omega
  rw[ga3 hge];show go _ _ _ (ao3 _ _ (.d (.sl ((dy6 [] (dq0 l)).map .str))));generalize dy6 [] (dq0 l)=o at*
  match o with
  |[]=>
   dsimp only[fS,gS];refine bj5 3 rfl ?_
   exact Om
  |a::q=>
   dsimp only[fS,gS];refine av3 0 rfl ?_;dsimp only[as7,as6,as9,as8,List.map,List.set]
   exact Om
end Go.Proofs.YtndgolmgaenlfaaGreatDoor
namespace Go.Proofs.YtndgolmgaenlfaaGreatDoor
set_option maxRecDepth 4000
open Go Go.Abs Go.Val Go.RowKit Go.Proofs.Tryz
mutual
def alB(Q:PB→Prop):Pl→Prop
 |.mk b ks=>Q b∧dz5 Q ks
def dz5(Q:PB→Prop):List Pl→Prop
 |[]=>True
 |p::r=>alB Q p∧dz5 Q r
end
theorem dz6{Q:PB→Prop}:∀{l:List Pl},dz5 Q l→∀p∈l,alB Q p
 |[],_,_,h=>by cases h
 |a::r,h,p,hp=>by
  rw[dz5]at h;rcases fz0.1 hp with rfl|hp
  ·exact h.1
  ·exact dz6 h.2 p hp
theorem dz7(g:Bool)(cols:List ByteArray):∀(l:List IT) (out:List ByteArray),(dq6 g cols l out).2=0→(dq6 g cols l out).1=out++l.map IT.asn
 |[],out,_=>(ge7 out).symm
 |x::r,out,h0=>by
  rw[dq6]at h0 ⊢
  cases c:dq5 g x cols out !=0 with
  |true=>rw[c,cond_true]at h0;rw[show dq5 g x cols out=0 from h0]at c;cases c
  |false=>
   rw[c,cond_false]at h0;rw[cond_false,dz7 g cols r _ h0,fz7,fz5];rfl
def cwB(b:PB):Nat:=b.cj.vs.length+(dq0 b.cl.ps).length+b.it.length+1
mutual
def cwP:Pl→Nat
 |.mk b ks=>cwB b+dz8 ks
def dz8:List Pl→Nat
 |[]=>0
 |p::r=>cwP p+dz8 r
end
theorem dz9:∀{l:List Pl} {p:Pl},p∈l→cwP p≤dz8 l
 |[],_,h=>by cases h
 |a::r,p,h=>by
  rw[dz8];rcases fz0.1 h with rfl|h
  ·omega
  ·have:=dz9 h;omega
def lnS:List (List ByteArray)→Nat
 |[]=>0
 |c::r=>c.length+lnS r
theorem ea0(a b:List ByteArray):(dp7 a b).length≤a.length+b.length:=by
 unfold dp7;have:=gg5 (fun s=> !(by8 a s)) b;rw[fy8];omega
theorem ea1:∀cols:List (List ByteArray),(cols.getD 0 []).length+(cols.getD 1 []).length≤lnS cols
 |[]=>fz6 _
 |[c]=>by show c.length+0≤c.length+0;omega
 |c::d::r=>by show c.length+d.length≤c.length+(d.length+lnS r);omega
theorem ea2(l:List PA):(dq1 l).length≤(dq0 l).length:=by
 have h:=dy8 (dq0 l) [];unfold dy6 at h;simp only[fz2]at h;unfold dq1;omega
theorem ea3(g:Bool)(cols:List ByteArray)(l:List IT):(dq6 g cols l []).1.length≤l.length:=by
 by_cases h:(dq6 g cols l []).2=0
 ·rw[dz7 g cols l [] h,gb7,fz3];exact fz6 _
 ·rw[ds5 g cols l [] h];exact ga8 _
theorem ea4(e:Int)(c:List ByteArray):(dq9 e c).1.length≤c.length:=by
 unfold dq9
 cases e !=0 with
 |true=>exact ga8 _
 |false=>exact fz6 _
theorem ea5(b:PB)(cols:List (List ByteArray)):(dr0 b cols).1.length≤cwB b+lnS cols:=by
 have h2:=ea1 cols;have hv:=ea2 b.cl.ps;unfold cwB;unfold dr0
 cases dp5 b cols.length with
 |false=>exact ga8 _
 |true=>
 rw[gg0,cond_false]
 cases b.op==1 with
 |true=>exact ga8 _
 |false=>
 rw[cond_false]
 cases b.op==2 with
 |true=>
  rw[cond_true];unfold dq2
  cases dn8 b.cj !=0 with
  |true=>exact ga8 _
  |false=>
   cases b.cj.vs.all fun s=>cs4 s||dp6 s with
   |true=>show b.cj.vs.length≤_;omega
   |false=>exact ga8 _
 |false=>
 rw[cond_false]
 cases b.op==3||b.op==4 with
 |true=>have:=ea0 (cols.getD 0 []) (cols.getD 1 []);show(dp7 _ _).length≤_;omega
 |false=>
 rw[cond_false]
 cases b.op==5 with
 |true=>
  rw[cond_true];have:=ea0 (cols.getD 0 []) (dq1 b.cl.ps);unfold dq4
  cases cw7 b.cl !=0 with
  |true=>exact ga8 _
  |false=>
  cases !((dq3 b.cl.ps).all fun e=>di7 e (cols.getD 0 []))with
  |true=>exact ga8 _
  |false=>
  cases !(b.cl.wh.all fun e=>di7 e (dp7 (cols.getD 0 []) (dq1 b.cl.ps)))with
  |true=>exact ga8 _
  |false=>
  cases b.cl.wh.any cu5 with
  |true=>exact ga8 _
  |false=>show(dp7 _ _).length≤_;omega
 |false=>
 rw[cond_false]
 cases b.op==6 with
 |true=>have:=ea4 (di8 b.e (cols.getD 0 [])) (cols.getD 0 []);rw[cond_true];omega
 |false=>
 rw[cond_false]
 cases b.op==7||b.op==8 with
 |true=>
  rw[cond_true];have:=ea3 (b.op==8) (cols.getD 0 []) b.it
  cases decide (b.it.length>24)with
  |true=>exact ga8 _
  |false=>rw[cond_false];omega
 |false=>
 rw[cond_false]
 cases b.op==9 with
 |true=>show(cols.getD 0 []).length≤_;omega
 |false=>
 rw[cond_false]
 cases b.op==10 with
 |true=>have:=ea4 (dq7 (cols.getD 0 []) b.od) (cols.getD 0 []);rw[cond_true];omega
 |false=>
  have:=ea4 (dq8 b (cols.getD 0 [])) (cols.getD 0 []++ [b.nm]);rw[fy8,fy7,fz2]at this;rw[cond_false];omega
theorem ea6(p:Pl):(dr1 p).1.length≤cwP p:=by
 refine do6 (P:=fun p=>(dr1 p).1.length≤cwP p) (fun b ks ih=>?_) p
 have key:∀l:List Pl,(∀x∈l,(dr1 x).1.length≤cwP x)→lnS (dr2 l).1≤dz8 l:=by
  intro l
  induction l with
  |nil=>intro _;exact fz6 _
  |cons a r ihr=>
   intro h;have h1:=h a Oc;have h2:=ihr fun x hx=>h x (by simp[hx])
   rw[dr2,dz8]
   cases(dr1 a).2 !=0 with
   |true=>exact ga8 _
   |false=>
    cases(dr2 r).2 !=0 with
    |true=>exact ga8 _
    |false=>show(dr1 a).1.length+lnS (dr2 r).1≤_;omega
 have hk:=key ks ih;rw[dr1,cwP]
 cases(dr2 ks).2 !=0 with
 |true=>exact ga8 _
 |false=>
  have:=ea5 b (dr2 ks).1;rw[cond_false];omega
end Go.Proofs.YtndgolmgaenlfaaGreatDoor
namespace Go.Proofs.YtndgolmgaenlfaaGreatDoor
set_option maxRecDepth 4000
open Go Go.Abs Go.Val Go.RowKit Go.Proofs.Tryz
attribute [local irreducible] go SGo an9 Ev aw1 EvO EvS RGo PGo
theorem ea7(cols:List ByteArray)(x:PP)(hx:smE x.e):EvS E 66 [.d (ct7 x),.ptr 0 0] [cl8 cols] (.d (.bool (!di7 x.e cols))) [cl8 cols]:=by
 have h:=dj3 x.e cols hx;refine yn func66 ntmps66 fun _ _ _ _=>?_
 repeat'(first|refine yz ?_|refine yp b62 h ?_|refine bc6 [0] rfl rfl rfl rfl rfl ?_)
 all_goals rfl
theorem ea8(cols:List ByteArray)(l:List PP)(hs:∀x∈l,smE x.e)(hmax:l.length≤9223372036854775807):EvS E 129 [.d (.sl (l.map ct7)),.clo 66 [.ptr 0 0]] [cl8 cols] (.d (.int (cz3 (l.findIdx? fun x=> !di7 x.e cols)))) [cl8 cols]:=by
 have hle:(l.map ct7).length=l.length:=Oc
 refine yn func129 ntmps129 fun _ _ _ _=>?_
 repeat'(refine yz ?_)
 refine ac8 (α:=SFc l fun x=> !di7 x.e cols) (fun p=>⟨[(0,.d (.sl (l.map ct7))),(1,.clo 66 [.ptr 0 0]),(7,.d (.int (l.map ct7).length)),(8,.d (.int p.i))],[cl8 cols]⟩) (fun p=>l.length-p.i) ⟨0,by omega,fun j hj=>absurd hj Oa⟩ (zle 1) ?_;rintro⟨i,hi,ok⟩;dsimp only;rcases fy5 i l.length with hlt|hge
 ·have g1:decide ((i:Int)<((l.map ct7).length:Int))=true:=by rw[hle];simpa using hlt
  have hx0:=fy4 hlt;generalize l[i]=x at hx0;have hx:=cz1 (f:=ct7) hx0;have h1:=ea7 cols x (hs x (fy6 hx0))
  cases hc:di7 x.e cols with
  |false=>
   rw[hc]at h1;rw[cz4 hx0 (show(!di7 x.e cols)=true by rw[hc];rfl) ok]
   repeat'(first|refine yz ?_|refine yi (ct7 x) hx ?_|refine bc1 [0] rfl rfl rfl rfl (FnX.clo _ _) b66 (h1) rfl rfl rfl rfl rfl ?_|refine bc6 [0] rfl rfl rfl rfl rfl ?_)
   all_goals rfl
  |true=>
   rw[hc]at h1
   repeat'(first|refine yz ?_|refine yi (ct7 x) hx ?_|refine bc1 [0] rfl rfl rfl rfl (FnX.clo _ _) b66 (h1) rfl rfl rfl rfl rfl ?_)
   refine ac2 ?_;exact⟨⟨i+1,by omega,SFc.next hx0 (show(!di7 x.e cols)=false by rw[hc];rfl) ok⟩,by dsimp only;omega,(zle 1)⟩
 ·have g1:decide ((i:Int)<((l.map ct7).length:Int))=false:=by rw[hle];simp;omega
  rw[cz5 fun j hj=>ok j Oa]
  repeat'(first|refine yz ?_|refine bc6 [0] rfl rfl rfl rfl rfl ?_)
  all_goals rfl
theorem ea9(cols:List ByteArray)(l:List PP)(hs:∀x∈l,smE x.e)(hmax:l.length≤9223372036854775807):EvS E 65 [.d (.sl (l.map ct7)),.clo 66 [.ptr 0 0]] [cl8 cols] (.d (.bool (l.any fun x=> !di7 x.e cols))) [cl8 cols]:=by
 have h:=ea8 cols l hs hmax;rw[←cz6];refine yn func65 ntmps65 fun _ _ _ _=>?_
 repeat'(first|refine yz ?_|refine yc [0] b129 (h) ?_|refine bc6 [0] rfl rfl rfl rfl rfl ?_)
 all_goals rfl
theorem eb0(cols:List ByteArray)(x:Ex)(hx:smE x):EvS E 68 [.d (bz1 x),.ptr 0 0] [cl8 cols] (.d (.bool (!di7 x cols))) [cl8 cols]:=by
 have h:=dj3 x cols hx;refine yn func68 ntmps68 fun _ _ _ _=>?_
 repeat'(first|refine yz ?_|refine yp b62 h ?_|refine bc6 [0] rfl rfl rfl rfl rfl ?_)
 all_goals rfl
theorem eb1(cols:List ByteArray)(l:List Ex)(hs:∀x∈l,smE x)(hmax:l.length≤9223372036854775807):EvS E 130 [.d (.sl (l.map bz1)),.clo 68 [.ptr 0 0]] [cl8 cols] (.d (.int (cz3 (l.findIdx? fun x=> !di7 x cols)))) [cl8 cols]:=by
 have hle:(l.map bz1).length=l.length:=Oc
 refine yn func130 ntmps130 fun _ _ _ _=>?_
 repeat'(refine yz ?_)
 refine ac8 (α:=SFc l fun x=> !di7 x cols) (fun p=>⟨[(0,.d (.sl (l.map bz1))),(1,.clo 68 [.ptr 0 0]),(7,.d (.int (l.map bz1).length)),(8,.d (.int p.i))],[cl8 cols]⟩) (fun p=>l.length-p.i) ⟨0,by omega,fun j hj=>absurd hj Oa⟩ (zle 1) ?_;rintro⟨i,hi,ok⟩;dsimp only;rcases fy5 i l.length with hlt|hge
 ·have g1:decide ((i:Int)<((l.map bz1).length:Int))=true:=by rw[hle];simpa using hlt
  have hx0:=fy4 hlt;generalize l[i]=x at hx0;have hx:=cz1 (f:=bz1) hx0;have h1:=eb0 cols x (hs x (fy6 hx0))
  cases hc:di7 x cols with
  |false=>
   rw[hc]at h1;rw[cz4 hx0 (show(!di7 x cols)=true by rw[hc];rfl) ok]
   repeat'(first|refine yz ?_|refine yi (bz1 x) hx ?_|refine bc1 [0] rfl rfl rfl rfl (FnX.clo _ _) b68 (h1) rfl rfl rfl rfl rfl ?_|refine bc6 [0] rfl rfl rfl rfl rfl ?_)
   all_goals rfl
  |true=>
   rw[hc]at h1
   repeat'(first|refine yz ?_|refine yi (bz1 x) hx ?_|refine bc1 [0] rfl rfl rfl rfl (FnX.clo _ _) b68 (h1) rfl rfl rfl rfl rfl ?_)
   refine ac2 ?_;exact⟨⟨i+1,by omega,SFc.next hx0 (show(!di7 x cols)=false by rw[hc];rfl) ok⟩,by dsimp only;omega,(zle 1)⟩
 ·have g1:decide ((i:Int)<((l.map bz1).length:Int))=false:=by rw[hle];simp;omega
  rw[cz5 fun j hj=>ok j Oa]
  repeat'(first|refine yz ?_|refine bc6 [0] rfl rfl rfl rfl rfl ?_)
  all_goals rfl
theorem eb2(cols:List ByteArray)(l:List Ex)(hs:∀x∈l,smE x)(hmax:l.length≤9223372036854775807):EvS E 67 [.d (.sl (l.map bz1)),.clo 68 [.ptr 0 0]] [cl8 cols] (.d (.bool (l.any fun x=> !di7 x cols))) [cl8 cols]:=by
 have h:=eb1 cols l hs hmax;rw[←cz6];refine yn func67 ntmps67 fun _ _ _ _=>?_
 repeat'(first|refine yz ?_|refine yc [0] b130 (h) ?_|refine bc6 [0] rfl rfl rfl rfl rfl ?_)
 all_goals rfl
theorem eb3:∀a b:List Pl,dr4 (a++b)=dr4 a+dr4 b
 |[],b=>by rw[gb7,dr4];omega
 |x::r,b=>by rw[gb4,dr4,dr4,eb3 r b];omega
theorem eb4{l:List Pl}{i:Nat}{x:Pl}(h:l[i]? =some x):dr4 (l.take (i+1))=dr4 (l.take i)+szP x:=by
 rw[gd7,h,eb3];show _+dr4 [x]=_;rw[dr4,dr4];omega
theorem eb5(l:List Pl)(i:Nat):dr4 (l.take i)≤dr4 l:=by
 have h:=eb3 (l.take i) (l.drop i);rw[gf7]at h;omega
structure SPiP(n:Nat) where
 i:Nat
 hi:i≤n
theorem eb6(p:Pl):do8 p=do7 p.b (p.ks.map do8):=by obtain⟨b,ks⟩:=p;exact dp1 b ks
theorem eb7(p:Pl):szP p≤1000000→Ev E 13 [do8 p] (.d (.int (szP p))):=by
 refine do6 (P:=fun p=>szP p≤1000000→Ev E 13 [do8 p] (.d (.int (szP p)))) (fun b ks ih hn=>?_) p;rw[szP]at hn;have hle:(ks.map do8).length=ks.length:=Oc
 have hkl:=dr8 ks;rw[dp1,szP];have hrt:((dr4 ks+1:Nat):Int)=1+(dr4 ks:Int):=Oa
 rw[hrt];refine ye1 func13 ntmps13 fun _ _ _=>?_
 repeat'(refine yz ?_)
 refine ac8 (α:=SPiP ks.length) (fun p=>⟨[(3,.d (.int (1+(dr4 (ks.take p.i):Int)))),(7,.d (.sl (ks.map do8))),(8,.d (.int (ks.map do8).length)),(9,.d (.int p.i))],[]⟩) (fun p=>ks.length-p.i) ⟨0,by omega⟩ (zle 0) ?_;rintro⟨i,hi⟩;dsimp only;have hpt:=eb5 ks i;rcases fy5 i ks.length with hlt|hge
 ·have g1:decide ((i:Int)<((ks.map do8).length:Int))=true:=by rw[hle];simpa using hlt
  have hx0:=fy4 hlt;generalize ks[i]=x at hx0;have hx:=cz1 (f:=do8) hx0;have hm:=fy6 hx0;have hsx:=dr6 hm;have hc:=ih x hm Oa;have ht:=eb4 hx0;have e1:1+(dr4 (ks.take i):Int)+(szP x:Int)=1+((dr4 (ks.take (i+1)):Nat):Int):=by rw[ht];omega
  rw[eb6]at hx hc
  repeat'(first|refine yz ?_|refine qI (do7 x.b (x.ks.map do8)) rfl (ap9 rfl) rfl rfl rfl rfl rfl rfl Oh hx ?_|refine yp b13 hc ?_)
  refine ac2 ?_;refine⟨⟨i+1,by omega⟩,by dsimp only;omega,?_⟩;dsimp only;rw[←e1];exact(zle 0)
 ·have g1:decide ((i:Int)<((ks.map do8).length:Int))=false:=by rw[hle];simp;omega
  rw[ga3 hge]
  exact Om
abbrev oLv(l:Int):aa5:=.var 3 (.w (.d (.int l)))
theorem eb8(l:Int)(f:Pl→Bool)(ks:List Pl)(hmax:ks.length≤9223372036854775807)(hf:∀x∈ks,EvS E 35 [.d (do8 x),.ptr 0 0] [oLv l] (.d (.bool (f x))) [oLv l]):
  EvS E 53 [.d (.sl (ks.map do8)),.clo 35 [.ptr 0 0]] [oLv l] (.d (.int (cz3 (ks.findIdx? f)))) [oLv l]:=by
 have hle:(ks.map do8).length=ks.length:=Oc
 refine yn func53 ntmps53 fun _ _ _ _=>?_
 repeat'(refine yz ?_)
 refine ac8 (α:=SFc ks f) (fun p=>⟨[(0,.d (.sl (ks.map do8))),(1,.clo 35 [.ptr 0 0]),(7,.d (.int (ks.map do8).length)),(8,.d (.int p.i))],[oLv l]⟩) (fun p=>ks.length-p.i) ⟨0,by omega,fun j hj=>absurd hj Oa⟩ (zle 1) ?_;rintro⟨i,hi,ok⟩;dsimp only;rcases fy5 i ks.length with hlt|hge
 ·have g1:decide ((i:Int)<((ks.map do8).length:Int))=true:=by rw[hle];simpa using hlt
  have hx0:=fy4 hlt;generalize ks[i]=x at hx0;have hx:=cz1 (f:=do8) hx0;have h1:=hf x (fy6 hx0);rw[eb6]at hx h1
  cases hc:f x with
  |true=>
   rw[hc]at h1;rw[cz4 hx0 hc ok]
   repeat'(first|refine yz ?_|refine qI (do7 x.b (x.ks.map do8)) rfl (ap9 rfl) rfl rfl rfl rfl rfl rfl Oh hx ?_|refine bc1 [0] rfl rfl rfl rfl (FnX.clo _ _) b35 (h1) rfl rfl rfl rfl rfl ?_|refine bc6 [0] rfl rfl rfl rfl rfl ?_)
   all_goals rfl
  |false=>
   rw[hc]at h1
   repeat'(first|refine yz ?_|refine qI (do7 x.b (x.ks.map do8)) rfl (ap9 rfl) rfl rfl rfl rfl rfl rfl Oh hx ?_|refine bc1 [0] rfl rfl rfl rfl (FnX.clo _ _) b35 (h1) rfl rfl rfl rfl rfl ?_)
   refine ac2 ?_;exact⟨⟨i+1,by omega,SFc.next hx0 hc ok⟩,by dsimp only;omega,(zle 1)⟩
 ·have g1:decide ((i:Int)<((ks.map do8).length:Int))=false:=by rw[hle];simp;omega
  rw[cz5 fun j hj=>ok j Oa]
  repeat'(first|refine yz ?_|refine bc6 [0] rfl rfl rfl rfl rfl ?_)
  all_goals rfl
theorem eb9(l:Int)(f:Pl→Bool)(ks:List Pl)(hmax:ks.length≤9223372036854775807)(hf:∀x∈ks,EvS E 35 [.d (do8 x),.ptr 0 0] [oLv l] (.d (.bool (f x))) [oLv l]):
  EvS E 34 [.d (.sl (ks.map do8)),.clo 35 [.ptr 0 0]] [oLv l] (.d (.bool (ks.any f))) [oLv l]:=by
 have h:=eb8 l f ks hmax hf;rw[←cz6];refine yn func34 ntmps34 fun _ _ _ _=>?_
 repeat'(first|refine yz ?_|refine yc [0] b53 (h) ?_|refine bc6 [0] rfl rfl rfl rfl rfl ?_)
 all_goals rfl
def dpB(l:Int)(p:Pl):Bool:=decide ((dpP p:Int)>l)
theorem ec0{l:Int}(h:1≤l)(b:PB)(ks:List Pl):dpB l (.mk b ks)=ks.any (dpB (l-1)):=by
  unfold dpB;rw[dpP,gb5,decide_eq_true_eq,gi4]
  have key:∀ks:List Pl,((dr3 ks:Int)>l-1)↔∃x∈ks,(dpP x:Int)>l-1:=by
    intro ks
    induction ks with
    |nil=>rw[dr3];constructor
          · intro h';omega
          · rintro⟨x,hx,-⟩;cases hx
    |cons a r ih=>
      rw[dr3];constructor
      · intro h'
        by_cases h1:(dpP a:Int)>l-1
        · exact⟨a,by simp,h1⟩
        · obtain⟨x,hx,hd⟩:=ih.1 Oa;exact⟨x,by simp[hx],hd⟩
      · rintro⟨x,hx,hd⟩;rcases fz0.1 hx with rfl|hx
        · omega
        · have:=ih.2 ⟨x,hx,hd⟩;omega
  have h1:((dr3 ks+1:Nat):Int)>l↔(dr3 ks:Int)>l-1:=Oa
  rw[h1,key];simp only[decide_eq_true_eq]
theorem ec1(p:Pl):szP p≤1000000→∀l:Int,-1000≤l→l≤1000→Ev E 22 [do8 p,.int l] (.d (.bool (dpB l p))):=by
 refine do6 (P:=fun p=>szP p≤1000000→∀l:Int,-1000≤l→l≤1000→Ev E 22 [do8 p,.int l] (.d (.bool (dpB l p)))) (fun b ks ih hn l h0 h1=>?_) p;rw[szP]at hn;have hkl:=dr8 ks
 cases c1:decide (l<1)with
 |true=>
  have hd:dpB l (.mk b ks)=true:=by
   have:=of_decide_eq_true c1;unfold dpB;rw[dpP,decide_eq_true_eq];omega
  rw[hd,dp1];refine ye2 func22 ntmps22 fun _ _ _=>?_
  exact Om
 |false=>
  have hl:1≤l:=by have:=of_decide_eq_false c1;omega
  rw[ec0 hl]
  have hc:=eb9 l (dpB (l-1)) ks Oa fun x hx=>by
   have hsx:=dr6 hx;have h:=ih x hx Oa (l-1) Oa Oa;rw[eb6]at h ⊢;refine yn func35 ntmps35 fun _ _ _ _=>?_
   repeat'(first|refine yz ?_|refine yp b22 h ?_|refine bc6 [0] rfl rfl rfl rfl rfl ?_)
   all_goals rfl
  rw[dp1];refine ye2 func22 ntmps22 fun _ _ _=>?_
  repeat'(first|refine yz ?_|refine bb9 rfl rfl rfl rfl rfl ?_|refine yc [1] b34 (hc) ?_|refine yx ?_|exact zD)
theorem ec2{C:Cx}{s:St}{r:List It}{fn:Func}{t:Nat}(hr:fn.results= #[.tmp t])(h:lk s.tm t=.zc):go C (.code .ret::r) s (ao3 C fn .zc):=by
 refine ac4 ?_;intro F σ w a hi hn hm hs;have h1:=hs t;rw[h]at h1;refine⟨a.tmps.getD t undef,F,?_,fun _ h=>h,fun b hb=>⟨hi.flt b hb,hn b hb⟩,h1⟩;have h2:(ao6 a (.tmp t)).run C.E.P w=.ok (a.tmps.getD t undef) w:=by simp only[ao6,Sem.run_pure]
 rw[ao8,hr];simp[h2]
theorem ec3:Ev E 45 [.sl []] .zc:=by
 refine ye1 func45 ntmps45 fun _ _ _=>?_
 repeat'(first|(refine bo7 2 rfl ?_)|(refine bo4 ?_)|(refine bo5 ?_)|(refine ec2 rfl rfl)|refine yz ?_|(refine ay1 rfl (fun _=>?_) ?_))
structure SBoP(b:List ByteArray) where
 i:Nat
 hi:i≤b.length
def joi(a b:List ByteArray)(i:Nat):List ByteArray:=a++(b.take i).filter fun s=> !(by8 a s)
theorem ec4{a b:List ByteArray}{i:Nat}{x:ByteArray}(h:b[i]? =some x):joi a b (i+1)=bif by8 a x then joi a b i else joi a b i++ [x]:=by
 unfold joi;rw[gd7,h]
 cases hc:by8 a x with
 |true=>simp[hc]
 |false=>simp[hc]
theorem ec5(a b:List ByteArray)(i:Nat):(joi a b i).length≤a.length+b.length:=by
 unfold joi;have h1:=gg5 (fun s=> !(by8 a s)) (b.take i);have h2:(b.take i).length≤b.length:=by rw[gb6];omega
 rw[fy8];omega
theorem ec6(a b:List ByteArray)(ha:a.length≤1000000)(hb:b.length≤1000000):Ev E 38 [.sl (a.map .str),.sl (b.map .str)] (.d (.sl ((dp7 a b).map .str))):=by
 have hle:(b.map D.str).length=b.length:=Oc
 have hle1:(a.map D.str).length=a.length:=Oc
 have hj:dp7 a b=joi a b b.length:=by unfold dp7 joi;rw[List.take_length]
 rw[hj]
 by_cases h0:a=[]
 ·subst h0;have hz:=ec3;refine ye2 func38 ntmps38 fun _ _ _=>?_
  repeat'(first|refine yz ?_|refine yp b45 hz ?_)
  refine ac8 (α:=SBoP b) (fun p=>⟨[(0,.d (.sl [])),(5,bo9 0 ((joi [] b p.i).map .str)),(10,.d (.sl (b.map .str))),(11,.d (.int (b.map D.str).length)),(12,.d (.int p.i))],ay0 9 1 ((joi [] b p.i).map .str)⟩) (fun p=>b.length-p.i) ⟨0,by omega⟩ (zle 0) ?_;rintro⟨i,hi⟩;dsimp only;have hol:=ec5 [] b i;rcases fy5 i b.length with hlt|hge
  ·have g1:decide ((i:Int)<((b.map D.str).length:Int))=true:=by rw[hle];simpa using hlt
   have hx0:=fy4 hlt;generalize b[i]=x at hx0;have hx:=cz1 (f:=D.str) hx0;have hc:=cb1 [] x;have hat:=ec4 (a:=[]) hx0
   cases hh:by8 [] x with
   |true=>simp[by8]at hh
   |false=>
    rw[hh,cond_false]at hat;rw[hh]at hc;generalize joi [] b i=o at*
    match o,hol with
    |[],hol=>
     dsimp only[bo9,ay0,List.map]
     repeat'(first|refine yz ?_|refine yi (.str x) hx ?_|refine yp b60 hc ?_|(refine bo6 ?_ ?_;exact⟨by simp,fun d hd=>by(obtain rfl:=ga4.1 hd;rfl),by(show 1*16≤140737488355328;omega),by(show 1≤9223372036854775807;omega)⟩))
     refine ac2 ?_;refine⟨⟨i+1,by omega⟩,by dsimp only;omega,?_⟩;dsimp only;rw[hat];exact(bi7 [0])
    |y::q,hol=>
     dsimp only[bo9,ay0,List.map]
     repeat'(first|refine yz ?_|refine yi (.str x) hx ?_|refine yp b60 hc ?_|(refine qS rfl ⟨by simp,fun d hd=>by(obtain rfl:=ga4.1 hd;rfl),by(show _*16≤140737488355328;simp;simp only[fy7]at hol;omega),by(show _≤9223372036854775807;simp;simp only[fy7]at hol;omega)⟩ ?_))
     refine ac2 ?_;refine⟨⟨i+1,by omega⟩,by dsimp only;omega,?_⟩;dsimp only;rw[hat,dz3];exact(bi7 [1])
  ·have g1:decide ((i:Int)<((b.map D.str).length:Int))=false:=by rw[hle];simp;omega
   obtain rfl:i=b.length:=Oa
   generalize joi [] b b.length=o at*
   match o with
   |[]=>
    dsimp only[bo9,ay0,List.map];refine bo8 5 rfl ?_
    exact Om
   |y::q=>
    dsimp only[bo9,ay0,List.map];refine av3 0 rfl ?_;dsimp only[as7,as6,as9,as8,List.map,List.set]
    exact Om
 ·have hz:=dw3 a h0 Oa;refine ye2 func38 ntmps38 fun _ _ _=>?_
  repeat'(first|refine yz ?_|refine ay4 rfl rfl rfl rfl rfl rfl b45 (hz) ?_)
  refine ac8 (α:=SBoP b) (fun p=>⟨[(0,.d (.sl (a.map .str))),(5,bo9 0 ((joi a b p.i).map .str)),(10,.d (.sl (b.map .str))),(11,.d (.int (b.map D.str).length)),(12,.d (.int p.i))],ay0 9 1 ((joi a b p.i).map .str)⟩) (fun p=>b.length-p.i) ⟨0,by omega⟩ (by
   have e0:joi a b 0=a:=by unfold joi;simp
   dsimp only;rw[e0]
   match a,h0 with
   |x::r,_=>exact(zle 1)) ?_
  rintro⟨i,hi⟩;dsimp only;have hol:=ec5 a b i;rcases fy5 i b.length with hlt|hge
  ·have g1:decide ((i:Int)<((b.map D.str).length:Int))=true:=by rw[hle];simpa using hlt
   have hx0:=fy4 hlt;generalize b[i]=x at hx0;have hx:=cz1 (f:=D.str) hx0;have hc:=cb1 a x;have hat:=ec4 (a:=a) hx0
   cases hh:by8 a x with
   |true=>
    rw[hh,cond_true]at hat;rw[hh]at hc;generalize joi a b i=o at*
    match o with
    |[]=>
     dsimp only[bo9,ay0,List.map]
     repeat'(first|refine yz ?_|refine yi (.str x) hx ?_|refine yp b60 hc ?_)
     refine ac2 ?_;refine⟨⟨i+1,by omega⟩,by dsimp only;omega,?_⟩;dsimp only;rw[hat];exact(zle 0)
    |y::q=>
     dsimp only[bo9,ay0,List.map]
     repeat'(first|refine yz ?_|refine yi (.str x) hx ?_|refine yp b60 hc ?_)
     refine ac2 ?_;refine⟨⟨i+1,by omega⟩,by dsimp only;omega,?_⟩;dsimp only;rw[hat];exact(zle 1)
   |false=>
    rw[hh,cond_false]at hat;rw[hh]at hc;generalize joi a b i=o at*
    match o,hol with
    |[],hol=>
     dsimp only[bo9,ay0,List.map]
     repeat'(first|refine yz ?_|refine yi (.str x) hx ?_|refine yp b60 hc ?_|(refine bo6 ?_ ?_;exact⟨by simp,fun d hd=>by(obtain rfl:=ga4.1 hd;rfl),by(show 1*16≤140737488355328;omega),by(show 1≤9223372036854775807;omega)⟩))
     refine ac2 ?_;refine⟨⟨i+1,by omega⟩,by dsimp only;omega,?_⟩;dsimp only;rw[hat];exact(bi7 [0])
    |y::q,hol=>
     dsimp only[bo9,ay0,List.map]
     repeat'(first|refine yz ?_|refine yi (.str x) hx ?_|refine yp b60 hc ?_|(refine qS rfl ⟨by simp,fun d hd=>by(obtain rfl:=ga4.1 hd;rfl),by(show _*16≤140737488355328;simp;simp only[fy7]at hol;omega),by(show _≤9223372036854775807;simp;simp only[fy7]at hol;omega)⟩ ?_))
     refine ac2 ?_;refine⟨⟨i+1,by omega⟩,by dsimp only;omega,?_⟩;dsimp only;rw[hat,dz3];exact(bi7 [1])
  ·have g1:decide ((i:Int)<((b.map D.str).length:Int))=false:=by rw[hle];simp;omega
   obtain rfl:i=b.length:=Oa
   generalize joi a b b.length=o at*
   match o with
   |[]=>
    dsimp only[bo9,ay0,List.map];refine bo8 5 rfl ?_
    exact Om
   |y::q=>
    dsimp only[bo9,ay0,List.map];refine av3 0 rfl ?_;dsimp only[as7,as6,as9,as8,List.map,List.set]
    exact Om
attribute [local irreducible] RGw
abbrev oPlB(b:PB)(K:List D):aa5:=.var 40 (.w (.d (do7 b K)))
def ec7(p:Pl):D:=.sl ((dr1 p).1.map .str)
theorem ec8:∀{ks:List Pl} {i:Nat} {x:Pl},ks[i]? =some x→(∀p∈ks.take i,(dr1 p).2=0)→(dr1 x).2≠0→dr2 ks=([],(dr1 x).2)
 |[],_,_,h,_,_=>by cases h
 |p::r,0,x,h,_,hx=>by
  obtain rfl:p=x:=by simpa using h
  rw[dr2,show((dr1 p).2 !=0)=true by simpa using hx,cond_true]
 |p::r,i+1,x,h,h0,hx=>by
  have ih:=ec8 (ks:=r) (i:=i) (x:=x) (by simpa using h) (fun q hq=>h0 q (by simp[hq])) hx;rw[dr2,h0 p Oc,ih,show((dr1 x).2 !=0)=true by simpa using hx];rfl
theorem ec9:∀{ks:List Pl},(∀p∈ks,(dr1 p).2=0)→dr2 ks=(ks.map fun p=>(dr1 p).1,0)
 |[],_=>rfl
 |p::r,h=>by
  rw[dr2,h p Oc,ec9 fun q hq=>h q (by simp[hq])];rfl
structure SiC(ks:List Pl) where
 i:Nat
 hi:i≤ks.length
 ok:∀p∈ks.take i,(dr1 p).2=0
structure SmB(b:PB):Prop where
 vs:b.cj.vs.length≤1000000
 at_:b.cj.as.length≤1000000
 ln:du0 b.cl≤1000000000000
 e:smE b.e
 it:∀x∈b.it,smE x.e
 od:∀x∈b.od,smE x.e
 nm:(dq0 b.cl.ps).length≤900000
 ne:∀p∈b.cl.ps,p.ns.length≤1000000∧p.es.length≤1000000
 ap:b.op=5→∀cols:List ByteArray,cols.length≤1000000→Ev E 40 [cu4 b.cl,.sl (cols.map .str)] (.d (.int (dq4 b.cl cols).2))
theorem ed0{op:Int}{n:Nat}(h:dp2 op=n):(op=1∧n=0)∨(op=2∧n=0)∨(op=3∧n=2)∨(op=4∧n=2)∨(op=5∧n=1)∨(op=6∧n=1)∨(op=7∧n=1)∨(op=8∧n=1)∨(op=9∧n=1)∨(op=10∧n=1)∨(op=11∧n=1):=by
 unfold dp2 at h
 cases c1:op==1||op==2 with
 |true=>
  rw[c1,cond_true]at h;have hn:n=0:=Oa
  have ho:op=1∨op=2:=by simpa using c1
  subst hn;rcases ho with rfl|rfl<;>simp
 |false=>
 cases c2:op==3||op==4 with
 |true=>
  rw[c1,c2]at h;have h:(2:Int)=n:=h;have hn:n=2:=Oa
  have ho:op=3∨op=4:=by simpa using c2
  subst hn;rcases ho with rfl|rfl<;>simp
 |false=>
 cases c3:decide (op≥5) &&decide (op≤11)with
 |true=>
  rw[c1,c2,c3]at h;have h:(1:Int)=n:=h;have hn:n=1:=Oa
  have h5:op≥5∧op≤11:=by simpa using c3
  have ho:op=5∨op=6∨op=7∨op=8∨op=9∨op=10∨op=11:=Oa
  subst hn;rcases ho with rfl|rfl|rfl|rfl|rfl|rfl|rfl<;>simp
 |false=>
  rw[c1,c2,c3]at h;have h:(-1:Int)=n:=h;exact absurd h Oa
theorem ed1{b:PB}{cols:List (List ByteArray)}(h:dp5 b cols.length=true):dr0 b cols=
  bif b.op==1 then([],0)else bif b.op==2 then dq2 b.cj else bif b.op==3||b.op==4 then(dp7 (cols.getD 0 []) (cols.getD 1 []),0)else
  bif b.op==5 then dq4 b.cl (cols.getD 0 [])else bif b.op==6 then dq9 (di8 b.e (cols.getD 0 [])) (cols.getD 0 [])else
  bif b.op==7||b.op==8 then(bif decide (b.it.length>24)then erR 4 else dq6 (b.op==8) (cols.getD 0 []) b.it [])else bif b.op==9 then(cols.getD 0 [],0)else
  bif b.op==10 then dq9 (dq7 (cols.getD 0 []) b.od) (cols.getD 0 [])else dq9 (dq8 b (cols.getD 0 [])) (cols.getD 0 []++ [b.nm]):=by
 unfold dr0;rw[h,gg0,cond_false]
theorem ed2{c:CL}{cols:List ByteArray}(h:(dq4 c cols).2=0):dq4 c cols=(dp7 cols (dq1 c.ps),0):=by
 unfold dq4 at h ⊢
 cases c1:cw7 c !=0 with
 |true=>rw[c1,cond_true]at h;rw[show cw7 c=0 from h]at c1;cases c1
 |false=>
 cases c2: !((dq3 c.ps).all fun e=>di7 e cols)with
 |true=>rw[c1,c2]at h;exact absurd (show(6:Int)=0 from h) Od
 |false=>
 cases c3: !(c.wh.all fun e=>di7 e (dp7 cols (dq1 c.ps)))with
 |true=>rw[c1,c2,c3]at h;exact absurd (show(6:Int)=0 from h) Od
 |false=>
 cases c4:c.wh.any cu5 with
 |true=>rw[c1,c2,c3,c4]at h;exact absurd (show(9:Int)=0 from h) Od
 |false=>rfl
theorem ed3{c:CL}{cols:List ByteArray}(h:(dq4 c cols).2≠0):(dq4 c cols).1=[]:=by
 unfold dq4 at h ⊢
 cases c1:cw7 c !=0 with
 |true=>rfl
 |false=>
 cases c2: !((dq3 c.ps).all fun e=>di7 e cols)with
 |true=>rfl
 |false=>
 cases c3: !(c.wh.all fun e=>di7 e (dp7 cols (dq1 c.ps)))with
 |true=>rfl
 |false=>
 cases c4:c.wh.any cu5 with
 |true=>rfl
 |false=>rw[c1,c2,c3,c4]at h;exact absurd rfl h
set_option maxHeartbeats 8000000 in
theorem ed4(p:Pl):alB SmB p→szP p≤1000000→cwP p≤1000000→Ev E 23 [do8 p] (.tup [.sl ((dr1 p).1.map .str),.int (dr1 p).2]):=by
 refine do6 (P:=fun p=>alB SmB p→szP p≤1000000→cwP p≤1000000→Ev E 23 [do8 p] (.tup [.sl ((dr1 p).1.map .str),.int (dr1 p).2])) (fun b ks ih hs hz hw=>?_) p;rw[alB]at hs;rw[szP]at hz;rw[cwP]at hw;have hks:=dz6 hs.2;have hkl:=dr8 ks;have hsb:=hs.1;have hle:(ks.map do8).length=ks.length:=Oc
 have hf:=du7 b (ks.map do8) (by rw[hle];omega) (by have:=hsb.vs;have:=hsb.at_;omega) hsb.ln;rw[dp1];generalize hR:dr1 (.mk b ks)=R;refine ye1 func23 ntmps23 fun _ _ _=>?_
 repeat'(refine yz ?_)
 refine ac8 (α:=SiC ks) (fun q=>⟨[(1,.ptr 0 0),(4,bh5 1 ((ks.take q.i).map ec7)),(12,.d (.sl (ks.map do8))),(13,.d (.int (ks.map do8).length)),(14,.d (.int q.i))],[oPlB b (ks.map do8)]++ay0 23 1 ((ks.take q.i).map ec7)⟩) (fun q=>ks.length-q.i) ⟨0,by omega,fun _ h=>by cases h⟩ (zle 1) ?_;rintro⟨i,hi,ok⟩;dsimp only;rcases fy5 i ks.length with hlt|hge
 ·have g1:decide ((i:Int)<((ks.map do8).length:Int))=true:=by rw[hle];simpa using hlt
  have hx0:=fy4 hlt;generalize ks[i]=x at hx0;have hx:=cz1 (f:=do8) hx0;have hm:=fy6 hx0;have hsx:=dr6 hm;have hwx:=dz9 hm;have hc:=ih x hm (hks x hm) Oa Oa;have htk:(ks.take (i+1)).map ec7=(ks.take i).map ec7++ [ec7 x]:=by rw[gd7,hx0,gg7];rfl
  have hln:((ks.take i).map ec7).length≤1000000:=by rw[fz3,gb6];omega
  rw[eb6]at hx hc
  cases hz0:(dr1 x).2 !=0 with
  |true=>
   have hne:(dr1 x).2≠0:=by simpa using hz0
   have hR2:R=erR (dr1 x).2:=by
    rw[←hR,dr1,ec8 hx0 ok hne,show((([]:List (List ByteArray)),(dr1 x).2).2 !=0)=true from hz0];rfl
   subst hR2;generalize(dr1 x).2=z at*;clear htk
   match(ks.take i).map ec7 with
   |[]=>
    dsimp only[bh5,ay0,List.append,HAppend.hAppend,Append.append]
    repeat'(first|refine yz ?_|refine qI (do7 x.b (x.ks.map do8)) rfl (ap9 rfl) rfl rfl rfl rfl rfl rfl Oh hx ?_|refine yp b23 hc ?_|exact zL)
   |d::r=>
    dsimp only[bh5,ay0,List.append,HAppend.hAppend,Append.append]
    repeat'(first|refine yz ?_|refine qI (do7 x.b (x.ks.map do8)) rfl (ap9 rfl) rfl rfl rfl rfl rfl rfl Oh hx ?_|refine yp b23 hc ?_|exact zL)
  |false=>
   have h0:(dr1 x).2=0:=by simpa using hz0
   rw[h0]at hc
   have hok:∀p∈ks.take (i+1),(dr1 p).2=0:=by
    intro p hp;rw[gd7,hx0]at hp;rcases gb2.1 hp with hp|hp
    ·exact ok p hp
    ·obtain rfl:p=x:=by simpa using hp
     exact h0
   generalize(ks.take i).map ec7=K at*
   match K with
   |[]=>
    dsimp only[bh5,ay0,List.append,HAppend.hAppend,Append.append]
    repeat'(first|refine yz ?_|refine qI (do7 x.b (x.ks.map do8)) rfl (ap9 rfl) rfl rfl rfl rfl rfl rfl Oh hx ?_|refine yp b23 hc ?_|(refine qS rfl ⟨by simp,fun d hd=>by(obtain rfl:=ga4.1 hd;rfl),by(show _*24≤140737488355328;simp<;>omega),by(show _≤9223372036854775807;simp<;>omega)⟩ ?_))
    refine ac2 ?_;refine⟨⟨i+1,by omega,hok⟩,by dsimp only;omega,?_⟩;dsimp only;rw[htk];exact(bi7 [0,2])
   |d::r=>
    have hr:r.length≤999999:=by simp only[fy7]at hln;omega
    dsimp only[bh5,ay0,List.append,HAppend.hAppend,Append.append]
    repeat'(first|refine yz ?_|refine qI (do7 x.b (x.ks.map do8)) rfl (ap9 rfl) rfl rfl rfl rfl rfl rfl Oh hx ?_|refine yp b23 hc ?_|(refine qS rfl ⟨by simp,fun d hd=>by(obtain rfl:=ga4.1 hd;rfl),by(show _*24≤140737488355328;simp<;>omega),by(show _≤9223372036854775807;simp<;>omega)⟩ ?_))
    refine ac2 ?_;refine⟨⟨i+1,by omega,hok⟩,by dsimp only;omega,?_⟩;dsimp only;rw[htk];exact(bi7 [0,3])
 ·have g1:decide ((i:Int)<((ks.map do8).length:Int))=false:=by rw[hle];simp;omega
  have hall:∀p∈ks,(dr1 p).2=0:=by rw[ga3 hge]at ok;exact ok
  have hsel:R=dr0 b (ks.map fun p=>(dr1 p).1):=by rw[←hR,dr1,ec9 hall];rfl
  have hcw:∀p∈ks,(dr1 p).1.length≤1000000:=fun p hp=>by have h1:=ea6 p;have h2:=dz9 hp;omega
  rw[ga3 hge];clear hge ok hR ih hks hall hi;rw[hle]at hf
  cases hfm:dp5 b ks.length with
  |false=>
   have hR:R=([],25):=by rw[hsel];unfold dr0;rw[fz3,hfm];rfl
   subst hR;rw[hfm]at hf;clear hsel hcw;generalize ks.map ec7=K at*
   match K with
   |[]=>
    dsimp only[bh5,ay0,List.append,HAppend.hAppend,Append.append]
    repeat'(first|refine yz ?_|refine yp b36 hf ?_|exact zL)
   |d::r=>
    dsimp only[bh5,ay0,List.append,HAppend.hAppend,Append.append]
    repeat'(first|refine yz ?_|refine yp b36 hf ?_|exact zL)
  |true=>
   rw[hfm]at hf;have hse:=ed1 (b:=b) (cols:=ks.map fun p=>(dr1 p).1) (by rw[fz3];exact hfm);rw[hse]at hsel;clear hse;have hko:=ed0 (ds1 hfm);clear hfm;obtain⟨op,cj,cl,e,nm,it,od,sk,lm⟩:=b;dsimp only at hko hsel;rcases hko with⟨rfl,hn⟩|⟨rfl,hn⟩|⟨rfl,hn⟩|⟨rfl,hn⟩|⟨rfl,hn⟩|⟨rfl,hn⟩|⟨rfl,hn⟩|⟨rfl,hn⟩|⟨rfl,hn⟩|⟨rfl,hn⟩|⟨rfl,hn⟩
   ·-- op 1
    obtain rfl:ks=[]:=List.length_eq_zero_iff.1 hn;obtain rfl:R=([],0):=hsel
    repeat'(first|refine yz ?_|refine yp b36 hf ?_|exact zL)
   ·-- op 2
    obtain rfl:ks=[]:=List.length_eq_zero_iff.1 hn;have hm:=dw9 cj hsb.vs;obtain rfl:R=dq2 cj:=hsel;generalize dq2 cj=z at*
    repeat'(first|refine yz ?_|refine yp b36 hf ?_|refine yp b37 hm ?_|exact zL)
   ·-- op 3
    obtain⟨k,l,rfl⟩:∃k l,ks=[k,l]:=by(match ks,hn with|[k,l],_=>exact⟨k,l,rfl⟩)
    have hcl:=hcw k Oc;have hcl2:=hcw l Oc;dsimp only[List.map,ec7,bh5,ay0,List.append,HAppend.hAppend,Append.append,List.getD_cons_zero]at*;generalize(dr1 k).1=c at*;generalize(dr1 l).1=d at*;have hk0:([D.sl (c.map D.str),D.sl (d.map D.str)]:List D)[((0:Int)).toNat]? =some (.sl (c.map .str)):=rfl;have hk1:([D.sl (c.map D.str),D.sl (d.map D.str)]:List D)[((1:Int)).toNat]? =some (.sl (d.map .str)):=rfl;have hj:=ec6 c d hcl hcl2;obtain rfl:R=(dp7 c d,0):=hsel;generalize dp7 c d=z at*
    repeat'(first|refine yz ?_|refine yp b36 hf ?_|(refine qS rfl ?_ ?_;exact⟨by decide,by(simp<;>omega)⟩)|refine qW (.sl (c.map .str)) rfl rfl rfl rfl rfl rfl hk0 rfl ?_|refine qW (.sl (d.map .str)) rfl rfl rfl rfl rfl rfl hk1 rfl ?_|refine yp b38 hj ?_|exact zL)
   ·-- op 4
    obtain⟨k,l,rfl⟩:∃k l,ks=[k,l]:=by(match ks,hn with|[k,l],_=>exact⟨k,l,rfl⟩)
    have hcl:=hcw k Oc;have hcl2:=hcw l Oc;dsimp only[List.map,ec7,bh5,ay0,List.append,HAppend.hAppend,Append.append,List.getD_cons_zero]at*;generalize(dr1 k).1=c at*;generalize(dr1 l).1=d at*;have hk0:([D.sl (c.map D.str),D.sl (d.map D.str)]:List D)[((0:Int)).toNat]? =some (.sl (c.map .str)):=rfl;have hk1:([D.sl (c.map D.str),D.sl (d.map D.str)]:List D)[((1:Int)).toNat]? =some (.sl (d.map .str)):=rfl;have hj:=ec6 c d hcl hcl2;obtain rfl:R=(dp7 c d,0):=hsel;generalize dp7 c d=z at*
    repeat'(first|refine yz ?_|refine yp b36 hf ?_|(refine qS rfl ?_ ?_;exact⟨by decide,by(simp<;>omega)⟩)|refine qW (.sl (c.map .str)) rfl rfl rfl rfl rfl rfl hk0 rfl ?_|refine qW (.sl (d.map .str)) rfl rfl rfl rfl rfl rfl hk1 rfl ?_|refine yp b38 hj ?_|exact zL)
   all_goals(obtain⟨k,rfl⟩:=List.length_eq_one_iff.1 hn;have hcl:=hcw k Oc;dsimp only[List.map,ec7,bh5,ay0,List.append,HAppend.hAppend,Append.append,List.getD_cons_zero]at*;generalize(dr1 k).1=c at*;have hk0:([D.sl (c.map D.str)]:List D)[((0:Int)).toNat]? =some (.sl (c.map .str)):=rfl)
   ·-- op 5
    have h5:=hsb.ap rfl c hcl;have hv:=dz4 cl.ps hsb.nm hsb.ne;have hvl:=ea2 cl.ps;have hnm:=hsb.nm;have hj:=ec6 c (dq1 cl.ps) hcl (by dsimp only at hnm;omega);have hR:R=dq4 cl c:=hsel;dsimp only at h5
    cases hz0:(dq4 cl c).2 !=0 with
    |true=>
     have hR2:R=([],(dq4 cl c).2):=by rw[hR];exact Prod.ext (ed3 (by simpa using hz0)) rfl
     subst hR2;clear hR hsel;generalize(dq4 cl c).2=z at*;generalize dp7 c (dq1 cl.ps)=j at*;generalize dq1 cl.ps=v at*
     repeat'(first|refine yz ?_|refine yp b36 hf ?_|(refine qS rfl ?_ ?_;exact⟨by decide,by(simp<;>omega)⟩)|refine qW (.sl (c.map .str)) rfl rfl rfl rfl rfl rfl hk0 rfl ?_|refine yp b40 h5 ?_|refine yp b41 hv ?_|refine yp b38 hj ?_|exact zL)
    |false=>
     have hz1:(dq4 cl c).2=0:=by simpa using hz0
     rw[hz1]at h5;rw[ed2 hz1]at hR;subst hR;clear hsel;generalize dp7 c (dq1 cl.ps)=j at*;generalize dq1 cl.ps=v at*
     repeat'(first|refine yz ?_|refine yp b36 hf ?_|(refine qS rfl ?_ ?_;exact⟨by decide,by(simp<;>omega)⟩)|refine qW (.sl (c.map .str)) rfl rfl rfl rfl rfl rfl hk0 rfl ?_|refine yp b40 h5 ?_|refine yp b41 hv ?_|refine yp b38 hj ?_|exact zL)
   ·-- op 6
    have hx:=dj4 e c (dw5 hsb.e) hsb.e
    cases hz0:di8 e c !=0 with
    |true=>
     have hR2:R=([],di8 e c):=by rw[hsel];show dq9 (di8 e c) c=_;unfold dq9;rw[hz0];rfl
     subst hR2;clear hsel;generalize di8 e c=z at*
     repeat'(first|refine yz ?_|refine yp b36 hf ?_|(refine qS rfl ?_ ?_;exact⟨by decide,by(simp<;>omega)⟩)|refine qW (.sl (c.map .str)) rfl rfl rfl rfl rfl rfl hk0 rfl ?_|refine yp b42 hx ?_|exact zL)
    |false=>
     have hz1:di8 e c=0:=by simpa using hz0
     have hR2:R=(c,0):=by rw[hsel];show dq9 (di8 e c) c=_;unfold dq9;rw[hz0];rfl
     subst hR2;rw[hz1]at hx;clear hsel
     repeat'(first|refine yz ?_|refine yp b36 hf ?_|(refine qS rfl ?_ ?_;exact⟨by decide,by(simp<;>omega)⟩)|refine qW (.sl (c.map .str)) rfl rfl rfl rfl rfl rfl hk0 rfl ?_|refine yp b42 hx ?_|exact zL)
   ·-- op 7
    have hi:=dx2 ⟨7,cj,cl,e,nm,it,od,sk,lm⟩ [do8 k] c hsb.it;dsimp only at hi;have hR:R=(bif decide (it.length>24)then erR 4 else dq6 ((7:Int)==8) c it []):=hsel;rw[←hR]at hi;clear hR hsel
    repeat'(first|refine yz ?_|refine yp b36 hf ?_|(refine qS rfl ?_ ?_;exact⟨by decide,by(simp<;>omega)⟩)|refine qW (.sl (c.map .str)) rfl rfl rfl rfl rfl rfl hk0 rfl ?_|refine yp b39 hi ?_|exact zL)
   ·-- op 8
    have hi:=dx2 ⟨8,cj,cl,e,nm,it,od,sk,lm⟩ [do8 k] c hsb.it;dsimp only at hi;have hR:R=(bif decide (it.length>24)then erR 4 else dq6 ((8:Int)==8) c it []):=hsel;rw[←hR]at hi;clear hR hsel
    repeat'(first|refine yz ?_|refine yp b36 hf ?_|(refine qS rfl ?_ ?_;exact⟨by decide,by(simp<;>omega)⟩)|refine qW (.sl (c.map .str)) rfl rfl rfl rfl rfl rfl hk0 rfl ?_|refine yp b39 hi ?_|exact zL)
   ·-- op 9
    obtain rfl:R=(c,0):=hsel
    repeat'(first|refine yz ?_|refine yp b36 hf ?_|(refine qS rfl ?_ ?_;exact⟨by decide,by(simp<;>omega)⟩)|refine qW (.sl (c.map .str)) rfl rfl rfl rfl rfl rfl hk0 rfl ?_|exact zL)
   ·-- op 10
    have hx:=dw7 od c hsb.od
    cases hz0:dq7 c od !=0 with
    |true=>
     have hR2:R=([],dq7 c od):=by rw[hsel];show dq9 (dq7 c od) c=_;unfold dq9;rw[hz0];rfl
     subst hR2;clear hsel;generalize dq7 c od=z at*
     repeat'(first|refine yz ?_|refine yp b36 hf ?_|(refine qS rfl ?_ ?_;exact⟨by decide,by(simp<;>omega)⟩)|refine qW (.sl (c.map .str)) rfl rfl rfl rfl rfl rfl hk0 rfl ?_|refine yp b43 hx ?_|exact zL)
    |false=>
     have hz1:dq7 c od=0:=by simpa using hz0
     have hR2:R=(c,0):=by rw[hsel];show dq9 (dq7 c od) c=_;unfold dq9;rw[hz0];rfl
     subst hR2;rw[hz1]at hx;clear hsel
     repeat'(first|refine yz ?_|refine yp b36 hf ?_|(refine qS rfl ?_ ?_;exact⟨by decide,by(simp<;>omega)⟩)|refine qW (.sl (c.map .str)) rfl rfl rfl rfl rfl rfl hk0 rfl ?_|refine yp b43 hx ?_|exact zL)
   ·-- op 11
    have hx:=dw8 ⟨11,cj,cl,e,nm,it,od,sk,lm⟩ [do8 k] c hsb.e
    by_cases h0:c=[]
    ·subst h0;have hcl2:=ec3
     cases hz0:dq8 ⟨11,cj,cl,e,nm,it,od,sk,lm⟩ [] !=0 with
     |true=>
      have hR2:R=([],dq8 ⟨11,cj,cl,e,nm,it,od,sk,lm⟩ []):=by rw[hsel];show dq9 (dq8 ⟨11,cj,cl,e,nm,it,od,sk,lm⟩ []) ([]++ [nm])=_;unfold dq9;rw[hz0];rfl
      subst hR2;clear hsel;generalize dq8 ⟨11,cj,cl,e,nm,it,od,sk,lm⟩ []=z at*
      repeat'(first|refine bj2 (id:=34) [5] [] Ob Ob Oj ?_|refine reF (id:=34) (i:=0) 5 Ob rfl ?_|refine reF (id:=34) (i:=6) 1 Ob rfl ?_|refine reN ?_|refine yz ?_|refine yp b36 hf ?_|(refine qS rfl ?_ ?_;exact⟨by decide,by(simp<;>omega)⟩)|refine qW (.sl (([]:List ByteArray).map .str)) rfl rfl rfl rfl rfl rfl hk0 rfl ?_|refine yp b44 hx ?_|refine yp b45 hcl2 ?_|refine reZ (id:=34) (i:=5) (⟨by simp,fun d hd=>by(obtain rfl:=ga4.1 hd;rfl),by(show 1*16≤140737488355328;omega),by(show 1≤9223372036854775807;omega)⟩) rfl rfl rfl rfl rfl rfl rfl rfl rfl rfl Oj ?_|exact zL)
     |false=>
      have hz1:dq8 ⟨11,cj,cl,e,nm,it,od,sk,lm⟩ []=0:=by simpa using hz0
      have hR2:R=([]++ [nm],0):=by rw[hsel];show dq9 (dq8 ⟨11,cj,cl,e,nm,it,od,sk,lm⟩ []) ([]++ [nm])=_;unfold dq9;rw[hz0];rfl
      subst hR2;rw[hz1]at hx;clear hsel hz0 hz1;have hmp:([]++ [nm]).map D.str=([]:List ByteArray).map D.str++ [.str nm]:=Oc
      rw[hmp]
      repeat'(first|refine bj2 (id:=34) [5] [] Ob Ob Oj ?_|refine reF (id:=34) (i:=0) 5 Ob rfl ?_|refine reF (id:=34) (i:=6) 1 Ob rfl ?_|refine reN ?_|refine yz ?_|refine yp b36 hf ?_|(refine qS rfl ?_ ?_;exact⟨by decide,by(simp<;>omega)⟩)|refine qW (.sl (([]:List ByteArray).map .str)) rfl rfl rfl rfl rfl rfl hk0 rfl ?_|refine yp b44 hx ?_|refine yp b45 hcl2 ?_|refine reZ (id:=34) (i:=5) (⟨by simp,fun d hd=>by(obtain rfl:=ga4.1 hd;rfl),by(show 1*16≤140737488355328;omega),by(show 1≤9223372036854775807;omega)⟩) rfl rfl rfl rfl rfl rfl rfl rfl rfl rfl Oj ?_)
      refine av3 2 rfl ?_;dsimp only[as7,as6,as9,as8,List.map,List.set]
      repeat'(first|refine qM rfl rfl rfl ?_|exact zL)
    ·have hcl2:=dw3 c h0 Oa
     cases hz0:dq8 ⟨11,cj,cl,e,nm,it,od,sk,lm⟩ c !=0 with
     |true=>
      have hR2:R=([],dq8 ⟨11,cj,cl,e,nm,it,od,sk,lm⟩ c):=by rw[hsel];show dq9 (dq8 ⟨11,cj,cl,e,nm,it,od,sk,lm⟩ c) (c++ [nm])=_;unfold dq9;rw[hz0];rfl
      subst hR2;clear hsel;generalize dq8 ⟨11,cj,cl,e,nm,it,od,sk,lm⟩ c=z at*
      repeat'(first|refine bj2 (id:=34) [1,5] [] Ob Ob Oj ?_|refine reF (id:=34) (i:=0) 1 Ob rfl ?_|(refine reV (id:=34) (i:=2) rfl rfl rfl rfl rfl rfl ?_ ?_;(first|exact True.intro|rfl|assumption|omega|(simp only[inR];omega)|((show _≤(9223372036854775807:Nat));(try simp only[ByteArray.size_append]);omega)|exact av7 Oa Oa|exact av8 Oa Oa|exact⟨rfl,by decide,by decide⟩))|(refine reV (id:=34) (i:=3) rfl rfl rfl rfl rfl rfl ?_ ?_;(first|exact True.intro|rfl|assumption|omega|(simp only[inR];omega)|((show _≤(9223372036854775807:Nat));(try simp only[ByteArray.size_append]);omega)|exact av7 Oa Oa|exact av8 Oa Oa|exact⟨rfl,by decide,by decide⟩))|refine reF (id:=34) (i:=6) 1 Ob rfl ?_|refine reN ?_|refine yz ?_|refine yp b36 hf ?_|(refine qS rfl ?_ ?_;exact⟨by decide,by(simp<;>omega)⟩)|refine qW (.sl (c.map .str)) rfl rfl rfl rfl rfl rfl hk0 rfl ?_|refine yp b44 hx ?_|refine bo0 (id:=34) (i:=1) rfl rfl rfl rfl rfl rfl b45 rfl (hcl2) Oj ?_|(refine reV2 (id:=34) (i:=4) rfl rfl rfl rfl rfl rfl ?_ ?_;(first|exact True.intro|rfl|assumption|omega|(simp only[inR];omega)|((show _≤(9223372036854775807:Nat));(try simp only[ByteArray.size_append]);omega)|exact av7 Oa Oa|exact av8 Oa Oa|exact⟨rfl,by decide,by decide⟩))|refine reS (id:=34) (i:=5) rfl rfl rfl rfl (⟨by simp,fun d hd=>by(obtain rfl:=ga4.1 hd;rfl),by(show((c.map D.str).length+1)*16≤140737488355328;rw[fz3];omega),by(show(c.map D.str).length+1≤9223372036854775807;rw[fz3];omega)⟩) Oj ?_|exact zL)
     |false=>
      have hz1:dq8 ⟨11,cj,cl,e,nm,it,od,sk,lm⟩ c=0:=by simpa using hz0
      have hR2:R=(c++ [nm],0):=by rw[hsel];show dq9 (dq8 ⟨11,cj,cl,e,nm,it,od,sk,lm⟩ c) (c++ [nm])=_;unfold dq9;rw[hz0];rfl
      subst hR2;rw[hz1]at hx;clear hsel hz0 hz1;have hmp:(c++ [nm]).map D.str=c.map D.str++ [.str nm]:=Oc
      rw[hmp]
      repeat'(first|refine bj2 (id:=34) [1,5] [] Ob Ob Oj ?_|refine reF (id:=34) (i:=0) 1 Ob rfl ?_|(refine reV (id:=34) (i:=2) rfl rfl rfl rfl rfl rfl ?_ ?_;(first|exact True.intro|rfl|assumption|omega|(simp only[inR];omega)|((show _≤(9223372036854775807:Nat));(try simp only[ByteArray.size_append]);omega)|exact av7 Oa Oa|exact av8 Oa Oa|exact⟨rfl,by decide,by decide⟩))|(refine reV (id:=34) (i:=3) rfl rfl rfl rfl rfl rfl ?_ ?_;(first|exact True.intro|rfl|assumption|omega|(simp only[inR];omega)|((show _≤(9223372036854775807:Nat));(try simp only[ByteArray.size_append]);omega)|exact av7 Oa Oa|exact av8 Oa Oa|exact⟨rfl,by decide,by decide⟩))|refine reF (id:=34) (i:=6) 1 Ob rfl ?_|refine reN ?_|refine yz ?_|refine yp b36 hf ?_|(refine qS rfl ?_ ?_;exact⟨by decide,by(simp<;>omega)⟩)|refine qW (.sl (c.map .str)) rfl rfl rfl rfl rfl rfl hk0 rfl ?_|refine yp b44 hx ?_|refine bo0 (id:=34) (i:=1) rfl rfl rfl rfl rfl rfl b45 rfl (hcl2) Oj ?_|(refine reV2 (id:=34) (i:=4) rfl rfl rfl rfl rfl rfl ?_ ?_;(first|exact True.intro|rfl|assumption|omega|(simp only[inR];omega)|((show _≤(9223372036854775807:Nat));(try simp only[ByteArray.size_append]);omega)|exact av7 Oa Oa|exact av8 Oa Oa|exact⟨rfl,by decide,by decide⟩))|refine reS (id:=34) (i:=5) rfl rfl rfl rfl (⟨by simp,fun d hd=>by(obtain rfl:=ga4.1 hd;rfl),by(show((c.map D.str).length+1)*16≤140737488355328;rw[fz3];omega),by(show(c.map D.str).length+1≤9223372036854775807;rw[fz3];omega)⟩) Oj ?_)
      refine av3 3 rfl ?_;dsimp only[as7,as6,as9,as8,List.map,List.set]
      repeat'(first|refine qM rfl rfl rfl ?_|exact zL)
end Go.Proofs.YtndgolmgaenlfaaGreatDoor
