/- Sort keys, UNWIND, items and conjunctive queries of a plan, checked by the program; Items of a plan, checked by the program; The variables of path patterns in the order in which they come, by the program; Small facts on plans that other chapters' texts hold, too; The closures by which a plan's patterns and conditions are checked, and the library's searches with them; The size and the depth of a plan, by the program; Columns of a plan joined with others', by the program; The check of a plan, by the program. Conditions: each part's own, as it says. -/
import Derived.Test.YtndgolmgaenlfaaGreatDoorCA
import Derived.Test.YtndgolmgaenlfaaGreatDoorGC
import Derived.Test.YtndgolmgaenlfaaGreatDoorFB
set_option linter.unusedVariables false
set_option linter.unusedSimpArgs false
namespace Go.Proofs.YtndgolmgaenlfaaGreatDoor
set_option maxRecDepth 4000
open Go Go.Abs Go.Val Go.RowKit Go.Proofs.Tryz
attribute [local irreducible] go SGo an1 Ev au7 EvO EvS RGo PGo
abbrev smE(e:Ex):Prop:=nd e≤1000000
theorem dn0{e:Ex}(h:smE e):dp e≤1000000:=by have h':nd e≤1000000:=h;have:=cv4 e;omega
structure SStP(l:List SK)(cols:List ByteArray) where
 i:Nat
 hi:i≤l.length
 ok:df5 cols l=df5 cols (l.drop i)
theorem dn1{cols:List ByteArray}{l:List SK}{i:Nat}{x:SK}(h:l[i]? =some x):df5 cols (l.drop i)=bif cx6 x.e cols !=0 then cx6 x.e cols else df5 cols (l.drop (i+1)):=by
 rw[cn8 h,df5]
theorem dn2(l:List SK)(cols:List ByteArray)(hs:∀x∈l,smE x.e):Ev E 43 [.sl (l.map cj0),.sl (cols.map .str)] (.d (.int (df5 cols l))):=Ev.fit fun hfit=>by
 have hmax:=(co0 (hfit (.sl (l.map cj0)) Oc)).1;have hle:(l.map cj0).length=l.length:=Oc
 refine ye2 func43 ntmps43 fun _ _ _=>?_
 repeat'(refine yz ?_)
 refine ac7 (α:=SStP l cols) (fun p=>⟨[(1,.d (.sl (cols.map .str))),(8,.d (.sl (l.map cj0))),(9,.d (.int (l.map cj0).length)),(10,.d (.int p.i))],[]⟩) (fun p=>l.length-p.i) ⟨0,by omega,rfl⟩ (zle 0) ?_;rintro⟨i,hi,ok⟩;dsimp only;rcases ex7 i l.length with hlt|hge
 ·have g1:decide ((i:Int)<((l.map cj0).length:Int))=true:=by rw[hle];simpa using hlt
  have hx0:=ex6 hlt;generalize l[i]=x at hx0;have hx:=cn9 (f:=cj0) hx0;have hm:=hs x (ey0 hx0);have hc:=cy2 x.e cols (dn0 hm) hm;rw[dn1 hx0]at ok
  cases hz:cx6 x.e cols !=0 with
  |true=>
   rw[hz,cond_true]at ok;rw[ok];generalize cx6 x.e cols=z at*
   repeat'(first|refine yz ?_|refine yi (cj0 x) hx ?_|refine bj5 rfl rfl rfl rfl rfl rfl rfl ?_|refine yp b42 hc ?_|exact zD)
  |false=>
   rw[hz,cond_false]at ok;have h0:cx6 x.e cols=0:=by simpa using hz
   rw[h0]at hc
   repeat'(first|refine yz ?_|refine yi (cj0 x) hx ?_|refine bj5 rfl rfl rfl rfl rfl rfl rfl ?_|refine yp b42 hc ?_)
   refine ac1 ?_;exact⟨⟨i+1,by omega,ok⟩,by dsimp only;omega,(zle 0)⟩
 ·have g1:decide ((i:Int)<((l.map cj0).length:Int))=false:=by rw[hle];simp;omega
  rw[ez5 hge,df5]at ok;rw[ok]
  exact Ok
theorem dn3(b:PB)(K:List D)(cols:List ByteArray)(hs:smE b.e):Ev E 44 [dd5 b K,.sl (cols.map .str)] (.d (.int (df6 b cols))):=by
 have h1:=ci4 b.e (dn0 hs) hs;have h2:=dm1 b.nm;have h3:=cy1 b.e cols hs;have h4:=cq0 b.e;have h5:=bw5 cols b.nm;unfold df6
 cases hz:ci3 b.e !=0 with
 |true=>
  rw[cond_true];generalize ci3 b.e=z at*;refine ye2 func44 ntmps44 fun _ _ _=>?_
  repeat'(first|refine yz ?_|refine yp b61 h1 ?_|exact zD)
 |false=>
 have h0:ci3 b.e=0:=by simpa using hz
 rw[h0]at h1;rw[cond_false];clear hz h0;generalize cx5 b.e cols=kn at*;generalize cj3 b.e=ha at*;generalize bu0 cols b.nm=hc at*
 cases hw:ch2 b.nm with
 |false=>
  rw[hw]at h2;refine ye2 func44 ntmps44 fun _ _ _=>?_
  repeat'(first|refine yz ?_|refine yp b61 h1 ?_|refine yp b58 h2 ?_|exact zD)
 |true=>
 rw[hw]at h2
 cases kn with
 |false=>
  refine ye2 func44 ntmps44 fun _ _ _=>?_
  repeat'(first|refine yz ?_|refine yp b61 h1 ?_|refine yp b58 h2 ?_|refine yp b62 h3 ?_|exact zD)
 |true=>
 cases ha with
 |true=>
  refine ye2 func44 ntmps44 fun _ _ _=>?_
  repeat'(first|refine yz ?_|refine yp b61 h1 ?_|refine yp b58 h2 ?_|refine yp b62 h3 ?_|refine yp b63 h4 ?_|exact zD)
 |false=>
 cases hc with
 |true=>
  refine ye2 func44 ntmps44 fun _ _ _=>?_
  repeat'(first|refine yz ?_|refine yp b61 h1 ?_|refine yp b58 h2 ?_|refine yp b62 h3 ?_|refine yp b63 h4 ?_|refine yp b60 h5 ?_|exact zD)
 |false=>
  refine ye2 func44 ntmps44 fun _ _ _=>?_
  repeat'(first|refine yz ?_|refine yp b61 h1 ?_|refine yp b58 h2 ?_|refine yp b62 h3 ?_|refine yp b63 h4 ?_|refine yp b60 h5 ?_|exact zD)
structure SMuP(l:List ByteArray) where
 i:Nat
 hi:i≤l.length
 ok:l.all (fun s=>ch2 s||de4 s)=(l.drop i).all fun s=>ch2 s||de4 s
theorem dn4(c:CJ)(hl:c.vs.length≤1000000):Ev E 37 [by9 c] (.tup [.sl ((df0 c).1.map .str),.int (df0 c).2]):=Ev.fit fun hfit=>by
 have hk:=dm5 c;have hle:(c.vs.map D.str).length=c.vs.length:=Oc
 have hcl:=dm9 c.vs Oa;unfold df0
 cases hz:dc6 c !=0 with
 |true=>
  rw[cond_true];generalize dc6 c=z at*;show Ev E 37 [by9 c] (.tup [.sl [],.int z]);refine ye1 func37 ntmps37 fun _ _ _=>?_
  repeat'(first|refine yz ?_|refine yp b57 hk ?_|exact zL)
 |false=>
  have h0:dc6 c=0:=by simpa using hz
  rw[h0]at hk;rw[cond_false];clear hz h0;refine ye1 func37 ntmps37 fun _ _ _=>?_
  repeat'(first|refine yz ?_|refine yp b57 hk ?_)
  refine ac7 (α:=SMuP c.vs) (fun p=>⟨[(1,.ptr 0 0),(13,.d (.sl (c.vs.map .str))),(14,.d (.int (c.vs.map D.str).length)),(15,.d (.int p.i))],[oCJ c]⟩) (fun p=>c.vs.length-p.i) ⟨0,by omega,rfl⟩ (zle 1) ?_;rintro⟨i,hi,ok⟩;dsimp only;rcases ex7 i c.vs.length with hlt|hge
  ·have g1:decide ((i:Int)<((c.vs.map D.str).length:Int))=true:=by rw[hle];simpa using hlt
   have hx0:=ex6 hlt;generalize c.vs[i]=x at hx0;have hx:=cn9 (f:=D.str) hx0;have h1:=dm1 x;have h2:=dm2 x;rw[cn8 hx0,fd8]at ok
   cases hw:ch2 x with
   |true=>
    rw[hw]at h1 ok;rw[Bool.true_or,fc1]at ok
    repeat'(first|refine yz ?_|refine yi (.str x) hx ?_|refine yp b58 h1 ?_)
    refine ac1 ?_;exact⟨⟨i+1,by omega,ok⟩,by dsimp only;omega,(zle 1)⟩
   |false=>
    rw[hw]at h1 ok
    cases hu:de4 x with
    |true=>
     rw[hu]at h2 ok;rw[fc8,fc1]at ok
     repeat'(first|refine yz ?_|refine yi (.str x) hx ?_|refine yp b58 h1 ?_|refine yp b59 h2 ?_)
     refine ac1 ?_;exact⟨⟨i+1,by omega,ok⟩,by dsimp only;omega,(zle 1)⟩
    |false=>
     rw[hu]at h2 ok;rw[ok]
     repeat'(first|refine yz ?_|refine yi (.str x) hx ?_|refine yp b58 h1 ?_|refine yp b59 h2 ?_|exact zL)
  ·have g1:decide ((i:Int)<((c.vs.map D.str).length:Int))=false:=by rw[hle];simp;omega
   rw[ez5 hge,List.all_nil]at ok;rw[ok]
   repeat'(first|refine yz ?_|refine yp b45 hcl ?_|exact zL)
abbrev oPB(b:PB)(K:List D):aa5:=.var 40 (.w (.d (dd5 b K)))
theorem dn5(l:List ByteArray)(s:ByteArray):EvS E 60 [.own 0,.d (.str s)] [.row 9 1 (l.map .str)] (.d (.bool (bu0 l s))) [.row 9 1 (l.map .str)]:=
 dm6 (ds:=[]) (es:=[.str s]) (bw5 l s)
structure SItP(g:Bool)(cols:List ByteArray)(l:List IT) where
 i:Nat
 out:List ByteArray
 hi:i≤l.length
 ho:out.length=i
 ok:df4 g cols l []=df4 g cols (l.drop i) out
theorem dn6{g:Bool}{cols out:List ByteArray}{l:List IT}{i:Nat}{x:IT}(h:l[i]? =some x):df4 g cols (l.drop i) out=bif df3 g x cols out !=0 then erR (df3 g x cols out)else df4 g cols (l.drop (i+1)) (out++ [x.asn]):=by
 rw[cn8 h,df4]
set_option maxHeartbeats 4000000 in
theorem dn7(b:PB)(K:List D)(cols:List ByteArray)(hs:∀x∈b.it,smE x.e):Ev E 39 [dd5 b K,.sl (cols.map .str)]
  (.tup [.sl ((bif decide (b.it.length>24)then erR 4 else df4 (b.op==8) cols b.it []).1.map .str),.int (bif decide (b.it.length>24)then erR 4 else df4 (b.op==8) cols b.it []).2]):=by
 have hle:(b.it.map ci9).length=b.it.length:=Oc
 generalize hg8:(b.op==8)=g8
 cases hn:decide (b.it.length>24)with
 |true=>
  have g1:decide (((b.it.map ci9).length:Int)>24)=true:=by rw[hle];simp at hn ⊢;omega
  show Ev E 39 _ (.tup [.sl [],.int 4]);refine ye2 func39 ntmps39 fun _ _ _=>?_
  exact Ok
 |false=>
 have hn24:b.it.length≤24:=by have:=of_decide_eq_false hn;omega
 have g1:decide (((b.it.map ci9).length:Int)>24)=false:=by rw[hle];simp;omega
 rw[cond_false];refine ye2 func39 ntmps39 fun _ _ _=>?_
 repeat'(refine yz ?_)
 refine ac7 (α:=SItP g8 cols b.it) (fun p=>⟨[(1,.d (.sl (cols.map .str))),(2,.ptr 0 0),(6,bf7 1 (p.out.map .str)),(16,.d (.sl (b.it.map ci9))),(17,.d (.int (b.it.map ci9).length)),(18,.d (.int p.i))],[oPB b K]++aw6 9 1 (p.out.map .str)⟩) (fun p=>b.it.length-p.i) ⟨0,[],by omega,rfl,rfl⟩ (zle 1) ?_;rintro⟨i,out,hi,ho,ok⟩;dsimp only;rcases ex7 i b.it.length with hlt|hge
 ·have g2:decide ((i:Int)<((b.it.map ci9).length:Int))=true:=by rw[hle];simpa using hlt
  have hx0:=ex6 hlt;generalize b.it[i]=x at hx0;have hx:=cn9 (f:=ci9) hx0;have hm:=hs x (ey0 hx0);have h1:=ci4 x.e (dn0 hm) hm;have h2:=dm1 x.asn;have h3:=cy1 x.e cols hm;have h4:=cq0 x.e;have hat:=dn6 (g:=g8) (cols:=cols) (out:=out) hx0;unfold df3 at hat;rw[ok,hat];generalize cx5 x.e cols=kn at*;generalize cj3 x.e=ha at*
  match out,ho,ok with
  |[],ho,ok=>
   dsimp only[bf7,aw6,List.map,List.append,HAppend.hAppend,Append.append];have hcon:=bw5 [] x.asn;generalize hq:bu0 [] x.asn=hc at*
   cases hz:ci3 x.e !=0 with
   |true=>
    rw[cond_true,hz,cond_true];generalize ci3 x.e=z at*;show go _ _ _ (an5 _ _ (.tup [.sl [],.int z]))
    repeat'(first|refine yz ?_|refine yi (ci9 x) hx ?_|refine bj5 rfl rfl rfl rfl rfl rfl rfl ?_|refine yp b61 h1 ?_|exact zL)
   |false=>
   have h0:ci3 x.e=0:=by simpa using hz
   rw[h0]at h1;rw[cond_false];clear h0
   cases hw:ch2 x.asn with
   |false=>
    rw[hw]at h2;show go _ _ _ (an5 _ _ (.tup [.sl [],.int 6]))
    repeat'(first|refine yz ?_|refine yi (ci9 x) hx ?_|refine bj5 rfl rfl rfl rfl rfl rfl rfl ?_|refine yp b61 h1 ?_|refine yp b58 h2 ?_|(refine yy ?_ ?_<;>intro _)|exact zL)
   |true=>
   rw[hw]at h2
   cases kn with
   |false=>
    show go _ _ _ (an5 _ _ (.tup [.sl [],.int 6]))
    repeat'(first|refine yz ?_|refine yi (ci9 x) hx ?_|refine bj5 rfl rfl rfl rfl rfl rfl rfl ?_|refine yp b61 h1 ?_|refine yp b58 h2 ?_|refine yp b62 h3 ?_|(refine yy ?_ ?_<;>intro _)|exact zL)
   |true=>
   cases ha with
   |false=>
    cases g8 with
    |false=>
     cases hc with
     |true=>
      simp[bu0]at hq
     |false=>
      show go _ _ _ (an5 _ _ (.tup [.sl ((df4 false cols (b.it.drop (i+1)) ([]++ [x.asn])).1.map .str),.int (df4 false cols (b.it.drop (i+1)) ([]++ [x.asn])).2]));have hnew:df4 false cols b.it []=df4 false cols (b.it.drop (i+1)) ([]++ [x.asn]):=by rw[ok,hat,hz,hw];rfl
      rw[←hnew]
      repeat'(first|refine yz ?_|refine yi (ci9 x) hx ?_|refine bj5 rfl rfl rfl rfl rfl rfl rfl ?_|refine yp b61 h1 ?_|refine yp b58 h2 ?_|refine yp b62 h3 ?_|refine yp b63 h4 ?_|refine yp b60 hcon ?_|(refine qS rfl ⟨by simp,fun d hd=>by(obtain rfl:=ez3.1 hd;rfl),by(show _*16≤140737488355328;simp;try omega),by(show _≤9223372036854775807;simp;try omega)⟩ ?_)|refine yx ?_)
      refine ac1 ?_;exact⟨⟨i+1,[]++ [x.asn],by omega,by simp only[ex8,ex9,ey5]at*;omega,hnew⟩,by dsimp only;omega,(bg8 [0,2])⟩
    |true=>
     cases hc with
     |true=>
      simp[bu0]at hq
     |false=>
      show go _ _ _ (an5 _ _ (.tup [.sl ((df4 true cols (b.it.drop (i+1)) ([]++ [x.asn])).1.map .str),.int (df4 true cols (b.it.drop (i+1)) ([]++ [x.asn])).2]));have hnew:df4 true cols b.it []=df4 true cols (b.it.drop (i+1)) ([]++ [x.asn]):=by rw[ok,hat,hz,hw];rfl
      rw[←hnew]
      repeat'(first|refine yz ?_|refine yi (ci9 x) hx ?_|refine bj5 rfl rfl rfl rfl rfl rfl rfl ?_|refine yp b61 h1 ?_|refine yp b58 h2 ?_|refine yp b62 h3 ?_|refine yp b63 h4 ?_|refine yp b60 hcon ?_|(refine qS rfl ⟨by simp,fun d hd=>by(obtain rfl:=ez3.1 hd;rfl),by(show _*16≤140737488355328;simp;try omega),by(show _≤9223372036854775807;simp;try omega)⟩ ?_)|refine yx ?_)
      refine ac1 ?_;exact⟨⟨i+1,[]++ [x.asn],by omega,by simp only[ex8,ex9,ey5]at*;omega,hnew⟩,by dsimp only;omega,(bg8 [0,2])⟩
   |true=>
    cases g8 with
    |false=>
     show go _ _ _ (an5 _ _ (.tup [.sl [],.int 9]))
     repeat'(first|refine yz ?_|refine yi (ci9 x) hx ?_|refine bj5 rfl rfl rfl rfl rfl rfl rfl ?_|refine yp b61 h1 ?_|refine yp b58 h2 ?_|refine yp b62 h3 ?_|refine yp b63 h4 ?_|refine yx ?_|exact zL)
    |true=>
     cases c2:x.e.op==24 with
     |false=>
      have c3:(!(x.e.op==24))=true:=by rw[c2];rfl
      show go _ _ _ (an5 _ _ (.tup [.sl [],.int 9]))
      repeat'(first|refine yz ?_|refine yi (ci9 x) hx ?_|refine bj5 rfl rfl rfl rfl rfl rfl rfl ?_|refine yp b61 h1 ?_|refine yp b58 h2 ?_|refine yp b62 h3 ?_|refine yp b63 h4 ?_|refine yx ?_|exact zL)
     |true=>
      rw[c2]at hat;have c3:(!(x.e.op==24))=false:=by rw[c2];rfl
      cases hc with
      |true=>
       simp[bu0]at hq
      |false=>
       show go _ _ _ (an5 _ _ (.tup [.sl ((df4 true cols (b.it.drop (i+1)) ([]++ [x.asn])).1.map .str),.int (df4 true cols (b.it.drop (i+1)) ([]++ [x.asn])).2]));have hnew:df4 true cols b.it []=df4 true cols (b.it.drop (i+1)) ([]++ [x.asn]):=by rw[ok,hat,hz,hw];rfl
       rw[←hnew]
       repeat'(first|refine yz ?_|refine yi (ci9 x) hx ?_|refine bj5 rfl rfl rfl rfl rfl rfl rfl ?_|refine yp b61 h1 ?_|refine yp b58 h2 ?_|refine yp b62 h3 ?_|refine yp b63 h4 ?_|refine yp b60 hcon ?_|(refine qS rfl ⟨by simp,fun d hd=>by(obtain rfl:=ez3.1 hd;rfl),by(show _*16≤140737488355328;simp;try omega),by(show _≤9223372036854775807;simp;try omega)⟩ ?_)|refine yx ?_)
       refine ac1 ?_;exact⟨⟨i+1,[]++ [x.asn],by omega,by simp only[ex8,ex9,ey5]at*;omega,hnew⟩,by dsimp only;omega,(bg8 [0,2])⟩
  |a::q,ho,ok=>
   dsimp only[bf7,aw6,List.map,List.append,HAppend.hAppend,Append.append];have hcon:=dn5 (a::q) x.asn;generalize hq:bu0 (a::q) x.asn=hc at*
   cases hz:ci3 x.e !=0 with
   |true=>
    rw[cond_true,hz,cond_true];generalize ci3 x.e=z at*;show go _ _ _ (an5 _ _ (.tup [.sl [],.int z]))
    repeat'(first|refine yz ?_|refine yi (ci9 x) hx ?_|refine bj5 rfl rfl rfl rfl rfl rfl rfl ?_|refine yp b61 h1 ?_|exact zL)
   |false=>
   have h0:ci3 x.e=0:=by simpa using hz
   rw[h0]at h1;rw[cond_false];clear h0
   cases hw:ch2 x.asn with
   |false=>
    rw[hw]at h2;show go _ _ _ (an5 _ _ (.tup [.sl [],.int 6]))
    repeat'(first|refine yz ?_|refine yi (ci9 x) hx ?_|refine bj5 rfl rfl rfl rfl rfl rfl rfl ?_|refine yp b61 h1 ?_|refine yp b58 h2 ?_|(refine yy ?_ ?_<;>intro _)|exact zL)
   |true=>
   rw[hw]at h2
   cases kn with
   |false=>
    show go _ _ _ (an5 _ _ (.tup [.sl [],.int 6]))
    repeat'(first|refine yz ?_|refine yi (ci9 x) hx ?_|refine bj5 rfl rfl rfl rfl rfl rfl rfl ?_|refine yp b61 h1 ?_|refine yp b58 h2 ?_|refine yp b62 h3 ?_|(refine yy ?_ ?_<;>intro _)|exact zL)
   |true=>
   cases ha with
   |false=>
    cases g8 with
    |false=>
     cases hc with
     |true=>
      show go _ _ _ (an5 _ _ (.tup [.sl [],.int 7]))
      repeat'(first|refine yz ?_|refine yi (ci9 x) hx ?_|refine bj5 rfl rfl rfl rfl rfl rfl rfl ?_|refine yp b61 h1 ?_|refine yp b58 h2 ?_|refine yp b62 h3 ?_|refine yp b63 h4 ?_|refine yc [1] b60 (hcon) ?_|refine yx ?_|exact zL)
     |false=>
      show go _ _ _ (an5 _ _ (.tup [.sl ((df4 false cols (b.it.drop (i+1)) ((a::q)++ [x.asn])).1.map .str),.int (df4 false cols (b.it.drop (i+1)) ((a::q)++ [x.asn])).2]));have hnl:q.length≤24:=by simp only[ex9]at ho;omega
      have hnew:df4 false cols b.it []=df4 false cols (b.it.drop (i+1)) ((a::q)++ [x.asn]):=by rw[ok,hat,hz,hw];rfl
      rw[←hnew]
      repeat'(first|refine yz ?_|refine yi (ci9 x) hx ?_|refine bj5 rfl rfl rfl rfl rfl rfl rfl ?_|refine yp b61 h1 ?_|refine yp b58 h2 ?_|refine yp b62 h3 ?_|refine yp b63 h4 ?_|refine yc [1] b60 (hcon) ?_|(refine qS rfl ⟨by simp,fun d hd=>by(obtain rfl:=ez3.1 hd;rfl),by(show _*16≤140737488355328;simp;try omega),by(show _≤9223372036854775807;simp;try omega)⟩ ?_)|refine yx ?_)
      refine ac1 ?_;have hmap:(a::q++ [x.asn]).map D.str=(D.str a::List.map D.str q)++ [D.str x.asn]:=Oc
      refine⟨⟨i+1,a::q++ [x.asn],by omega,by simp only[ex8,ex9,ey5]at*;omega,hnew⟩,by dsimp only;omega,?_⟩;dsimp only;rw[hmap];exact(bg8 [0,3])
    |true=>
     cases hc with
     |true=>
      show go _ _ _ (an5 _ _ (.tup [.sl [],.int 7]))
      repeat'(first|refine yz ?_|refine yi (ci9 x) hx ?_|refine bj5 rfl rfl rfl rfl rfl rfl rfl ?_|refine yp b61 h1 ?_|refine yp b58 h2 ?_|refine yp b62 h3 ?_|refine yp b63 h4 ?_|refine yc [1] b60 (hcon) ?_|refine yx ?_|exact zL)
     |false=>
      show go _ _ _ (an5 _ _ (.tup [.sl ((df4 true cols (b.it.drop (i+1)) ((a::q)++ [x.asn])).1.map .str),.int (df4 true cols (b.it.drop (i+1)) ((a::q)++ [x.asn])).2]));have hnl:q.length≤24:=by simp only[ex9]at ho;omega
      have hnew:df4 true cols b.it []=df4 true cols (b.it.drop (i+1)) ((a::q)++ [x.asn]):=by rw[ok,hat,hz,hw];rfl
      rw[←hnew]
      repeat'(first|refine yz ?_|refine yi (ci9 x) hx ?_|refine bj5 rfl rfl rfl rfl rfl rfl rfl ?_|refine yp b61 h1 ?_|refine yp b58 h2 ?_|refine yp b62 h3 ?_|refine yp b63 h4 ?_|refine yc [1] b60 (hcon) ?_|(refine qS rfl ⟨by simp,fun d hd=>by(obtain rfl:=ez3.1 hd;rfl),by(show _*16≤140737488355328;simp;try omega),by(show _≤9223372036854775807;simp;try omega)⟩ ?_)|refine yx ?_)
      refine ac1 ?_;have hmap:(a::q++ [x.asn]).map D.str=(D.str a::List.map D.str q)++ [D.str x.asn]:=Oc
      refine⟨⟨i+1,a::q++ [x.asn],by omega,by simp only[ex8,ex9,ey5]at*;omega,hnew⟩,by dsimp only;omega,?_⟩;dsimp only;rw[hmap];exact(bg8 [0,3])
   |true=>
    cases g8 with
    |false=>
     show go _ _ _ (an5 _ _ (.tup [.sl [],.int 9]))
     repeat'(first|refine yz ?_|refine yi (ci9 x) hx ?_|refine bj5 rfl rfl rfl rfl rfl rfl rfl ?_|refine yp b61 h1 ?_|refine yp b58 h2 ?_|refine yp b62 h3 ?_|refine yp b63 h4 ?_|refine yx ?_|exact zL)
    |true=>
     cases c2:x.e.op==24 with
     |false=>
      have c3:(!(x.e.op==24))=true:=by rw[c2];rfl
      show go _ _ _ (an5 _ _ (.tup [.sl [],.int 9]))
      repeat'(first|refine yz ?_|refine yi (ci9 x) hx ?_|refine bj5 rfl rfl rfl rfl rfl rfl rfl ?_|refine yp b61 h1 ?_|refine yp b58 h2 ?_|refine yp b62 h3 ?_|refine yp b63 h4 ?_|refine yx ?_|exact zL)
     |true=>
      rw[c2]at hat;have c3:(!(x.e.op==24))=false:=by rw[c2];rfl
      cases hc with
      |true=>
       show go _ _ _ (an5 _ _ (.tup [.sl [],.int 7]))
       repeat'(first|refine yz ?_|refine yi (ci9 x) hx ?_|refine bj5 rfl rfl rfl rfl rfl rfl rfl ?_|refine yp b61 h1 ?_|refine yp b58 h2 ?_|refine yp b62 h3 ?_|refine yp b63 h4 ?_|refine yc [1] b60 (hcon) ?_|refine yx ?_|exact zL)
      |false=>
       show go _ _ _ (an5 _ _ (.tup [.sl ((df4 true cols (b.it.drop (i+1)) ((a::q)++ [x.asn])).1.map .str),.int (df4 true cols (b.it.drop (i+1)) ((a::q)++ [x.asn])).2]));have hnl:q.length≤24:=by simp only[ex9]at ho;omega
       have hnew:df4 true cols b.it []=df4 true cols (b.it.drop (i+1)) ((a::q)++ [x.asn]):=by rw[ok,hat,hz,hw];rfl
       rw[←hnew]
       repeat'(first|refine yz ?_|refine yi (ci9 x) hx ?_|refine bj5 rfl rfl rfl rfl rfl rfl rfl ?_|refine yp b61 h1 ?_|refine yp b58 h2 ?_|refine yp b62 h3 ?_|refine yp b63 h4 ?_|refine yc [1] b60 (hcon) ?_|(refine qS rfl ⟨by simp,fun d hd=>by(obtain rfl:=ez3.1 hd;rfl),by(show _*16≤140737488355328;simp;try omega),by(show _≤9223372036854775807;simp;try omega)⟩ ?_)|refine yx ?_)
       refine ac1 ?_;have hmap:(a::q++ [x.asn]).map D.str=(D.str a::List.map D.str q)++ [D.str x.asn]:=Oc
       refine⟨⟨i+1,a::q++ [x.asn],by omega,by simp only[ex8,ex9,ey5]at*;omega,hnew⟩,by dsimp only;omega,?_⟩;dsimp only;rw[hmap];exact(bg8 [0,3])
 ·have g2:decide ((i:Int)<((b.it.map ci9).length:Int))=false:=by rw[hle];simp;omega
  rw[ok,ez5 hge,df4]
  match out with
  |[]=>
   dsimp only[bf7,aw6,List.map]
   exact Ok
  |a::q=>
   dsimp only[bf7,aw6,List.map];refine au1 1 rfl ?_;dsimp only[ar5,ar4,ar7,ar6,List.map,List.set]
   exact Ok
abbrev rS(l:List ByteArray):aa5:=.row 9 1 (l.map .str)
def fS(k:Nat):List ByteArray→X
 |[]=>.nilS
 |_::_=>.own k
def gS:List ByteArray→aa5
 |[]=>.dead
 |x::r=>rS (x::r)
structure dn8(P:Prop):Prop where
 h:P
theorem dn9{C:Cx}{r:List It}{s:St}{Q:Exit→St→Prop}{α:Type}(id t:Nat){l:Array Oper}{d:Bool}{a b:Code}{c:Code}(S:α→St)(b0:α)(h1:dn8 (go C (.code (.seq (.region id l d) (.cond (.tmp t) a b)):: .stop (fun s'=>∃b,b=b0∧Le C s' (S b)):: .code c::r) s Q))
  (h2:dn8 (go C (.code c::r) (S b0) Q)):go C (.code (.seq (.region id l d) (.cond (.tmp t) a b)):: .code c::r) s Q:=by
 refine bd0 _ h1.h ?_;rintro s' ⟨b,rfl,hl⟩;exact ac6 hl h2.h
theorem do0{s:ByteArray}(h:s0B s=true):EvS E 69 [.nilS,.d (.str s)] [] .nilS []:=by
 have g0:(s.toList==(⟨#[]⟩:ByteArray).toList)=true:=h;refine yn func69 ntmps69 fun _ _ _ _=>?_
 repeat'(first|refine yz ?_|refine bb0 [] rfl rfl rfl rfl rfl ?_|refine yx ?_)
 all_goals rfl
theorem do1{s:ByteArray}(h:s0B s=false):EvS E 69 [.nilS,.d (.str s)] [] (.own 0) [rS [s]]:=by
 have g0:(s.toList==(⟨#[]⟩:ByteArray).toList)=false:=h;have hc:=bw5 [] s;have hc:Ev E 60 [.sl [],.str s] (.d (.bool false)):=hc;refine yn func69 ntmps69 fun _ _ _ _=>?_
 repeat'(first|refine yz ?_|refine yp b60 hc ?_|(refine qS rfl ⟨by simp,fun d hd=>by(obtain rfl:=ez3.1 hd;rfl),by(show(0+1)*16≤140737488355328;omega),by(show 0+1≤9223372036854775807;omega)⟩ ?_)|refine bb0 [0] rfl rfl rfl rfl rfl ?_|refine yx ?_)
 all_goals rfl
theorem do2{s:ByteArray}{l:List ByteArray}(h:(s0B s||bu0 l s)=true):EvS E 69 [.own 0,.d (.str s)] [rS l] (.own 0) [rS l]:=by
 have hc:=dn5 l s
 cases h0:s0B s with
 |true=>
  have g0:(s.toList==(⟨#[]⟩:ByteArray).toList)=true:=h0;refine yn func69 ntmps69 fun _ _ _ _=>?_
  repeat'(first|refine yz ?_|refine bb0 [0] rfl rfl rfl rfl rfl ?_|refine yx ?_)
  all_goals rfl
 |false=>
  have g0:(s.toList==(⟨#[]⟩:ByteArray).toList)=false:=h0;rw[h0,fc8]at h;rw[h]at hc;refine yn func69 ntmps69 fun _ _ _ _=>?_
  repeat'(first|refine yz ?_|refine yc [0] b60 (hc) ?_|refine bb0 [0] rfl rfl rfl rfl rfl ?_|refine yx ?_)
  all_goals rfl
theorem do3{s:ByteArray}{l:List ByteArray}(h:(s0B s||bu0 l s)=false)(hl:l.length≤1000000):EvS E 69 [.own 0,.d (.str s)] [rS l] (.own 1) [.dead,rS (l++ [s])]:=by
 have hc:=dn5 l s;rw[fa9]at h;have g0:(s.toList==(⟨#[]⟩:ByteArray).toList)=false:=h.1;rw[h.2]at hc;have hle:(l.map D.str).length=l.length:=Oc
 have hm:(l++ [s]).map D.str=l.map D.str++ [.str s]:=Oc
 unfold rS;rw[hm];refine yn func69 ntmps69 fun _ _ _ _=>?_
 repeat'(first|refine yz ?_|refine yc [0] b60 (hc) ?_|(refine qS rfl ⟨by simp,fun d hd=>by(obtain rfl:=ez3.1 hd;rfl),by(show((l.map D.str).length+1)*16≤140737488355328;omega),by(show(l.map D.str).length+1≤9223372036854775807;omega)⟩ ?_)|refine bb0 [0,1] rfl rfl rfl rfl rfl ?_|refine yx ?_)
 all_goals rfl
def nE(es:List EP)(i:Nat):List ByteArray:=(es[i]?).toList.map EP.vr
def nN(ns:List NP)(i:Nat):List ByteArray:=(ns[i]?).toList.map NP.vr
def nB(es:List EP):Nat→List ByteArray
 |0=>[]
 |j+1=>nE es j
def rnd(ns:List NP)(es:List EP)(i:Nat):List ByteArray:=nB es i++nN ns i
def do4(ns:List NP)(es:List EP)(i:Nat):List ByteArray:=nN ns i++nE es i
theorem do5{f:Nat→List ByteArray}(n:Nat):(List.range (n+1)).flatMap f=(List.range n).flatMap f++f n:=by rw[List.range_succ,fg4];simp
theorem do6(ns:List NP)(es:List EP):∀n,(List.range (n+1)).flatMap (rnd ns es)=(List.range n).flatMap (do4 ns es)++nN ns n
 |0=>by simp[rnd,nB]
 |n+1=>by rw[do5,do6 ns es n,do5];simp[rnd,do4,nB]
theorem do7{f:Nat→List ByteArray}(h:∀i,f i=[])(n:Nat):(List.range n).flatMap f=[]:=by
 rw[List.flatMap_eq_nil_iff];intro i _;exact h i
theorem do8{f g:Nat→List ByteArray}(h:∀i,f (i+1)=g i):∀n,(List.range (n+1)).flatMap f=f 0++(List.range n).flatMap g
 |0=>by simp
 |n+1=>by rw[do5,do8 h n,do5,h];simp
theorem do9:∀(ns:List NP) (es:List EP) (n:Nat),ns.length≤n→es.length≤n→(List.range n).flatMap (do4 ns es)=de7 ns es
 |[],[],n,_,_=>by rw[de7,fe4];exact do7 (fun i=>by simp[do4,nN,nE]) n
 |[],e::q,n,_,h=>by
  match n,h with
  |n+1,h=>
   rw[de7,fa1,do8 (g:=do4 [] q) (fun i=>by simp[do4,nN,nE]),do9 [] q n Oc (by simpa using h)];simp[do4,nN,nE,de7]
 |a::r,[],n,h,_=>by
  match n,h with
  |n+1,h=>
   rw[de7,do8 (g:=do4 r []) (fun i=>by simp[do4,nN,nE]),do9 r [] n (by simpa using h) Oc]
   cases r<;>simp[do4,nN,nE,de7]
 |a::r,e::q,n,h1,h2=>by
  match n,h1,h2 with
  |n+1,h1,h2=>
   rw[de7,do8 (g:=do4 r q) (fun i=>by simp[do4,nN,nE]),do9 r q n (by simpa using h1) (by simpa using h2)];simp[do4,nN,nE]
theorem dp0(ns:List NP)(es:List EP){n:Nat}(hn:n=max ns.length (es.length+1)):(List.range n).flatMap (rnd ns es)=de7 ns es:=by
 obtain⟨m,rfl⟩:∃m,n=m+1:=⟨n-1,by omega⟩;rw[do6,←do9 ns es (m+1) Oa Oa,do5];have:nE es m=[]:=by unfold nE;rw[fa7 Oa];rfl
 rw[do4,this,fd4]
def dp1(l:List ByteArray)(ns:List ByteArray):List ByteArray:=ns.foldl de6 l
theorem dp2(l a b:List ByteArray):dp1 l (a++b)=dp1 (dp1 l a) b:=by unfold dp1;rw[List.foldl_append]
theorem dp3:∀(ns l:List ByteArray),(dp1 l ns).length≤l.length+ns.length
 |[],l=>by simp[dp1]
 |s::r,l=>by
  have h1:=dp3 r (de6 l s);have h2:(de6 l s).length≤l.length+1:=by unfold de6;cases s0B s||bu0 l s<;>simp
  show(dp1 (de6 l s) r).length≤_;simp only[ex9];omega
theorem dp4{l:List ByteArray}{s:ByteArray}(h:(s0B s||bu0 l s)=true):de6 l s=l:=by unfold de6;rw[h];rfl
theorem dp5{l:List ByteArray}{s:ByteArray}(h:(s0B s||bu0 l s)=false):de6 l s=l++ [s]:=by unfold de6;rw[h];rfl
abbrev oPAp(p:PA):aa5:=.var 69 (.w (.d (ci8 p)))
structure SVi(M:Nat) where
 j:Nat
 hj:j≤M
structure SVo(l:List PA) where
 i:Nat
 hi:i≤l.length
theorem nN_at{ns:List NP}{i:Nat}{x:NP}(h:ns[i]? =some x):nN ns i=[x.vr]:=by unfold nN;rw[h];rfl
theorem dp6{ns:List NP}{i:Nat}(h:ns.length≤i):nN ns i=[]:=by unfold nN;rw[fa7 h];rfl
theorem nE_at{es:List EP}{i:Nat}{x:EP}(h:es[i]? =some x):nE es i=[x.vr]:=by unfold nE;rw[h];rfl
theorem dp7{es:List EP}{i:Nat}(h:es.length≤i):nE es i=[]:=by unfold nE;rw[fa7 h];rfl
theorem dp8(l:List ByteArray)(s:ByteArray):(l++ [s]).map D.str=l.map D.str++ [.str s]:=Oc
set_option maxHeartbeats 4000000 in
theorem dp9(l:List PA)(hsm:(de8 l).length≤900000)(hn:∀p∈l,p.ns.length≤1000000∧p.es.length≤1000000):Ev E 41 [.sl (l.map ci8)] (.d (.sl ((de9 l).map .str))):=Ev.fit fun hfit=>by
 have hmax:=(co0 (hfit (.sl (l.map ci8)) Oc)).1;have hle:(l.map ci8).length=l.length:=Oc
 refine ye1 func41 ntmps41 fun _ _ _=>?_
 repeat'(refine yz ?_)
 refine bj9 ?_;refine ac7 (α:=SVo l) (fun p=>⟨[(3,fS 0 (dp1 [] (de8 (l.take p.i)))),(7,.d (.sl (l.map ci8))),(8,.d (.int (l.map ci8).length)),(9,.d (.int p.i))],[gS (dp1 [] (de8 (l.take p.i)))]⟩) (fun p=>l.length-p.i) ⟨0,by omega⟩ (zle 1) ?_;rintro⟨i,hi⟩;dsimp only;rcases ex7 i l.length with hlt|hge
 ·have g1:decide ((i:Int)<((l.map ci8).length:Int))=true:=by rw[hle];simpa using hlt
  have hx0:=ex6 hlt;generalize l[i]=p at hx0;have hx:=cn9 (f:=ci8) hx0;have hpm:=ey0 hx0;obtain⟨hns,hes⟩:=hn p hpm;have hln:(p.ns.map ci6).length=p.ns.length:=Oc
  have hlee:(p.es.map ci7).length=p.es.length:=Oc
  have htk:de8 (l.take (i+1))=de8 (l.take i)++(de7 p.ns p.es++ [p.vr]):=by unfold de8;rw[fc0,hx0,fg4];simp
  have hbnd:(de8 (l.take (i+1))).length≤900000:=by
   have h:de8 l=de8 (l.take (i+1))++de8 (l.drop (i+1)):=by unfold de8;rw[←fg4,fd9]
   have:=congrArg List.length h;rw[ex8]at this;omega
  rw[htk,ex8,ex8]at hbnd;simp only[ex9,ey5]at hbnd;obtain⟨L0,hL0⟩:∃L0,L0=dp1 [] (de8 (l.take i)):=⟨_,rfl⟩;have hL0l:L0.length≤(de8 (l.take i)).length:=by rw[hL0];have:=dp3 (de8 (l.take i)) [];simpa using this
  have hend:dp1 [] (de8 (l.take (i+1)))=de6 (dp1 L0 (de7 p.ns p.es)) p.vr:=by rw[htk,dp2,dp2,←hL0];rfl
  rw[←hL0];clear hL0;obtain⟨M,hM⟩:∃M,M=max p.ns.length (p.es.length+1):=⟨_,rfl⟩;have hMx:(max ((p.ns.map ci6).length:Int) (((p.es.map ci7).length:Int)+1))=(M:Int):=by rw[hln,hlee,hM];omega
  have hin:∀j,j≤M→(dp1 L0 ((List.range j).flatMap (rnd p.ns p.es))).length≤900000:=fun j hj=>by
   have h1:=dp3 ((List.range j).flatMap (rnd p.ns p.es)) L0
   have h2:((List.range j).flatMap (rnd p.ns p.es)).length≤(de7 p.ns p.es).length:=by
    have h3:=dp0 p.ns p.es hM
    have h4:List.range M=List.range j++(List.range M).drop j:=by
     have h5:=fd9 j (List.range M);rw[List.take_range,Nat.min_eq_left hj]at h5;exact h5.symm
    rw[h4,fg4]at h3;have:=congrArg List.length h3;rw[ex8]at this;omega
   omega
  repeat'(first|refine yz ?_|refine yi (ci8 p) hx ?_)
  refine ac7 (α:=SVi M) (fun q=>⟨[(3,fS 0 (dp1 L0 ((List.range q.j).flatMap (rnd p.ns p.es)))),(5,.ptr 1 0),(7,.d (.sl (l.map ci8))),(8,.d (.int (l.map ci8).length)),(9,.d (.int i)),(20,.d (.int (max ((p.ns.map ci6).length:Int) (((p.es.map ci7).length:Int)+1)))),(21,.d (.int q.j))],[gS (dp1 L0 ((List.range q.j).flatMap (rnd p.ns p.es))),oPAp p]⟩) (fun q=>M-q.j) ⟨0,by omega⟩ (by
   dsimp only;show Le _ _ ⟨[(3,fS 0 L0),_,_,_,_,_,_],[gS L0,_]⟩;rcases L0 with _|⟨a0,q0⟩<;>exact(zle 2)) ?_
  rintro⟨j,hj⟩;dsimp only;have hL1b:=hin j hj;have hnext:dp1 L0 ((List.range (j+1)).flatMap (rnd p.ns p.es))=dp1 (dp1 (dp1 L0 ((List.range j).flatMap (rnd p.ns p.es))) (nB p.es j)) (nN p.ns j):=by rw[do5,dp2,rnd,dp2]
  have hlast:j=M→dp1 L0 ((List.range j).flatMap (rnd p.ns p.es))=dp1 L0 (de7 p.ns p.es):=fun h=>by rw[h,dp0 p.ns p.es hM]
  clear hin;generalize dp1 L0 ((List.range j).flatMap (rnd p.ns p.es))=L1 at*
  have hL2b:(dp1 L1 (nB p.es j)).length≤900001:=by
   have h1:=dp3 (nB p.es j) L1
   have h2:(nB p.es j).length≤1:=by
    cases j with
    |zero=>simp[nB]
    |succ j=>simp only[nB,nE,ey4];cases p.es[j]? <;>simp
   omega
  have hnode:(∃n,decide ((j:Int)<((p.ns.map ci6).length:Int))=true∧(p.ns.map ci6)[((j:Nat):Int).toNat]? =some (ci6 n)∧nN p.ns j=[n.vr])∨(decide ((j:Int)<((p.ns.map ci6).length:Int))=false∧nN p.ns j=[]):=by
   rcases ex7 j p.ns.length with h|h
   ·have h0:=ex6 h;exact .inl ⟨_,by rw[hln];simpa using h,cn9 (f:=ci6) h0,nN_at h0⟩
   ·exact .inr ⟨by rw[hln];simp;omega,dp6 h⟩
  have hedge:(decide ((j:Int)>0)=false∧nB p.es j=[])∨(decide ((j:Int)>0)=true∧decide ((j:Int)≤((p.es.map ci7).length:Int))=false∧nB p.es j=[])∨(∃e,decide ((j:Int)>0)=true∧decide ((j:Int)≤((p.es.map ci7).length:Int))=true∧(p.es.map ci7)[((j:Int) -1).toNat]? =some (ci7 e)∧nB p.es j=[e.vr]):=by
   match j with
   |0=>exact .inl ⟨rfl,rfl⟩
   |k+1=>
    rcases ex7 k p.es.length with h|h
    ·have h0:=ex6 h;refine .inr (.inr ⟨_,decide_eq_true Oa,by rw[hlee];exact decide_eq_true Oa,?_,nE_at h0⟩);have e1:(((k+1:Nat):Int) -1).toNat=k:=by omega
     rw[e1,ey3,h0];rfl
    ·exact .inr (.inl ⟨decide_eq_true Oa,by rw[hlee];exact decide_eq_false Oa,dp7 h⟩)
  rcases ex7 j M with hlj|hgj
  ·have g2:decide ((j:Int)<(max ((p.ns.map ci6).length:Int) (((p.es.map ci7).length:Int)+1)))=true:=by rw[hMx];simpa using hlj
   repeat'(first|(refine dn9 8 32 (fun(_:Unit)=>⟨[(3,fS 0 (dp1 L1 (nB p.es j))),(5,.ptr 1 0),(6,.d (.int j)),(7,.d (.sl (l.map ci8))),(8,.d (.int (l.map ci8).length)),(9,.d (.int i)),(20,.d (.int (max ((p.ns.map ci6).length:Int) (((p.es.map ci7).length:Int)+1)))),(21,.d (.int j))],[gS (dp1 L1 (nB p.es j)),oPAp p]⟩) () ?_ ?_)|refine yz ?_)
   ·refine⟨?_⟩;rcases hedge with⟨e1,hnB⟩|⟨e1,e2,hnB⟩|⟨e,e1,e2,hxe,hnB⟩
    ·have hE:dp1 L1 (nB p.es j)=L1:=by rw[hnB];rfl
     rcases L1 with _|⟨a,q⟩
     ·dsimp only[fS,gS]
      repeat'(first|refine yz ?_|refine yx ?_)
      refine ac1 ?_;refine⟨(),rfl,?_⟩;rw[hE];exact(zle 2)
     ·dsimp only[fS,gS]
      repeat'(first|refine yz ?_|refine yx ?_)
      refine ac1 ?_;refine⟨(),rfl,?_⟩;rw[hE];exact(zle 2)
    ·have hE:dp1 L1 (nB p.es j)=L1:=by rw[hnB];rfl
     rcases L1 with _|⟨a,q⟩
     ·dsimp only[fS,gS]
      repeat'(first|refine yz ?_|refine yx ?_)
      refine ac1 ?_;refine⟨(),rfl,?_⟩;rw[hE];exact(zle 2)
     ·dsimp only[fS,gS]
      repeat'(first|refine yz ?_|refine yx ?_)
      refine ac1 ?_;refine⟨(),rfl,?_⟩;rw[hE];exact(zle 2)
    ·have hE:dp1 L1 (nB p.es j)=de6 L1 e.vr:=by rw[hnB];rfl
     have f1:=of_decide_eq_true e1;have f2:=of_decide_eq_true e2;clear hnext hL2b hlast
     cases hsk:s0B e.vr||bu0 L1 e.vr with
     |true=>
      have hL2:=dp4 hsk
      match L1,hsk,hL2,hL1b with
      |[],hsk,hL2,hL1b=>
       dsimp only[fS,gS];have hs0:s0B e.vr=true:=by simpa[bu0]using hsk
       repeat'(first|refine yz ?_|refine yi (ci7 e) hxe ?_|refine bm7 [] rfl rfl rfl rfl (FnX.plain _) b69 ((do0 (s:=e.vr) hs0)) rfl rfl rfl rfl rfl ?_|refine yx ?_)
       refine ac1 ?_;refine⟨(),rfl,?_⟩;rw[hE,hL2];exact(zle 2)
      |a::q,hsk,hL2,hL1b=>
       dsimp only[fS,gS]
       repeat'(first|refine yz ?_|refine yi (ci7 e) hxe ?_|refine yc [0] b69 (do2 (l:=a::q) (s:=e.vr) hsk) ?_|refine yx ?_)
       refine ac1 ?_;refine⟨(),rfl,?_⟩;rw[hE,hL2];exact(zle 2)
     |false=>
      have hL2:=dp5 hsk
      match L1,hsk,hL2,hL1b with
      |[],hsk,hL2,hL1b=>
       dsimp only[fS,gS];have hs0:s0B e.vr=false:=by simpa[bu0]using hsk
       repeat'(first|refine yz ?_|refine yi (ci7 e) hxe ?_|refine bm7 [] rfl rfl rfl rfl (FnX.plain _) b69 ((do1 (s:=e.vr) hs0)) rfl rfl rfl rfl rfl ?_|refine yx ?_)
       refine ac1 ?_;refine⟨(),rfl,?_⟩;rw[hE,hL2];exact(bg8 [2,1])
      |a::q,hsk,hL2,hL1b=>
       dsimp only[fS,gS]
       repeat'(first|refine yz ?_|refine yi (ci7 e) hxe ?_|refine ba5 [0] rfl rfl rfl rfl (FnX.plain _) b69 ((do3 (l:=a::q) (s:=e.vr) hsk (by simp only[ex9]at*;omega))) rfl rfl rfl rfl rfl ?_|refine yx ?_)
       refine ac1 ?_;refine⟨(),rfl,?_⟩;rw[hE,hL2];exact(bg8 [2,1])
   ·refine⟨?_⟩;generalize dp1 L1 (nB p.es j)=L2 at*;rcases hnode with⟨n,gn,hxn,hnN⟩|⟨gn,hnN⟩
    ·rw[hnN]at hnext;have hnext:dp1 L0 ((List.range (j+1)).flatMap (rnd p.ns p.es))=de6 L2 n.vr:=hnext
     cases hsk:s0B n.vr||bu0 L2 n.vr with
     |true=>
      have hL2:=dp4 hsk
      match L2,hsk,hL2,hL2b with
      |[],hsk,hL2,hL2b=>
       dsimp only[fS,gS];have hs0:s0B n.vr=true:=by simpa[bu0]using hsk
       repeat'(first|refine yz ?_|refine yi (ci6 n) hxn ?_|refine bm7 [] rfl rfl rfl rfl (FnX.plain _) b69 ((do0 (s:=n.vr) hs0)) rfl rfl rfl rfl rfl ?_)
       refine ac1 ?_;refine⟨⟨j+1,by omega⟩,by dsimp only;omega,?_⟩;dsimp only;rw[hnext,hL2];exact(zle 2)
      |a::q,hsk,hL2,hL2b=>
       dsimp only[fS,gS]
       repeat'(first|refine yz ?_|refine yi (ci6 n) hxn ?_|refine yc [0] b69 (do2 (l:=a::q) (s:=n.vr) hsk) ?_)
       refine ac1 ?_;refine⟨⟨j+1,by omega⟩,by dsimp only;omega,?_⟩;dsimp only;rw[hnext,hL2];exact(zle 2)
     |false=>
      have hL2:=dp5 hsk
      match L2,hsk,hL2,hL2b with
      |[],hsk,hL2,hL2b=>
       dsimp only[fS,gS];have hs0:s0B n.vr=false:=by simpa[bu0]using hsk
       repeat'(first|refine yz ?_|refine yi (ci6 n) hxn ?_|refine bm7 [] rfl rfl rfl rfl (FnX.plain _) b69 ((do1 (s:=n.vr) hs0)) rfl rfl rfl rfl rfl ?_)
       refine ac1 ?_;refine⟨⟨j+1,by omega⟩,by dsimp only;omega,?_⟩;dsimp only;rw[hnext,hL2];exact(bg8 [2,1])
      |a::q,hsk,hL2,hL2b=>
       dsimp only[fS,gS]
       repeat'(first|refine yz ?_|refine yi (ci6 n) hxn ?_|refine ba5 [0] rfl rfl rfl rfl (FnX.plain _) b69 ((do3 (l:=a::q) (s:=n.vr) hsk (by simp only[ex9]at*;omega))) rfl rfl rfl rfl rfl ?_)
       refine ac1 ?_;refine⟨⟨j+1,by omega⟩,by dsimp only;omega,?_⟩;dsimp only;rw[hnext,hL2];exact(bg8 [2,1])
    ·rw[hnN]at hnext;have hnext:dp1 L0 ((List.range (j+1)).flatMap (rnd p.ns p.es))=L2:=hnext;rcases L2 with _|⟨a,q⟩
     ·dsimp only[fS,gS]
      repeat'(refine yz ?_)
      refine ac1 ?_;refine⟨⟨j+1,by omega⟩,by dsimp only;omega,?_⟩;dsimp only;rw[hnext];exact(zle 2)
     ·dsimp only[fS,gS]
      repeat'(refine yz ?_)
      refine ac1 ?_;refine⟨⟨j+1,by omega⟩,by dsimp only;omega,?_⟩;dsimp only;rw[hnext];exact(zle 2)
  ·have g2:decide ((j:Int)<(max ((p.ns.map ci6).length:Int) (((p.es.map ci7).length:Int)+1)))=false:=by rw[hMx];simp;omega
   rw[←hlast Oa]at hend;clear hnode hedge hnext hlast hL2b
   cases hsk:s0B p.vr||bu0 L1 p.vr with
   |true=>
    have hL2:=dp4 hsk
    match L1,hsk,hL2,hL1b with
    |[],hsk,hL2,hL1b=>
     dsimp only[fS,gS];have hs0:s0B p.vr=true:=by simpa[bu0]using hsk
     repeat'(first|refine yz ?_|refine bm7 [] rfl rfl rfl rfl (FnX.plain _) b69 ((do0 (s:=p.vr) hs0)) rfl rfl rfl rfl rfl ?_)
     refine ac1 ?_;refine⟨⟨i+1,by omega⟩,by dsimp only;omega,?_⟩;dsimp only;rw[hend,hL2];exact(zle 1)
    |a::q,hsk,hL2,hL1b=>
     dsimp only[fS,gS]
     repeat'(first|refine yz ?_|refine yc [0] b69 (do2 (l:=a::q) (s:=p.vr) hsk) ?_)
     refine ac1 ?_;refine⟨⟨i+1,by omega⟩,by dsimp only;omega,?_⟩;dsimp only;rw[hend,hL2];exact(zle 1)
   |false=>
    have hL2:=dp5 hsk
    match L1,hsk,hL2,hL1b with
    |[],hsk,hL2,hL1b=>
     dsimp only[fS,gS];have hs0:s0B p.vr=false:=by simpa[bu0]using hsk
     repeat'(first|refine yz ?_|refine bm7 [] rfl rfl rfl rfl (FnX.plain _) b69 ((do1 (s:=p.vr) hs0)) rfl rfl rfl rfl rfl ?_)
     refine ac1 ?_;refine⟨⟨i+1,by omega⟩,by dsimp only;omega,?_⟩;dsimp only;rw[hend,hL2];exact(bg8 [2])
    |a::q,hsk,hL2,hL1b=>
     dsimp only[fS,gS]
     repeat'(first|refine yz ?_|refine ba5 [0] rfl rfl rfl rfl (FnX.plain _) b69 ((do3 (l:=a::q) (s:=p.vr) hsk (by simp only[ex9]at*;omega))) rfl rfl rfl rfl rfl ?_)
     refine ac1 ?_;refine⟨⟨i+1,by omega⟩,by dsimp only;omega,?_⟩;dsimp only;rw[hend,hL2];exact(bg8 [2])
 ·have g1:decide ((i:Int)<((l.map ci8).length:Int))=false:=by rw[hle];simp;omega
  rw[ez9 hge];show go _ _ _ (an5 _ _ (.d (.sl ((dp1 [] (de8 l)).map .str))));generalize dp1 [] (de8 l)=o at*
  match o with
  |[]=>
   dsimp only[fS,gS];refine bh5 3 rfl ?_
   exact Ok
  |a::q=>
   dsimp only[fS,gS];refine au1 0 rfl ?_;dsimp only[ar5,ar4,ar7,ar6,List.map,List.set]
   exact Ok
end Go.Proofs.YtndgolmgaenlfaaGreatDoor
namespace Go.Proofs.YtndgolmgaenlfaaGreatDoor
set_option maxRecDepth 4000
open Go Go.Abs Go.Val Go.RowKit Go.Proofs.Tryz
mutual
def alB(Q:PB→Prop):Pl→Prop
 |.mk b ks=>Q b∧dq0 Q ks
def dq0(Q:PB→Prop):List Pl→Prop
 |[]=>True
 |p::r=>alB Q p∧dq0 Q r
end
theorem dq1{Q:PB→Prop}:∀{l:List Pl},dq0 Q l→∀p∈l,alB Q p
 |[],_,_,h=>by cases h
 |a::r,h,p,hp=>by
  rw[dq0]at h;rcases ey2.1 hp with rfl|hp
  ·exact h.1
  ·exact dq1 h.2 p hp
theorem dq2(g:Bool)(cols:List ByteArray):∀(l:List IT) (out:List ByteArray),(df4 g cols l out).2=0→(df4 g cols l out).1=out++l.map IT.asn
 |[],out,_=>(fd4 out).symm
 |x::r,out,h0=>by
  rw[df4]at h0 ⊢
  cases c:df3 g x cols out !=0 with
  |true=>rw[c,cond_true]at h0;rw[show df3 g x cols out=0 from h0]at c;cases c
  |false=>
   rw[c,cond_false]at h0;rw[cond_false,dq2 g cols r _ h0,fa1,fb1];rfl
def cwB(b:PB):Nat:=b.cj.vs.length+(de8 b.cl.ps).length+b.it.length+1
mutual
def cwP:Pl→Nat
 |.mk b ks=>cwB b+dq3 ks
def dq3:List Pl→Nat
 |[]=>0
 |p::r=>cwP p+dq3 r
end
theorem dq4:∀{l:List Pl} {p:Pl},p∈l→cwP p≤dq3 l
 |[],_,h=>by cases h
 |a::r,p,h=>by
  rw[dq3];rcases ey2.1 h with rfl|h
  ·omega
  ·have:=dq4 h;omega
def lnS:List (List ByteArray)→Nat
 |[]=>0
 |c::r=>c.length+lnS r
theorem dq5(a b:List ByteArray):(de5 a b).length≤a.length+b.length:=by
 unfold de5;have:=ff5 (fun s=> !(bu0 a s)) b;rw[ex8];omega
theorem dq6:∀cols:List (List ByteArray),(cols.getD 0 []).length+(cols.getD 1 []).length≤lnS cols
 |[]=>ez0 _
 |[c]=>by show c.length+0≤c.length+0;omega
 |c::d::r=>by show c.length+d.length≤c.length+(d.length+lnS r);omega
theorem dq7(l:List PA):(de9 l).length≤(de8 l).length:=by
 have h:=dp3 (de8 l) [];unfold dp1 at h;simp only[ey5]at h;unfold de9;omega
theorem dq8(g:Bool)(cols:List ByteArray)(l:List IT):(df4 g cols l []).1.length≤l.length:=by
 by_cases h:(df4 g cols l []).2=0
 ·rw[dq2 g cols l [] h,fc5,ey4];exact ez0 _
 ·rw[di7 g cols l [] h];exact ez6 _
theorem dq9(e:Int)(c:List ByteArray):(df7 e c).1.length≤c.length:=by
 unfold df7
 cases e !=0 with
 |true=>exact ez6 _
 |false=>exact ez0 _
theorem dr0(b:PB)(cols:List (List ByteArray)):(df8 b cols).1.length≤cwB b+lnS cols:=by
 have h2:=dq6 cols;have hv:=dq7 b.cl.ps;unfold cwB;unfold df8
 cases de2 b cols.length with
 |false=>exact ez6 _
 |true=>
 rw[fd3,cond_false]
 cases b.op==1 with
 |true=>exact ez6 _
 |false=>
 rw[cond_false]
 cases b.op==2 with
 |true=>
  rw[cond_true];unfold df0
  cases dc6 b.cj !=0 with
  |true=>exact ez6 _
  |false=>
   cases b.cj.vs.all fun s=>ch2 s||de4 s with
   |true=>show b.cj.vs.length≤_;omega
   |false=>exact ez6 _
 |false=>
 rw[cond_false]
 cases b.op==3||b.op==4 with
 |true=>have:=dq5 (cols.getD 0 []) (cols.getD 1 []);show(de5 _ _).length≤_;omega
 |false=>
 rw[cond_false]
 cases b.op==5 with
 |true=>
  rw[cond_true];have:=dq5 (cols.getD 0 []) (de9 b.cl.ps);unfold df2
  cases cl5 b.cl !=0 with
  |true=>exact ez6 _
  |false=>
  cases !((df1 b.cl.ps).all fun e=>cx5 e (cols.getD 0 []))with
  |true=>exact ez6 _
  |false=>
  cases !(b.cl.wh.all fun e=>cx5 e (de5 (cols.getD 0 []) (de9 b.cl.ps)))with
  |true=>exact ez6 _
  |false=>
  cases b.cl.wh.any cj3 with
  |true=>exact ez6 _
  |false=>show(de5 _ _).length≤_;omega
 |false=>
 rw[cond_false]
 cases b.op==6 with
 |true=>have:=dq9 (cx6 b.e (cols.getD 0 [])) (cols.getD 0 []);rw[cond_true];omega
 |false=>
 rw[cond_false]
 cases b.op==7||b.op==8 with
 |true=>
  rw[cond_true];have:=dq8 (b.op==8) (cols.getD 0 []) b.it
  cases decide (b.it.length>24)with
  |true=>exact ez6 _
  |false=>rw[cond_false];omega
 |false=>
 rw[cond_false]
 cases b.op==9 with
 |true=>show(cols.getD 0 []).length≤_;omega
 |false=>
 rw[cond_false]
 cases b.op==10 with
 |true=>have:=dq9 (df5 (cols.getD 0 []) b.od) (cols.getD 0 []);rw[cond_true];omega
 |false=>
  have:=dq9 (df6 b (cols.getD 0 [])) (cols.getD 0 []++ [b.nm]);rw[ex8,ex9,ey5]at this;rw[cond_false];omega
theorem dr1(p:Pl):(df9 p).1.length≤cwP p:=by
 refine dd4 (P:=fun p=>(df9 p).1.length≤cwP p) (fun b ks ih=>?_) p
 have key:∀l:List Pl,(∀x∈l,(df9 x).1.length≤cwP x)→lnS (dg0 l).1≤dq3 l:=by
  intro l
  induction l with
  |nil=>intro _;exact ez0 _
  |cons a r ihr=>
   intro h;have h1:=h a Oc;have h2:=ihr fun x hx=>h x (by simp[hx])
   rw[dg0,dq3]
   cases(df9 a).2 !=0 with
   |true=>exact ez6 _
   |false=>
    cases(dg0 r).2 !=0 with
    |true=>exact ez6 _
    |false=>show(df9 a).1.length+lnS (dg0 r).1≤_;omega
 have hk:=key ks ih;rw[df9,cwP]
 cases(dg0 ks).2 !=0 with
 |true=>exact ez6 _
 |false=>
  have:=dr0 b (dg0 ks).1;rw[cond_false];omega
end Go.Proofs.YtndgolmgaenlfaaGreatDoor
namespace Go.Proofs.YtndgolmgaenlfaaGreatDoor
set_option maxRecDepth 4000
open Go Go.Abs Go.Val Go.RowKit Go.Proofs.Tryz
attribute [local irreducible] go SGo an1 Ev au7 EvO EvS RGo PGo
theorem dr2(cols:List ByteArray)(x:PP)(hx:smE x.e):EvS E 66 [.d (ci5 x),.ptr 0 0] [ca6 cols] (.d (.bool (!cx5 x.e cols))) [ca6 cols]:=by
 have h:=cy1 x.e cols hx;refine yn func66 ntmps66 fun _ _ _ _=>?_
 repeat'(first|refine yz ?_|refine yp b62 h ?_|refine bb0 [0] rfl rfl rfl rfl rfl ?_)
 all_goals rfl
theorem dr3(cols:List ByteArray)(l:List PP)(hs:∀x∈l,smE x.e)(hmax:l.length≤9223372036854775807):EvS E 129 [.d (.sl (l.map ci5)),.clo 66 [.ptr 0 0]] [ca6 cols] (.d (.int (co1 (l.findIdx? fun x=> !cx5 x.e cols)))) [ca6 cols]:=by
 have hle:(l.map ci5).length=l.length:=Oc
 refine yn func129 ntmps129 fun _ _ _ _=>?_
 repeat'(refine yz ?_)
 refine ac7 (α:=SFc l fun x=> !cx5 x.e cols) (fun p=>⟨[(0,.d (.sl (l.map ci5))),(1,.clo 66 [.ptr 0 0]),(7,.d (.int (l.map ci5).length)),(8,.d (.int p.i))],[ca6 cols]⟩) (fun p=>l.length-p.i) ⟨0,by omega,fun j hj=>absurd hj Oa⟩ (zle 1) ?_;rintro⟨i,hi,ok⟩;dsimp only;rcases ex7 i l.length with hlt|hge
 ·have g1:decide ((i:Int)<((l.map ci5).length:Int))=true:=by rw[hle];simpa using hlt
  have hx0:=ex6 hlt;generalize l[i]=x at hx0;have hx:=cn9 (f:=ci5) hx0;have h1:=dr2 cols x (hs x (ey0 hx0))
  cases hc:cx5 x.e cols with
  |false=>
   rw[hc]at h1;rw[co2 hx0 (show(!cx5 x.e cols)=true by rw[hc];rfl) ok]
   repeat'(first|refine yz ?_|refine yi (ci5 x) hx ?_|refine ba5 [0] rfl rfl rfl rfl (FnX.clo _ _) b66 (h1) rfl rfl rfl rfl rfl ?_|refine bb0 [0] rfl rfl rfl rfl rfl ?_)
   all_goals rfl
  |true=>
   rw[hc]at h1
   repeat'(first|refine yz ?_|refine yi (ci5 x) hx ?_|refine ba5 [0] rfl rfl rfl rfl (FnX.clo _ _) b66 (h1) rfl rfl rfl rfl rfl ?_)
   refine ac1 ?_;exact⟨⟨i+1,by omega,SFc.next hx0 (show(!cx5 x.e cols)=false by rw[hc];rfl) ok⟩,by dsimp only;omega,(zle 1)⟩
 ·have g1:decide ((i:Int)<((l.map ci5).length:Int))=false:=by rw[hle];simp;omega
  rw[co3 fun j hj=>ok j Oa]
  repeat'(first|refine yz ?_|refine bb0 [0] rfl rfl rfl rfl rfl ?_)
  all_goals rfl
theorem dr4(cols:List ByteArray)(l:List PP)(hs:∀x∈l,smE x.e)(hmax:l.length≤9223372036854775807):EvS E 65 [.d (.sl (l.map ci5)),.clo 66 [.ptr 0 0]] [ca6 cols] (.d (.bool (l.any fun x=> !cx5 x.e cols))) [ca6 cols]:=by
 have h:=dr3 cols l hs hmax;rw[←co4];refine yn func65 ntmps65 fun _ _ _ _=>?_
 repeat'(first|refine yz ?_|refine yc [0] b129 (h) ?_|refine bb0 [0] rfl rfl rfl rfl rfl ?_)
 all_goals rfl
theorem dr5(cols:List ByteArray)(x:Ex)(hx:smE x):EvS E 68 [.d (bu5 x),.ptr 0 0] [ca6 cols] (.d (.bool (!cx5 x cols))) [ca6 cols]:=by
 have h:=cy1 x cols hx;refine yn func68 ntmps68 fun _ _ _ _=>?_
 repeat'(first|refine yz ?_|refine yp b62 h ?_|refine bb0 [0] rfl rfl rfl rfl rfl ?_)
 all_goals rfl
theorem dr6(cols:List ByteArray)(l:List Ex)(hs:∀x∈l,smE x)(hmax:l.length≤9223372036854775807):EvS E 130 [.d (.sl (l.map bu5)),.clo 68 [.ptr 0 0]] [ca6 cols] (.d (.int (co1 (l.findIdx? fun x=> !cx5 x cols)))) [ca6 cols]:=by
 have hle:(l.map bu5).length=l.length:=Oc
 refine yn func130 ntmps130 fun _ _ _ _=>?_
 repeat'(refine yz ?_)
 refine ac7 (α:=SFc l fun x=> !cx5 x cols) (fun p=>⟨[(0,.d (.sl (l.map bu5))),(1,.clo 68 [.ptr 0 0]),(7,.d (.int (l.map bu5).length)),(8,.d (.int p.i))],[ca6 cols]⟩) (fun p=>l.length-p.i) ⟨0,by omega,fun j hj=>absurd hj Oa⟩ (zle 1) ?_;rintro⟨i,hi,ok⟩;dsimp only;rcases ex7 i l.length with hlt|hge
 ·have g1:decide ((i:Int)<((l.map bu5).length:Int))=true:=by rw[hle];simpa using hlt
  have hx0:=ex6 hlt;generalize l[i]=x at hx0;have hx:=cn9 (f:=bu5) hx0;have h1:=dr5 cols x (hs x (ey0 hx0))
  cases hc:cx5 x cols with
  |false=>
   rw[hc]at h1;rw[co2 hx0 (show(!cx5 x cols)=true by rw[hc];rfl) ok]
   repeat'(first|refine yz ?_|refine yi (bu5 x) hx ?_|refine ba5 [0] rfl rfl rfl rfl (FnX.clo _ _) b68 (h1) rfl rfl rfl rfl rfl ?_|refine bb0 [0] rfl rfl rfl rfl rfl ?_)
   all_goals rfl
  |true=>
   rw[hc]at h1
   repeat'(first|refine yz ?_|refine yi (bu5 x) hx ?_|refine ba5 [0] rfl rfl rfl rfl (FnX.clo _ _) b68 (h1) rfl rfl rfl rfl rfl ?_)
   refine ac1 ?_;exact⟨⟨i+1,by omega,SFc.next hx0 (show(!cx5 x cols)=false by rw[hc];rfl) ok⟩,by dsimp only;omega,(zle 1)⟩
 ·have g1:decide ((i:Int)<((l.map bu5).length:Int))=false:=by rw[hle];simp;omega
  rw[co3 fun j hj=>ok j Oa]
  repeat'(first|refine yz ?_|refine bb0 [0] rfl rfl rfl rfl rfl ?_)
  all_goals rfl
theorem dr7(cols:List ByteArray)(l:List Ex)(hs:∀x∈l,smE x)(hmax:l.length≤9223372036854775807):EvS E 67 [.d (.sl (l.map bu5)),.clo 68 [.ptr 0 0]] [ca6 cols] (.d (.bool (l.any fun x=> !cx5 x cols))) [ca6 cols]:=by
 have h:=dr6 cols l hs hmax;rw[←co4];refine yn func67 ntmps67 fun _ _ _ _=>?_
 repeat'(first|refine yz ?_|refine yc [0] b130 (h) ?_|refine bb0 [0] rfl rfl rfl rfl rfl ?_)
 all_goals rfl
theorem dr8:∀a b:List Pl,dg2 (a++b)=dg2 a+dg2 b
 |[],b=>by rw[fc5,dg2];omega
 |x::r,b=>by rw[fc6,dg2,dg2,dr8 r b];omega
theorem dr9{l:List Pl}{i:Nat}{x:Pl}(h:l[i]? =some x):dg2 (l.take (i+1))=dg2 (l.take i)+szP x:=by
 rw[fc0,h,dr8];show _+dg2 [x]=_;rw[dg2,dg2];omega
theorem ds0(l:List Pl)(i:Nat):dg2 (l.take i)≤dg2 l:=by
 have h:=dr8 (l.take i) (l.drop i);rw[fd9]at h;omega
structure ds1(n:Nat) where
 i:Nat
 hi:i≤n
theorem ds2(p:Pl):dd6 p=dd5 p.b (p.ks.map dd6):=by obtain⟨b,ks⟩:=p;exact dd9 b ks
theorem ds3(p:Pl):szP p≤1000000→Ev E 13 [dd6 p] (.d (.int (szP p))):=by
 refine dd4 (P:=fun p=>szP p≤1000000→Ev E 13 [dd6 p] (.d (.int (szP p)))) (fun b ks ih hn=>?_) p;rw[szP]at hn;have hle:(ks.map dd6).length=ks.length:=Oc
 have hkl:=dg6 ks;rw[dd9,szP];have hrt:((dg2 ks+1:Nat):Int)=1+(dg2 ks:Int):=Oa
 rw[hrt];refine ye1 func13 ntmps13 fun _ _ _=>?_
 repeat'(refine yz ?_)
 refine ac7 (α:=ds1 ks.length) (fun p=>⟨[(3,.d (.int (1+(dg2 (ks.take p.i):Int)))),(7,.d (.sl (ks.map dd6))),(8,.d (.int (ks.map dd6).length)),(9,.d (.int p.i))],[]⟩) (fun p=>ks.length-p.i) ⟨0,by omega⟩ (zle 0) ?_;rintro⟨i,hi⟩;dsimp only;have hpt:=ds0 ks i;rcases ex7 i ks.length with hlt|hge
 ·have g1:decide ((i:Int)<((ks.map dd6).length:Int))=true:=by rw[hle];simpa using hlt
  have hx0:=ex6 hlt;generalize ks[i]=x at hx0;have hx:=cn9 (f:=dd6) hx0;have hm:=ey0 hx0;have hsx:=dg4 hm;have hc:=ih x hm Oa;have ht:=dr9 hx0;have e1:1+(dg2 (ks.take i):Int)+(szP x:Int)=1+((dg2 (ks.take (i+1)):Nat):Int):=by rw[ht];omega
  rw[ds2]at hx hc
  repeat'(first|refine yz ?_|refine qI (dd5 x.b (x.ks.map dd6)) rfl (ap1 rfl) rfl rfl rfl rfl rfl rfl Oh hx ?_|refine yp b13 hc ?_)
  refine ac1 ?_;refine⟨⟨i+1,by omega⟩,by dsimp only;omega,?_⟩;dsimp only;rw[←e1];exact(zle 0)
 ·have g1:decide ((i:Int)<((ks.map dd6).length:Int))=false:=by rw[hle];simp;omega
  rw[ez9 hge]
  exact Ok
abbrev oLv(l:Int):aa5:=.var 3 (.w (.d (.int l)))
theorem ds4(l:Int)(f:Pl→Bool)(ks:List Pl)(hmax:ks.length≤9223372036854775807)(hf:∀x∈ks,EvS E 35 [.d (dd6 x),.ptr 0 0] [oLv l] (.d (.bool (f x))) [oLv l]):
  EvS E 53 [.d (.sl (ks.map dd6)),.clo 35 [.ptr 0 0]] [oLv l] (.d (.int (co1 (ks.findIdx? f)))) [oLv l]:=by
 have hle:(ks.map dd6).length=ks.length:=Oc
 refine yn func53 ntmps53 fun _ _ _ _=>?_
 repeat'(refine yz ?_)
 refine ac7 (α:=SFc ks f) (fun p=>⟨[(0,.d (.sl (ks.map dd6))),(1,.clo 35 [.ptr 0 0]),(7,.d (.int (ks.map dd6).length)),(8,.d (.int p.i))],[oLv l]⟩) (fun p=>ks.length-p.i) ⟨0,by omega,fun j hj=>absurd hj Oa⟩ (zle 1) ?_;rintro⟨i,hi,ok⟩;dsimp only;rcases ex7 i ks.length with hlt|hge
 ·have g1:decide ((i:Int)<((ks.map dd6).length:Int))=true:=by rw[hle];simpa using hlt
  have hx0:=ex6 hlt;generalize ks[i]=x at hx0;have hx:=cn9 (f:=dd6) hx0;have h1:=hf x (ey0 hx0);rw[ds2]at hx h1
  cases hc:f x with
  |true=>
   rw[hc]at h1;rw[co2 hx0 hc ok]
   repeat'(first|refine yz ?_|refine qI (dd5 x.b (x.ks.map dd6)) rfl (ap1 rfl) rfl rfl rfl rfl rfl rfl Oh hx ?_|refine ba5 [0] rfl rfl rfl rfl (FnX.clo _ _) b35 (h1) rfl rfl rfl rfl rfl ?_|refine bb0 [0] rfl rfl rfl rfl rfl ?_)
   all_goals rfl
  |false=>
   rw[hc]at h1
   repeat'(first|refine yz ?_|refine qI (dd5 x.b (x.ks.map dd6)) rfl (ap1 rfl) rfl rfl rfl rfl rfl rfl Oh hx ?_|refine ba5 [0] rfl rfl rfl rfl (FnX.clo _ _) b35 (h1) rfl rfl rfl rfl rfl ?_)
   refine ac1 ?_;exact⟨⟨i+1,by omega,SFc.next hx0 hc ok⟩,by dsimp only;omega,(zle 1)⟩
 ·have g1:decide ((i:Int)<((ks.map dd6).length:Int))=false:=by rw[hle];simp;omega
  rw[co3 fun j hj=>ok j Oa]
  repeat'(first|refine yz ?_|refine bb0 [0] rfl rfl rfl rfl rfl ?_)
  all_goals rfl
theorem ds5(l:Int)(f:Pl→Bool)(ks:List Pl)(hmax:ks.length≤9223372036854775807)(hf:∀x∈ks,EvS E 35 [.d (dd6 x),.ptr 0 0] [oLv l] (.d (.bool (f x))) [oLv l]):
  EvS E 34 [.d (.sl (ks.map dd6)),.clo 35 [.ptr 0 0]] [oLv l] (.d (.bool (ks.any f))) [oLv l]:=by
 have h:=ds4 l f ks hmax hf;rw[←co4];refine yn func34 ntmps34 fun _ _ _ _=>?_
 repeat'(first|refine yz ?_|refine yc [0] b53 (h) ?_|refine bb0 [0] rfl rfl rfl rfl rfl ?_)
 all_goals rfl
def dpB(l:Int)(p:Pl):Bool:=decide ((dpP p:Int)>l)
theorem ds6{l:Int}(h:1≤l)(b:PB)(ks:List Pl):dpB l (.mk b ks)=ks.any (dpB (l-1)):=by
  unfold dpB;rw[dpP,fa4,decide_eq_true_eq,fg7]
  have key:∀ks:List Pl,((dg1 ks:Int)>l-1)↔∃x∈ks,(dpP x:Int)>l-1:=by
    intro ks
    induction ks with
    |nil=>rw[dg1];constructor
          · intro h';omega
          · rintro⟨x,hx,-⟩;cases hx
    |cons a r ih=>
      rw[dg1];constructor
      · intro h'
        by_cases h1:(dpP a:Int)>l-1
        · exact⟨a,by simp,h1⟩
        · obtain⟨x,hx,hd⟩:=ih.1 Oa;exact⟨x,by simp[hx],hd⟩
      · rintro⟨x,hx,hd⟩;rcases ey2.1 hx with rfl|hx
        · omega
        · have:=ih.2 ⟨x,hx,hd⟩;omega
  have h1:((dg1 ks+1:Nat):Int)>l↔(dg1 ks:Int)>l-1:=Oa
  rw[h1,key];simp only[decide_eq_true_eq]
theorem ds7(p:Pl):szP p≤1000000→∀l:Int,-1000≤l→l≤1000→Ev E 22 [dd6 p,.int l] (.d (.bool (dpB l p))):=by
 refine dd4 (P:=fun p=>szP p≤1000000→∀l:Int,-1000≤l→l≤1000→Ev E 22 [dd6 p,.int l] (.d (.bool (dpB l p)))) (fun b ks ih hn l h0 h1=>?_) p;rw[szP]at hn;have hkl:=dg6 ks
 cases c1:decide (l<1)with
 |true=>
  have hd:dpB l (.mk b ks)=true:=by
   have:=of_decide_eq_true c1;unfold dpB;rw[dpP,decide_eq_true_eq];omega
  rw[hd,dd9];refine ye2 func22 ntmps22 fun _ _ _=>?_
  exact Ok
 |false=>
  have hl:1≤l:=by have:=of_decide_eq_false c1;omega
  rw[ds6 hl]
  have hc:=ds5 l (dpB (l-1)) ks Oa fun x hx=>by
   have hsx:=dg4 hx;have h:=ih x hx Oa (l-1) Oa Oa;rw[ds2]at h ⊢;refine yn func35 ntmps35 fun _ _ _ _=>?_
   repeat'(first|refine yz ?_|refine yp b22 h ?_|refine bb0 [0] rfl rfl rfl rfl rfl ?_)
   all_goals rfl
  rw[dd9];refine ye2 func22 ntmps22 fun _ _ _=>?_
  repeat'(first|refine yz ?_|refine ba4 rfl rfl rfl rfl rfl ?_|refine yc [1] b34 (hc) ?_|refine yx ?_|exact zD)
theorem ds8{C:Cx}{s:St}{r:List It}{fn:Func}{t:Nat}(hr:fn.results= #[.tmp t])(h:lk s.tm t=.zc):go C (.code .ret::r) s (an5 C fn .zc):=by
 refine ac3 ?_;intro F σ w a hi hn hm hs;have h1:=hs t;rw[h]at h1;refine⟨a.tmps.getD t undef,F,?_,fun _ h=>h,fun b hb=>⟨hi.flt b hb,hn b hb⟩,h1⟩;have h2:(an8 a (.tmp t)).run C.E.P w=.ok (a.tmps.getD t undef) w:=by simp only[an8,Sem.run_pure]
 rw[ao0,hr];simp[h2]
theorem ds9:Ev E 45 [.sl []] .zc:=by
 refine ye1 func45 ntmps45 fun _ _ _=>?_
 repeat'(first|(refine bm3 2 rfl ?_)|(refine bm0 ?_)|(refine bm1 ?_)|(refine ds8 rfl rfl)|refine yz ?_|(refine aw7 rfl (fun _=>?_) ?_))
structure SBoP(b:List ByteArray) where
 i:Nat
 hi:i≤b.length
def joi(a b:List ByteArray)(i:Nat):List ByteArray:=a++(b.take i).filter fun s=> !(bu0 a s)
theorem dt0{a b:List ByteArray}{i:Nat}{x:ByteArray}(h:b[i]? =some x):joi a b (i+1)=bif bu0 a x then joi a b i else joi a b i++ [x]:=by
 unfold joi;rw[fc0,h]
 cases hc:bu0 a x with
 |true=>simp[hc]
 |false=>simp[hc]
theorem dt1(a b:List ByteArray)(i:Nat):(joi a b i).length≤a.length+b.length:=by
 unfold joi;have h1:=ff5 (fun s=> !(bu0 a s)) (b.take i);have h2:(b.take i).length≤b.length:=by rw[fa3];omega
 rw[ex8];omega
theorem dt2(a b:List ByteArray)(ha:a.length≤1000000)(hb:b.length≤1000000):Ev E 38 [.sl (a.map .str),.sl (b.map .str)] (.d (.sl ((de5 a b).map .str))):=by
 have hle:(b.map D.str).length=b.length:=Oc
 have hle1:(a.map D.str).length=a.length:=Oc
 have hj:de5 a b=joi a b b.length:=by unfold de5 joi;rw[List.take_length]
 rw[hj]
 by_cases h0:a=[]
 ·subst h0;have hz:=ds9;refine ye2 func38 ntmps38 fun _ _ _=>?_
  repeat'(first|refine yz ?_|refine yp b45 hz ?_)
  refine ac7 (α:=SBoP b) (fun p=>⟨[(0,.d (.sl [])),(5,bm5 0 ((joi [] b p.i).map .str)),(10,.d (.sl (b.map .str))),(11,.d (.int (b.map D.str).length)),(12,.d (.int p.i))],aw6 9 1 ((joi [] b p.i).map .str)⟩) (fun p=>b.length-p.i) ⟨0,by omega⟩ (zle 0) ?_;rintro⟨i,hi⟩;dsimp only;have hol:=dt1 [] b i;rcases ex7 i b.length with hlt|hge
  ·have g1:decide ((i:Int)<((b.map D.str).length:Int))=true:=by rw[hle];simpa using hlt
   have hx0:=ex6 hlt;generalize b[i]=x at hx0;have hx:=cn9 (f:=D.str) hx0;have hc:=bw5 [] x;have hat:=dt0 (a:=[]) hx0
   cases hh:bu0 [] x with
   |true=>simp[bu0]at hh
   |false=>
    rw[hh,cond_false]at hat;rw[hh]at hc;generalize joi [] b i=o at*
    match o,hol with
    |[],hol=>
     dsimp only[bm5,aw6,List.map]
     repeat'(first|refine yz ?_|refine yi (.str x) hx ?_|refine yp b60 hc ?_|(refine bm2 ?_ ?_;exact⟨by simp,fun d hd=>by(obtain rfl:=ez3.1 hd;rfl),by(show 1*16≤140737488355328;omega),by(show 1≤9223372036854775807;omega)⟩))
     refine ac1 ?_;refine⟨⟨i+1,by omega⟩,by dsimp only;omega,?_⟩;dsimp only;rw[hat];exact(bg8 [0])
    |y::q,hol=>
     dsimp only[bm5,aw6,List.map]
     repeat'(first|refine yz ?_|refine yi (.str x) hx ?_|refine yp b60 hc ?_|(refine qS rfl ⟨by simp,fun d hd=>by(obtain rfl:=ez3.1 hd;rfl),by(show _*16≤140737488355328;simp;simp only[ex9]at hol;omega),by(show _≤9223372036854775807;simp;simp only[ex9]at hol;omega)⟩ ?_))
     refine ac1 ?_;refine⟨⟨i+1,by omega⟩,by dsimp only;omega,?_⟩;dsimp only;rw[hat,dp8];exact(bg8 [1])
  ·have g1:decide ((i:Int)<((b.map D.str).length:Int))=false:=by rw[hle];simp;omega
   obtain rfl:i=b.length:=Oa
   generalize joi [] b b.length=o at*
   match o with
   |[]=>
    dsimp only[bm5,aw6,List.map];refine bm4 5 rfl ?_
    exact Ok
   |y::q=>
    dsimp only[bm5,aw6,List.map];refine au1 0 rfl ?_;dsimp only[ar5,ar4,ar7,ar6,List.map,List.set]
    exact Ok
 ·have hz:=dm8 a h0 Oa;refine ye2 func38 ntmps38 fun _ _ _=>?_
  repeat'(first|refine yz ?_|refine ax0 rfl rfl rfl rfl rfl rfl b45 (hz) ?_)
  refine ac7 (α:=SBoP b) (fun p=>⟨[(0,.d (.sl (a.map .str))),(5,bm5 0 ((joi a b p.i).map .str)),(10,.d (.sl (b.map .str))),(11,.d (.int (b.map D.str).length)),(12,.d (.int p.i))],aw6 9 1 ((joi a b p.i).map .str)⟩) (fun p=>b.length-p.i) ⟨0,by omega⟩ (by
   have e0:joi a b 0=a:=by unfold joi;simp
   dsimp only;rw[e0]
   match a,h0 with
   |x::r,_=>exact(zle 1)) ?_
  rintro⟨i,hi⟩;dsimp only;have hol:=dt1 a b i;rcases ex7 i b.length with hlt|hge
  ·have g1:decide ((i:Int)<((b.map D.str).length:Int))=true:=by rw[hle];simpa using hlt
   have hx0:=ex6 hlt;generalize b[i]=x at hx0;have hx:=cn9 (f:=D.str) hx0;have hc:=bw5 a x;have hat:=dt0 (a:=a) hx0
   cases hh:bu0 a x with
   |true=>
    rw[hh,cond_true]at hat;rw[hh]at hc;generalize joi a b i=o at*
    match o with
    |[]=>
     dsimp only[bm5,aw6,List.map]
     repeat'(first|refine yz ?_|refine yi (.str x) hx ?_|refine yp b60 hc ?_)
     refine ac1 ?_;refine⟨⟨i+1,by omega⟩,by dsimp only;omega,?_⟩;dsimp only;rw[hat];exact(zle 0)
    |y::q=>
     dsimp only[bm5,aw6,List.map]
     repeat'(first|refine yz ?_|refine yi (.str x) hx ?_|refine yp b60 hc ?_)
     refine ac1 ?_;refine⟨⟨i+1,by omega⟩,by dsimp only;omega,?_⟩;dsimp only;rw[hat];exact(zle 1)
   |false=>
    rw[hh,cond_false]at hat;rw[hh]at hc;generalize joi a b i=o at*
    match o,hol with
    |[],hol=>
     dsimp only[bm5,aw6,List.map]
     repeat'(first|refine yz ?_|refine yi (.str x) hx ?_|refine yp b60 hc ?_|(refine bm2 ?_ ?_;exact⟨by simp,fun d hd=>by(obtain rfl:=ez3.1 hd;rfl),by(show 1*16≤140737488355328;omega),by(show 1≤9223372036854775807;omega)⟩))
     refine ac1 ?_;refine⟨⟨i+1,by omega⟩,by dsimp only;omega,?_⟩;dsimp only;rw[hat];exact(bg8 [0])
    |y::q,hol=>
     dsimp only[bm5,aw6,List.map]
     repeat'(first|refine yz ?_|refine yi (.str x) hx ?_|refine yp b60 hc ?_|(refine qS rfl ⟨by simp,fun d hd=>by(obtain rfl:=ez3.1 hd;rfl),by(show _*16≤140737488355328;simp;simp only[ex9]at hol;omega),by(show _≤9223372036854775807;simp;simp only[ex9]at hol;omega)⟩ ?_))
     refine ac1 ?_;refine⟨⟨i+1,by omega⟩,by dsimp only;omega,?_⟩;dsimp only;rw[hat,dp8];exact(bg8 [1])
  ·have g1:decide ((i:Int)<((b.map D.str).length:Int))=false:=by rw[hle];simp;omega
   obtain rfl:i=b.length:=Oa
   generalize joi a b b.length=o at*
   match o with
   |[]=>
    dsimp only[bm5,aw6,List.map];refine bm4 5 rfl ?_
    exact Ok
   |y::q=>
    dsimp only[bm5,aw6,List.map];refine au1 0 rfl ?_;dsimp only[ar5,ar4,ar7,ar6,List.map,List.set]
    exact Ok
attribute [local irreducible] RGw
abbrev dt3(b:PB)(K:List D):aa5:=.var 40 (.w (.d (dd5 b K)))
def dt4(p:Pl):D:=.sl ((df9 p).1.map .str)
theorem dt5:∀{ks:List Pl} {i:Nat} {x:Pl},ks[i]? =some x→(∀p∈ks.take i,(df9 p).2=0)→(df9 x).2≠0→dg0 ks=([],(df9 x).2)
 |[],_,_,h,_,_=>by cases h
 |p::r,0,x,h,_,hx=>by
  obtain rfl:p=x:=by simpa using h
  rw[dg0,show((df9 p).2 !=0)=true by simpa using hx,cond_true]
 |p::r,i+1,x,h,h0,hx=>by
  have ih:=dt5 (ks:=r) (i:=i) (x:=x) (by simpa using h) (fun q hq=>h0 q (by simp[hq])) hx;rw[dg0,h0 p Oc,ih,show((df9 x).2 !=0)=true by simpa using hx];rfl
theorem dt6:∀{ks:List Pl},(∀p∈ks,(df9 p).2=0)→dg0 ks=(ks.map fun p=>(df9 p).1,0)
 |[],_=>rfl
 |p::r,h=>by
  rw[dg0,h p Oc,dt6 fun q hq=>h q (by simp[hq])];rfl
structure SiC(ks:List Pl) where
 i:Nat
 hi:i≤ks.length
 ok:∀p∈ks.take i,(df9 p).2=0
structure SmB(b:PB):Prop where
 vs:b.cj.vs.length≤1000000
 at_:b.cj.as.length≤1000000
 ln:dk5 b.cl≤1000000000000
 e:smE b.e
 it:∀x∈b.it,smE x.e
 od:∀x∈b.od,smE x.e
 nm:(de8 b.cl.ps).length≤900000
 ne:∀p∈b.cl.ps,p.ns.length≤1000000∧p.es.length≤1000000
 ap:b.op=5→∀cols:List ByteArray,cols.length≤1000000→Ev E 40 [cj2 b.cl,.sl (cols.map .str)] (.d (.int (df2 b.cl cols).2))
theorem dt7{op:Int}{n:Nat}(h:de0 op=n):(op=1∧n=0)∨(op=2∧n=0)∨(op=3∧n=2)∨(op=4∧n=2)∨(op=5∧n=1)∨(op=6∧n=1)∨(op=7∧n=1)∨(op=8∧n=1)∨(op=9∧n=1)∨(op=10∧n=1)∨(op=11∧n=1):=by
 unfold de0 at h
 cases c1:op==1||op==2 with
 |true=>
  rw[c1,cond_true]at h;have hn:n=0:=Oa
  have ho:op=1∨op=2:=by simpa using c1
  subst hn;rcases ho with rfl|rfl<;>simp
 |false=>
 cases c2:op==3||op==4 with
 |true=>
  rw[c1,c2]at h;have h:(2:Int)=n:=h;have hn:n=2:=Oa
  have ho:op=3∨op=4:=by simpa using c2
  subst hn;rcases ho with rfl|rfl<;>simp
 |false=>
 cases c3:decide (op≥5) &&decide (op≤11)with
 |true=>
  rw[c1,c2,c3]at h;have h:(1:Int)=n:=h;have hn:n=1:=Oa
  have h5:op≥5∧op≤11:=by simpa using c3
  have ho:op=5∨op=6∨op=7∨op=8∨op=9∨op=10∨op=11:=Oa
  subst hn;rcases ho with rfl|rfl|rfl|rfl|rfl|rfl|rfl<;>simp
 |false=>
  rw[c1,c2,c3]at h;have h:(-1:Int)=n:=h;exact absurd h Oa
theorem dt8{b:PB}{cols:List (List ByteArray)}(h:de2 b cols.length=true):df8 b cols=
  bif b.op==1 then([],0)else bif b.op==2 then df0 b.cj else bif b.op==3||b.op==4 then(de5 (cols.getD 0 []) (cols.getD 1 []),0)else
  bif b.op==5 then df2 b.cl (cols.getD 0 [])else bif b.op==6 then df7 (cx6 b.e (cols.getD 0 [])) (cols.getD 0 [])else
  bif b.op==7||b.op==8 then(bif decide (b.it.length>24)then erR 4 else df4 (b.op==8) (cols.getD 0 []) b.it [])else bif b.op==9 then(cols.getD 0 [],0)else
  bif b.op==10 then df7 (df5 (cols.getD 0 []) b.od) (cols.getD 0 [])else df7 (df6 b (cols.getD 0 [])) (cols.getD 0 []++ [b.nm]):=by
 unfold df8;rw[h,fd3,cond_false]
theorem dt9{c:CL}{cols:List ByteArray}(h:(df2 c cols).2=0):df2 c cols=(de5 cols (de9 c.ps),0):=by
 unfold df2 at h ⊢
 cases c1:cl5 c !=0 with
 |true=>rw[c1,cond_true]at h;rw[show cl5 c=0 from h]at c1;cases c1
 |false=>
 cases c2: !((df1 c.ps).all fun e=>cx5 e cols)with
 |true=>rw[c1,c2]at h;exact absurd (show(6:Int)=0 from h) Od
 |false=>
 cases c3: !(c.wh.all fun e=>cx5 e (de5 cols (de9 c.ps)))with
 |true=>rw[c1,c2,c3]at h;exact absurd (show(6:Int)=0 from h) Od
 |false=>
 cases c4:c.wh.any cj3 with
 |true=>rw[c1,c2,c3,c4]at h;exact absurd (show(9:Int)=0 from h) Od
 |false=>rfl
theorem du0{c:CL}{cols:List ByteArray}(h:(df2 c cols).2≠0):(df2 c cols).1=[]:=by
 unfold df2 at h ⊢
 cases c1:cl5 c !=0 with
 |true=>rfl
 |false=>
 cases c2: !((df1 c.ps).all fun e=>cx5 e cols)with
 |true=>rfl
 |false=>
 cases c3: !(c.wh.all fun e=>cx5 e (de5 cols (de9 c.ps)))with
 |true=>rfl
 |false=>
 cases c4:c.wh.any cj3 with
 |true=>rfl
 |false=>rw[c1,c2,c3,c4]at h;exact absurd rfl h
set_option maxHeartbeats 8000000 in
theorem du1(p:Pl):alB SmB p→szP p≤1000000→cwP p≤1000000→Ev E 23 [dd6 p] (.tup [.sl ((df9 p).1.map .str),.int (df9 p).2]):=by
 refine dd4 (P:=fun p=>alB SmB p→szP p≤1000000→cwP p≤1000000→Ev E 23 [dd6 p] (.tup [.sl ((df9 p).1.map .str),.int (df9 p).2])) (fun b ks ih hs hz hw=>?_) p;rw[alB]at hs;rw[szP]at hz;rw[cwP]at hw;have hks:=dq1 hs.2;have hkl:=dg6 ks;have hsb:=hs.1;have hle:(ks.map dd6).length=ks.length:=Oc
 have hf:=dl2 b (ks.map dd6) (by rw[hle];omega) (by have:=hsb.vs;have:=hsb.at_;omega) hsb.ln;rw[dd9];generalize hR:df9 (.mk b ks)=R;refine ye1 func23 ntmps23 fun _ _ _=>?_
 repeat'(refine yz ?_)
 refine ac7 (α:=SiC ks) (fun q=>⟨[(1,.ptr 0 0),(4,bf7 1 ((ks.take q.i).map dt4)),(12,.d (.sl (ks.map dd6))),(13,.d (.int (ks.map dd6).length)),(14,.d (.int q.i))],[dt3 b (ks.map dd6)]++aw6 23 1 ((ks.take q.i).map dt4)⟩) (fun q=>ks.length-q.i) ⟨0,by omega,fun _ h=>by cases h⟩ (zle 1) ?_;rintro⟨i,hi,ok⟩;dsimp only;rcases ex7 i ks.length with hlt|hge
 ·have g1:decide ((i:Int)<((ks.map dd6).length:Int))=true:=by rw[hle];simpa using hlt
  have hx0:=ex6 hlt;generalize ks[i]=x at hx0;have hx:=cn9 (f:=dd6) hx0;have hm:=ey0 hx0;have hsx:=dg4 hm;have hwx:=dq4 hm;have hc:=ih x hm (hks x hm) Oa Oa;have htk:(ks.take (i+1)).map dt4=(ks.take i).map dt4++ [dt4 x]:=by rw[fc0,hx0,ff2];rfl
  have hln:((ks.take i).map dt4).length≤1000000:=by rw[ey4,fa3];omega
  rw[ds2]at hx hc
  cases hz0:(df9 x).2 !=0 with
  |true=>
   have hne:(df9 x).2≠0:=by simpa using hz0
   have hR2:R=erR (df9 x).2:=by
    rw[←hR,df9,dt5 hx0 ok hne,show((([]:List (List ByteArray)),(df9 x).2).2 !=0)=true from hz0];rfl
   subst hR2;generalize(df9 x).2=z at*;clear htk
   match(ks.take i).map dt4 with
   |[]=>
    dsimp only[bf7,aw6,List.append,HAppend.hAppend,Append.append]
    repeat'(first|refine yz ?_|refine qI (dd5 x.b (x.ks.map dd6)) rfl (ap1 rfl) rfl rfl rfl rfl rfl rfl Oh hx ?_|refine yp b23 hc ?_|exact zL)
   |d::r=>
    dsimp only[bf7,aw6,List.append,HAppend.hAppend,Append.append]
    repeat'(first|refine yz ?_|refine qI (dd5 x.b (x.ks.map dd6)) rfl (ap1 rfl) rfl rfl rfl rfl rfl rfl Oh hx ?_|refine yp b23 hc ?_|exact zL)
  |false=>
   have h0:(df9 x).2=0:=by simpa using hz0
   rw[h0]at hc
   have hok:∀p∈ks.take (i+1),(df9 p).2=0:=by
    intro p hp;rw[fc0,hx0]at hp;rcases fa0.1 hp with hp|hp
    ·exact ok p hp
    ·obtain rfl:p=x:=by simpa using hp
     exact h0
   generalize(ks.take i).map dt4=K at*
   match K with
   |[]=>
    dsimp only[bf7,aw6,List.append,HAppend.hAppend,Append.append]
    repeat'(first|refine yz ?_|refine qI (dd5 x.b (x.ks.map dd6)) rfl (ap1 rfl) rfl rfl rfl rfl rfl rfl Oh hx ?_|refine yp b23 hc ?_|(refine qS rfl ⟨by simp,fun d hd=>by(obtain rfl:=ez3.1 hd;rfl),by(show _*24≤140737488355328;simp<;>omega),by(show _≤9223372036854775807;simp<;>omega)⟩ ?_))
    refine ac1 ?_;refine⟨⟨i+1,by omega,hok⟩,by dsimp only;omega,?_⟩;dsimp only;rw[htk];exact(bg8 [0,2])
   |d::r=>
    have hr:r.length≤999999:=by simp only[ex9]at hln;omega
    dsimp only[bf7,aw6,List.append,HAppend.hAppend,Append.append]
    repeat'(first|refine yz ?_|refine qI (dd5 x.b (x.ks.map dd6)) rfl (ap1 rfl) rfl rfl rfl rfl rfl rfl Oh hx ?_|refine yp b23 hc ?_|(refine qS rfl ⟨by simp,fun d hd=>by(obtain rfl:=ez3.1 hd;rfl),by(show _*24≤140737488355328;simp<;>omega),by(show _≤9223372036854775807;simp<;>omega)⟩ ?_))
    refine ac1 ?_;refine⟨⟨i+1,by omega,hok⟩,by dsimp only;omega,?_⟩;dsimp only;rw[htk];exact(bg8 [0,3])
 ·have g1:decide ((i:Int)<((ks.map dd6).length:Int))=false:=by rw[hle];simp;omega
  have hall:∀p∈ks,(df9 p).2=0:=by rw[ez9 hge]at ok;exact ok
  have hsel:R=df8 b (ks.map fun p=>(df9 p).1):=by rw[←hR,df9,dt6 hall];rfl
  have hcw:∀p∈ks,(df9 p).1.length≤1000000:=fun p hp=>by have h1:=dr1 p;have h2:=dq4 hp;omega
  rw[ez9 hge];clear hge ok hR ih hks hall hi;rw[hle]at hf
  cases hfm:de2 b ks.length with
  |false=>
   have hR:R=([],25):=by rw[hsel];unfold df8;rw[ey4,hfm];rfl
   subst hR;rw[hfm]at hf;clear hsel hcw;generalize ks.map dt4=K at*
   match K with
   |[]=>
    dsimp only[bf7,aw6,List.append,HAppend.hAppend,Append.append]
    repeat'(first|refine yz ?_|refine yp b36 hf ?_|exact zL)
   |d::r=>
    dsimp only[bf7,aw6,List.append,HAppend.hAppend,Append.append]
    repeat'(first|refine yz ?_|refine yp b36 hf ?_|exact zL)
  |true=>
   rw[hfm]at hf;have hse:=dt8 (b:=b) (cols:=ks.map fun p=>(df9 p).1) (by rw[ey4];exact hfm);rw[hse]at hsel;clear hse;have hko:=dt7 (dg9 hfm);clear hfm;obtain⟨op,cj,cl,e,nm,it,od,sk,lm⟩:=b;dsimp only at hko hsel;rcases hko with⟨rfl,hn⟩|⟨rfl,hn⟩|⟨rfl,hn⟩|⟨rfl,hn⟩|⟨rfl,hn⟩|⟨rfl,hn⟩|⟨rfl,hn⟩|⟨rfl,hn⟩|⟨rfl,hn⟩|⟨rfl,hn⟩|⟨rfl,hn⟩
   ·-- op 1
    obtain rfl:ks=[]:=List.length_eq_zero_iff.1 hn;obtain rfl:R=([],0):=hsel
    repeat'(first|refine yz ?_|refine yp b36 hf ?_|exact zL)
   ·-- op 2
    obtain rfl:ks=[]:=List.length_eq_zero_iff.1 hn;have hm:=dn4 cj hsb.vs;obtain rfl:R=df0 cj:=hsel;generalize df0 cj=z at*
    repeat'(first|refine yz ?_|refine yp b36 hf ?_|refine yp b37 hm ?_|exact zL)
   ·-- op 3
    obtain⟨k,l,rfl⟩:∃k l,ks=[k,l]:=by(match ks,hn with|[k,l],_=>exact⟨k,l,rfl⟩)
    have hcl:=hcw k Oc;have hcl2:=hcw l Oc;dsimp only[List.map,dt4,bf7,aw6,List.append,HAppend.hAppend,Append.append,List.getD_cons_zero]at*;generalize(df9 k).1=c at*;generalize(df9 l).1=d at*;have hk0:([D.sl (c.map D.str),D.sl (d.map D.str)]:List D)[((0:Int)).toNat]? =some (.sl (c.map .str)):=rfl;have hk1:([D.sl (c.map D.str),D.sl (d.map D.str)]:List D)[((1:Int)).toNat]? =some (.sl (d.map .str)):=rfl;have hj:=dt2 c d hcl hcl2;obtain rfl:R=(de5 c d,0):=hsel;generalize de5 c d=z at*
    repeat'(first|refine yz ?_|refine yp b36 hf ?_|(refine qS rfl ?_ ?_;exact⟨by decide,by(simp<;>omega)⟩)|refine qW (.sl (c.map .str)) rfl rfl rfl rfl rfl rfl hk0 rfl ?_|refine qW (.sl (d.map .str)) rfl rfl rfl rfl rfl rfl hk1 rfl ?_|refine yp b38 hj ?_|exact zL)
   ·-- op 4
    obtain⟨k,l,rfl⟩:∃k l,ks=[k,l]:=by(match ks,hn with|[k,l],_=>exact⟨k,l,rfl⟩)
    have hcl:=hcw k Oc;have hcl2:=hcw l Oc;dsimp only[List.map,dt4,bf7,aw6,List.append,HAppend.hAppend,Append.append,List.getD_cons_zero]at*;generalize(df9 k).1=c at*;generalize(df9 l).1=d at*;have hk0:([D.sl (c.map D.str),D.sl (d.map D.str)]:List D)[((0:Int)).toNat]? =some (.sl (c.map .str)):=rfl;have hk1:([D.sl (c.map D.str),D.sl (d.map D.str)]:List D)[((1:Int)).toNat]? =some (.sl (d.map .str)):=rfl;have hj:=dt2 c d hcl hcl2;obtain rfl:R=(de5 c d,0):=hsel;generalize de5 c d=z at*
    repeat'(first|refine yz ?_|refine yp b36 hf ?_|(refine qS rfl ?_ ?_;exact⟨by decide,by(simp<;>omega)⟩)|refine qW (.sl (c.map .str)) rfl rfl rfl rfl rfl rfl hk0 rfl ?_|refine qW (.sl (d.map .str)) rfl rfl rfl rfl rfl rfl hk1 rfl ?_|refine yp b38 hj ?_|exact zL)
   all_goals(obtain⟨k,rfl⟩:=List.length_eq_one_iff.1 hn;have hcl:=hcw k Oc;dsimp only[List.map,dt4,bf7,aw6,List.append,HAppend.hAppend,Append.append,List.getD_cons_zero]at*;generalize(df9 k).1=c at*;have hk0:([D.sl (c.map D.str)]:List D)[((0:Int)).toNat]? =some (.sl (c.map .str)):=rfl)
   ·-- op 5
    have h5:=hsb.ap rfl c hcl;have hv:=dp9 cl.ps hsb.nm hsb.ne;have hvl:=dq7 cl.ps;have hnm:=hsb.nm;have hj:=dt2 c (de9 cl.ps) hcl (by dsimp only at hnm;omega);have hR:R=df2 cl c:=hsel;dsimp only at h5
    cases hz0:(df2 cl c).2 !=0 with
    |true=>
     have hR2:R=([],(df2 cl c).2):=by rw[hR];exact Prod.ext (du0 (by simpa using hz0)) rfl
     subst hR2;clear hR hsel;generalize(df2 cl c).2=z at*;generalize de5 c (de9 cl.ps)=j at*;generalize de9 cl.ps=v at*
     repeat'(first|refine yz ?_|refine yp b36 hf ?_|(refine qS rfl ?_ ?_;exact⟨by decide,by(simp<;>omega)⟩)|refine qW (.sl (c.map .str)) rfl rfl rfl rfl rfl rfl hk0 rfl ?_|refine yp b40 h5 ?_|refine yp b41 hv ?_|refine yp b38 hj ?_|exact zL)
    |false=>
     have hz1:(df2 cl c).2=0:=by simpa using hz0
     rw[hz1]at h5;rw[dt9 hz1]at hR;subst hR;clear hsel;generalize de5 c (de9 cl.ps)=j at*;generalize de9 cl.ps=v at*
     repeat'(first|refine yz ?_|refine yp b36 hf ?_|(refine qS rfl ?_ ?_;exact⟨by decide,by(simp<;>omega)⟩)|refine qW (.sl (c.map .str)) rfl rfl rfl rfl rfl rfl hk0 rfl ?_|refine yp b40 h5 ?_|refine yp b41 hv ?_|refine yp b38 hj ?_|exact zL)
   ·-- op 6
    have hx:=cy2 e c (dn0 hsb.e) hsb.e
    cases hz0:cx6 e c !=0 with
    |true=>
     have hR2:R=([],cx6 e c):=by rw[hsel];show df7 (cx6 e c) c=_;unfold df7;rw[hz0];rfl
     subst hR2;clear hsel;generalize cx6 e c=z at*
     repeat'(first|refine yz ?_|refine yp b36 hf ?_|(refine qS rfl ?_ ?_;exact⟨by decide,by(simp<;>omega)⟩)|refine qW (.sl (c.map .str)) rfl rfl rfl rfl rfl rfl hk0 rfl ?_|refine yp b42 hx ?_|exact zL)
    |false=>
     have hz1:cx6 e c=0:=by simpa using hz0
     have hR2:R=(c,0):=by rw[hsel];show df7 (cx6 e c) c=_;unfold df7;rw[hz0];rfl
     subst hR2;rw[hz1]at hx;clear hsel
     repeat'(first|refine yz ?_|refine yp b36 hf ?_|(refine qS rfl ?_ ?_;exact⟨by decide,by(simp<;>omega)⟩)|refine qW (.sl (c.map .str)) rfl rfl rfl rfl rfl rfl hk0 rfl ?_|refine yp b42 hx ?_|exact zL)
   ·-- op 7
    have hi:=dn7 ⟨7,cj,cl,e,nm,it,od,sk,lm⟩ [dd6 k] c hsb.it;dsimp only at hi;have hR:R=(bif decide (it.length>24)then erR 4 else df4 ((7:Int)==8) c it []):=hsel;rw[←hR]at hi;clear hR hsel
    repeat'(first|refine yz ?_|refine yp b36 hf ?_|(refine qS rfl ?_ ?_;exact⟨by decide,by(simp<;>omega)⟩)|refine qW (.sl (c.map .str)) rfl rfl rfl rfl rfl rfl hk0 rfl ?_|refine yp b39 hi ?_|exact zL)
   ·-- op 8
    have hi:=dn7 ⟨8,cj,cl,e,nm,it,od,sk,lm⟩ [dd6 k] c hsb.it;dsimp only at hi;have hR:R=(bif decide (it.length>24)then erR 4 else df4 ((8:Int)==8) c it []):=hsel;rw[←hR]at hi;clear hR hsel
    repeat'(first|refine yz ?_|refine yp b36 hf ?_|(refine qS rfl ?_ ?_;exact⟨by decide,by(simp<;>omega)⟩)|refine qW (.sl (c.map .str)) rfl rfl rfl rfl rfl rfl hk0 rfl ?_|refine yp b39 hi ?_|exact zL)
   ·-- op 9
    obtain rfl:R=(c,0):=hsel
    repeat'(first|refine yz ?_|refine yp b36 hf ?_|(refine qS rfl ?_ ?_;exact⟨by decide,by(simp<;>omega)⟩)|refine qW (.sl (c.map .str)) rfl rfl rfl rfl rfl rfl hk0 rfl ?_|exact zL)
   ·-- op 10
    have hx:=dn2 od c hsb.od
    cases hz0:df5 c od !=0 with
    |true=>
     have hR2:R=([],df5 c od):=by rw[hsel];show df7 (df5 c od) c=_;unfold df7;rw[hz0];rfl
     subst hR2;clear hsel;generalize df5 c od=z at*
     repeat'(first|refine yz ?_|refine yp b36 hf ?_|(refine qS rfl ?_ ?_;exact⟨by decide,by(simp<;>omega)⟩)|refine qW (.sl (c.map .str)) rfl rfl rfl rfl rfl rfl hk0 rfl ?_|refine yp b43 hx ?_|exact zL)
    |false=>
     have hz1:df5 c od=0:=by simpa using hz0
     have hR2:R=(c,0):=by rw[hsel];show df7 (df5 c od) c=_;unfold df7;rw[hz0];rfl
     subst hR2;rw[hz1]at hx;clear hsel
     repeat'(first|refine yz ?_|refine yp b36 hf ?_|(refine qS rfl ?_ ?_;exact⟨by decide,by(simp<;>omega)⟩)|refine qW (.sl (c.map .str)) rfl rfl rfl rfl rfl rfl hk0 rfl ?_|refine yp b43 hx ?_|exact zL)
   ·-- op 11
    have hx:=dn3 ⟨11,cj,cl,e,nm,it,od,sk,lm⟩ [dd6 k] c hsb.e
    by_cases h0:c=[]
    ·subst h0;have hcl2:=ds9
     cases hz0:df6 ⟨11,cj,cl,e,nm,it,od,sk,lm⟩ [] !=0 with
     |true=>
      have hR2:R=([],df6 ⟨11,cj,cl,e,nm,it,od,sk,lm⟩ []):=by rw[hsel];show df7 (df6 ⟨11,cj,cl,e,nm,it,od,sk,lm⟩ []) ([]++ [nm])=_;unfold df7;rw[hz0];rfl
      subst hR2;clear hsel;generalize df6 ⟨11,cj,cl,e,nm,it,od,sk,lm⟩ []=z at*
      repeat'(first|refine bh2 (id:=34) [5] [] Ob Ob Oj ?_|refine reF (id:=34) (i:=0) 5 Ob rfl ?_|refine reF (id:=34) (i:=6) 1 Ob rfl ?_|refine reN ?_|refine yz ?_|refine yp b36 hf ?_|(refine qS rfl ?_ ?_;exact⟨by decide,by(simp<;>omega)⟩)|refine qW (.sl (([]:List ByteArray).map .str)) rfl rfl rfl rfl rfl rfl hk0 rfl ?_|refine yp b44 hx ?_|refine yp b45 hcl2 ?_|refine reZ (id:=34) (i:=5) (⟨by simp,fun d hd=>by(obtain rfl:=ez3.1 hd;rfl),by(show 1*16≤140737488355328;omega),by(show 1≤9223372036854775807;omega)⟩) rfl rfl rfl rfl rfl rfl rfl rfl rfl rfl Oj ?_|exact zL)
     |false=>
      have hz1:df6 ⟨11,cj,cl,e,nm,it,od,sk,lm⟩ []=0:=by simpa using hz0
      have hR2:R=([]++ [nm],0):=by rw[hsel];show df7 (df6 ⟨11,cj,cl,e,nm,it,od,sk,lm⟩ []) ([]++ [nm])=_;unfold df7;rw[hz0];rfl
      subst hR2;rw[hz1]at hx;clear hsel hz0 hz1;have hmp:([]++ [nm]).map D.str=([]:List ByteArray).map D.str++ [.str nm]:=Oc
      rw[hmp]
      repeat'(first|refine bh2 (id:=34) [5] [] Ob Ob Oj ?_|refine reF (id:=34) (i:=0) 5 Ob rfl ?_|refine reF (id:=34) (i:=6) 1 Ob rfl ?_|refine reN ?_|refine yz ?_|refine yp b36 hf ?_|(refine qS rfl ?_ ?_;exact⟨by decide,by(simp<;>omega)⟩)|refine qW (.sl (([]:List ByteArray).map .str)) rfl rfl rfl rfl rfl rfl hk0 rfl ?_|refine yp b44 hx ?_|refine yp b45 hcl2 ?_|refine reZ (id:=34) (i:=5) (⟨by simp,fun d hd=>by(obtain rfl:=ez3.1 hd;rfl),by(show 1*16≤140737488355328;omega),by(show 1≤9223372036854775807;omega)⟩) rfl rfl rfl rfl rfl rfl rfl rfl rfl rfl Oj ?_)
      refine au1 2 rfl ?_;dsimp only[ar5,ar4,ar7,ar6,List.map,List.set]
      repeat'(first|refine qM rfl rfl rfl ?_|exact zL)
    ·have hcl2:=dm8 c h0 Oa
     cases hz0:df6 ⟨11,cj,cl,e,nm,it,od,sk,lm⟩ c !=0 with
     |true=>
      have hR2:R=([],df6 ⟨11,cj,cl,e,nm,it,od,sk,lm⟩ c):=by rw[hsel];show df7 (df6 ⟨11,cj,cl,e,nm,it,od,sk,lm⟩ c) (c++ [nm])=_;unfold df7;rw[hz0];rfl
      subst hR2;clear hsel;generalize df6 ⟨11,cj,cl,e,nm,it,od,sk,lm⟩ c=z at*
      repeat'(first|refine bh2 (id:=34) [1,5] [] Ob Ob Oj ?_|refine reF (id:=34) (i:=0) 1 Ob rfl ?_|(refine reV (id:=34) (i:=2) rfl rfl rfl rfl rfl rfl ?_ ?_;(first|exact True.intro|rfl|assumption|omega|(simp only[inR];omega)|((show _≤(9223372036854775807:Nat));(try simp only[ByteArray.size_append]);omega)|exact au5 Oa Oa|exact au6 Oa Oa|exact⟨rfl,by decide,by decide⟩))|(refine reV (id:=34) (i:=3) rfl rfl rfl rfl rfl rfl ?_ ?_;(first|exact True.intro|rfl|assumption|omega|(simp only[inR];omega)|((show _≤(9223372036854775807:Nat));(try simp only[ByteArray.size_append]);omega)|exact au5 Oa Oa|exact au6 Oa Oa|exact⟨rfl,by decide,by decide⟩))|refine reF (id:=34) (i:=6) 1 Ob rfl ?_|refine reN ?_|refine yz ?_|refine yp b36 hf ?_|(refine qS rfl ?_ ?_;exact⟨by decide,by(simp<;>omega)⟩)|refine qW (.sl (c.map .str)) rfl rfl rfl rfl rfl rfl hk0 rfl ?_|refine yp b44 hx ?_|refine bl6 (id:=34) (i:=1) rfl rfl rfl rfl rfl rfl b45 rfl (hcl2) Oj ?_|(refine reV2 (id:=34) (i:=4) rfl rfl rfl rfl rfl rfl ?_ ?_;(first|exact True.intro|rfl|assumption|omega|(simp only[inR];omega)|((show _≤(9223372036854775807:Nat));(try simp only[ByteArray.size_append]);omega)|exact au5 Oa Oa|exact au6 Oa Oa|exact⟨rfl,by decide,by decide⟩))|refine reS (id:=34) (i:=5) rfl rfl rfl rfl (⟨by simp,fun d hd=>by(obtain rfl:=ez3.1 hd;rfl),by(show((c.map D.str).length+1)*16≤140737488355328;rw[ey4];omega),by(show(c.map D.str).length+1≤9223372036854775807;rw[ey4];omega)⟩) Oj ?_|exact zL)
     |false=>
      have hz1:df6 ⟨11,cj,cl,e,nm,it,od,sk,lm⟩ c=0:=by simpa using hz0
      have hR2:R=(c++ [nm],0):=by rw[hsel];show df7 (df6 ⟨11,cj,cl,e,nm,it,od,sk,lm⟩ c) (c++ [nm])=_;unfold df7;rw[hz0];rfl
      subst hR2;rw[hz1]at hx;clear hsel hz0 hz1;have hmp:(c++ [nm]).map D.str=c.map D.str++ [.str nm]:=Oc
      rw[hmp]
      repeat'(first|refine bh2 (id:=34) [1,5] [] Ob Ob Oj ?_|refine reF (id:=34) (i:=0) 1 Ob rfl ?_|(refine reV (id:=34) (i:=2) rfl rfl rfl rfl rfl rfl ?_ ?_;(first|exact True.intro|rfl|assumption|omega|(simp only[inR];omega)|((show _≤(9223372036854775807:Nat));(try simp only[ByteArray.size_append]);omega)|exact au5 Oa Oa|exact au6 Oa Oa|exact⟨rfl,by decide,by decide⟩))|(refine reV (id:=34) (i:=3) rfl rfl rfl rfl rfl rfl ?_ ?_;(first|exact True.intro|rfl|assumption|omega|(simp only[inR];omega)|((show _≤(9223372036854775807:Nat));(try simp only[ByteArray.size_append]);omega)|exact au5 Oa Oa|exact au6 Oa Oa|exact⟨rfl,by decide,by decide⟩))|refine reF (id:=34) (i:=6) 1 Ob rfl ?_|refine reN ?_|refine yz ?_|refine yp b36 hf ?_|(refine qS rfl ?_ ?_;exact⟨by decide,by(simp<;>omega)⟩)|refine qW (.sl (c.map .str)) rfl rfl rfl rfl rfl rfl hk0 rfl ?_|refine yp b44 hx ?_|refine bl6 (id:=34) (i:=1) rfl rfl rfl rfl rfl rfl b45 rfl (hcl2) Oj ?_|(refine reV2 (id:=34) (i:=4) rfl rfl rfl rfl rfl rfl ?_ ?_;(first|exact True.intro|rfl|assumption|omega|(simp only[inR];omega)|((show _≤(9223372036854775807:Nat));(try simp only[ByteArray.size_append]);omega)|exact au5 Oa Oa|exact au6 Oa Oa|exact⟨rfl,by decide,by decide⟩))|refine reS (id:=34) (i:=5) rfl rfl rfl rfl (⟨by simp,fun d hd=>by(obtain rfl:=ez3.1 hd;rfl),by(show((c.map D.str).length+1)*16≤140737488355328;rw[ey4];omega),by(show(c.map D.str).length+1≤9223372036854775807;rw[ey4];omega)⟩) Oj ?_)
      refine au1 3 rfl ?_;dsimp only[ar5,ar4,ar7,ar6,List.map,List.set]
      repeat'(first|refine qM rfl rfl rfl ?_|exact zL)
end Go.Proofs.YtndgolmgaenlfaaGreatDoor
