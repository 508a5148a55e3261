/- Sort keys, UNWIND, items and conjunctive queries of a plan, checked by the program; Items of a plan, checked by the program; The variables of path patterns in the order in which they come, by the program; Small facts on plans that other chapters' texts hold, too; The closures by which a plan's patterns and conditions are checked, and the library's searches with them; The size and the depth of a plan, by the program; Columns of a plan joined with others', by the program; The check of a plan, by the program. Conditions: each part's own, as it says. -/
import Derived.Test.YtndgolmgaenlfaaGreatDoorCA
import Derived.Test.YtndgolmgaenlfaaGreatDoorGC
import Derived.Test.YtndgolmgaenlfaaGreatDoorFB
set_option linter.unusedVariables false
set_option linter.unusedSimpArgs false
namespace Go.Proofs.YtndgolmgaenlfaaGreatDoor
set_option maxRecDepth 4000
open Go Go.Abs Go.Val Go.RowKit Go.Proofs.Tryz
attribute [local irreducible] go SGo an1 Ev au7 EvO EvS RGo PGo
abbrev smE(e:Ex):Prop:=nd e≤1000000
theorem dl7{e:Ex}(h:smE e):dp e≤1000000:=by have h':nd e≤1000000:=h;have:=cu9 e;omega
structure SStP(l:List SK)(cols:List ByteArray) where
 i:Nat
 hi:i≤l.length
 ok:df1 cols l=df1 cols (l.drop i)
theorem dl8{cols:List ByteArray}{l:List SK}{i:Nat}{x:SK}(h:l[i]? =some x):df1 cols (l.drop i)=bif cx1 x.e cols !=0 then cx1 x.e cols else df1 cols (l.drop (i+1)):=by
 rw[cn3 h,df1]
theorem dl9(l:List SK)(cols:List ByteArray)(hs:∀x∈l,smE x.e):Ev E 43 [.sl (l.map ci6),.sl (cols.map .str)] (.d (.int (df1 cols l))):=Ev.fit fun hfit=>by
 have hmax:=(cn5 (hfit (.sl (l.map ci6)) (by simp))).1;have hle:(l.map ci6).length=l.length:=by simp
 refine ye2 func43 ntmps43 fun _ _ _=>?_
 repeat'(refine yz ?_)
 refine ac7 (α:=SStP l cols) (fun p=>⟨[(1,.d (.sl (cols.map .str))),(8,.d (.sl (l.map ci6))),(9,.d (.int (l.map ci6).length)),(10,.d (.int p.i))],[]⟩) (fun p=>l.length-p.i) ⟨0,by omega,rfl⟩ (zle 0) ?_;rintro⟨i,hi,ok⟩;dsimp only;rcases es1 i l.length with hlt|hge
 ·have g1:decide ((i:Int)<((l.map ci6).length:Int))=true:=by rw[hle];simpa using hlt
  have hx0:=es0 hlt;generalize l[i]=x at hx0;have hx:=cn4 (f:=ci6) hx0;have hm:=hs x (es4 hx0);have hc:=cx7 x.e cols (dl7 hm) hm;rw[dl8 hx0]at ok
  cases hz:cx1 x.e cols !=0 with
  |true=>
   rw[hz,cond_true]at ok;rw[ok];generalize cx1 x.e cols=z at*
   repeat'(first|refine yz ?_|refine yi (ci6 x) hx ?_|refine bj4 rfl rfl rfl rfl rfl rfl rfl ?_|refine yp b42 hc ?_|exact zD)
  |false=>
   rw[hz,cond_false]at ok;have h0:cx1 x.e cols=0:=by simpa using hz
   rw[h0]at hc
   repeat'(first|refine yz ?_|refine yi (ci6 x) hx ?_|refine bj4 rfl rfl rfl rfl rfl rfl rfl ?_|refine yp b42 hc ?_)
   refine ac1 ?_;exact⟨⟨i+1,by omega,ok⟩,by dsimp only;omega,(zle 0)⟩
 ·have g1:decide ((i:Int)<((l.map ci6).length:Int))=false:=by rw[hle];simp;omega
  rw[eu0 hge,df1]at ok;rw[ok]
  repeat'(first|refine yz ?_|exact zD)
theorem dm0(b:PB)(K:List D)(cols:List ByteArray)(hs:smE b.e):Ev E 44 [dd0 b K,.sl (cols.map .str)] (.d (.int (df2 b cols))):=by
 have h1:=ci0 b.e (dl7 hs) hs;have h2:=dk8 b.nm;have h3:=cx6 b.e cols hs;have h4:=cp5 b.e;have h5:=bw2 cols b.nm;unfold df2
 cases hz:ch9 b.e !=0 with
 |true=>
  rw[cond_true];generalize ch9 b.e=z at*;refine ye2 func44 ntmps44 fun _ _ _=>?_
  repeat'(first|refine yz ?_|refine yp b61 h1 ?_|exact zD)
 |false=>
 have h0:ch9 b.e=0:=by simpa using hz
 rw[h0]at h1;rw[cond_false];clear hz h0;generalize cx0 b.e cols=kn at*;generalize ci9 b.e=ha at*;generalize bt9 cols b.nm=hc at*
 cases hw:cg8 b.nm with
 |false=>
  rw[hw]at h2;refine ye2 func44 ntmps44 fun _ _ _=>?_
  repeat'(first|refine yz ?_|refine yp b61 h1 ?_|refine yp b58 h2 ?_|exact zD)
 |true=>
 rw[hw]at h2
 cases kn with
 |false=>
  refine ye2 func44 ntmps44 fun _ _ _=>?_
  repeat'(first|refine yz ?_|refine yp b61 h1 ?_|refine yp b58 h2 ?_|refine yp b62 h3 ?_|exact zD)
 |true=>
 cases ha with
 |true=>
  refine ye2 func44 ntmps44 fun _ _ _=>?_
  repeat'(first|refine yz ?_|refine yp b61 h1 ?_|refine yp b58 h2 ?_|refine yp b62 h3 ?_|refine yp b63 h4 ?_|exact zD)
 |false=>
 cases hc with
 |true=>
  refine ye2 func44 ntmps44 fun _ _ _=>?_
  repeat'(first|refine yz ?_|refine yp b61 h1 ?_|refine yp b58 h2 ?_|refine yp b62 h3 ?_|refine yp b63 h4 ?_|refine yp b60 h5 ?_|exact zD)
 |false=>
  refine ye2 func44 ntmps44 fun _ _ _=>?_
  repeat'(first|refine yz ?_|refine yp b61 h1 ?_|refine yp b58 h2 ?_|refine yp b62 h3 ?_|refine yp b63 h4 ?_|refine yp b60 h5 ?_|exact zD)
structure SMuP(l:List ByteArray) where
 i:Nat
 hi:i≤l.length
 ok:l.all (fun s=>cg8 s||de0 s)=(l.drop i).all fun s=>cg8 s||de0 s
theorem dm1(c:CJ)(hl:c.vs.length≤1000000):Ev E 37 [by6 c] (.tup [.sl ((de6 c).1.map .str),.int (de6 c).2]):=Ev.fit fun hfit=>by
 have hk:=dl2 c;have hle:(c.vs.map D.str).length=c.vs.length:=by simp
 have hcl:=dl6 c.vs (by omega);unfold de6
 cases hz:dc1 c !=0 with
 |true=>
  rw[cond_true];generalize dc1 c=z at*;show Ev E 37 [by6 c] (.tup [.sl [],.int z]);refine ye1 func37 ntmps37 fun _ _ _=>?_
  repeat'(first|refine yz ?_|refine yp b57 hk ?_|exact zL)
 |false=>
  have h0:dc1 c=0:=by simpa using hz
  rw[h0]at hk;rw[cond_false];clear hz h0;refine ye1 func37 ntmps37 fun _ _ _=>?_
  repeat'(first|refine yz ?_|refine yp b57 hk ?_)
  refine ac7 (α:=SMuP c.vs) (fun p=>⟨[(1,.ptr 0 0),(13,.d (.sl (c.vs.map .str))),(14,.d (.int (c.vs.map D.str).length)),(15,.d (.int p.i))],[oCJ c]⟩) (fun p=>c.vs.length-p.i) ⟨0,by omega,rfl⟩ (zle 1) ?_;rintro⟨i,hi,ok⟩;dsimp only;rcases es1 i c.vs.length with hlt|hge
  ·have g1:decide ((i:Int)<((c.vs.map D.str).length:Int))=true:=by rw[hle];simpa using hlt
   have hx0:=es0 hlt;generalize c.vs[i]=x at hx0;have hx:=cn4 (f:=D.str) hx0;have h1:=dk8 x;have h2:=dk9 x;rw[cn3 hx0,ey0]at ok
   cases hw:cg8 x with
   |true=>
    rw[hw]at h1 ok;rw[Bool.true_or,ew3]at ok
    repeat'(first|refine yz ?_|refine yi (.str x) hx ?_|refine yp b58 h1 ?_)
    refine ac1 ?_;exact⟨⟨i+1,by omega,ok⟩,by dsimp only;omega,(zle 1)⟩
   |false=>
    rw[hw]at h1 ok
    cases hu:de0 x with
    |true=>
     rw[hu]at h2 ok;rw[ex1,ew3]at ok
     repeat'(first|refine yz ?_|refine yi (.str x) hx ?_|refine yp b58 h1 ?_|refine yp b59 h2 ?_)
     refine ac1 ?_;exact⟨⟨i+1,by omega,ok⟩,by dsimp only;omega,(zle 1)⟩
    |false=>
     rw[hu]at h2 ok;rw[ok]
     repeat'(first|refine yz ?_|refine yi (.str x) hx ?_|refine yp b58 h1 ?_|refine yp b59 h2 ?_|exact zL)
  ·have g1:decide ((i:Int)<((c.vs.map D.str).length:Int))=false:=by rw[hle];simp;omega
   rw[eu0 hge,List.all_nil]at ok;rw[ok]
   repeat'(first|refine yz ?_|refine yp b45 hcl ?_|exact zL)
abbrev oPB(b:PB)(K:List D):aa5:=.var 40 (.w (.d (dd0 b K)))
theorem dm2(l:List ByteArray)(s:ByteArray):EvS E 60 [.own 0,.d (.str s)] [.row 9 1 (l.map .str)] (.d (.bool (bt9 l s))) [.row 9 1 (l.map .str)]:=
 dl3 (ds:=[]) (es:=[.str s]) (bw2 l s)
structure SItP(g:Bool)(cols:List ByteArray)(l:List IT) where
 i:Nat
 out:List ByteArray
 hi:i≤l.length
 ho:out.length=i
 ok:df0 g cols l []=df0 g cols (l.drop i) out
theorem dm3{g:Bool}{cols out:List ByteArray}{l:List IT}{i:Nat}{x:IT}(h:l[i]? =some x):df0 g cols (l.drop i) out=bif de9 g x cols out !=0 then erR (de9 g x cols out)else df0 g cols (l.drop (i+1)) (out++ [x.asn]):=by
 rw[cn3 h,df0]
set_option maxHeartbeats 4000000 in
theorem dm4(b:PB)(K:List D)(cols:List ByteArray)(hs:∀x∈b.it,smE x.e):Ev E 39 [dd0 b K,.sl (cols.map .str)]
  (.tup [.sl ((bif decide (b.it.length>24)then erR 4 else df0 (b.op==8) cols b.it []).1.map .str),.int (bif decide (b.it.length>24)then erR 4 else df0 (b.op==8) cols b.it []).2]):=by
 have hle:(b.it.map ci5).length=b.it.length:=by simp
 generalize hg8:(b.op==8)=g8
 cases hn:decide (b.it.length>24)with
 |true=>
  have g1:decide (((b.it.map ci5).length:Int)>24)=true:=by rw[hle];simp at hn ⊢;omega
  show Ev E 39 _ (.tup [.sl [],.int 4]);refine ye2 func39 ntmps39 fun _ _ _=>?_
  repeat'(first|refine yz ?_|exact zL)
 |false=>
 have hn24:b.it.length≤24:=by have:=of_decide_eq_false hn;omega
 have g1:decide (((b.it.map ci5).length:Int)>24)=false:=by rw[hle];simp;omega
 rw[cond_false];refine ye2 func39 ntmps39 fun _ _ _=>?_
 repeat'(refine yz ?_)
 refine ac7 (α:=SItP g8 cols b.it) (fun p=>⟨[(1,.d (.sl (cols.map .str))),(2,.ptr 0 0),(6,bf8 1 (p.out.map .str)),(16,.d (.sl (b.it.map ci5))),(17,.d (.int (b.it.map ci5).length)),(18,.d (.int p.i))],[oPB b K]++aw6 9 1 (p.out.map .str)⟩) (fun p=>b.it.length-p.i) ⟨0,[],by omega,rfl,rfl⟩ (zle 1) ?_;rintro⟨i,out,hi,ho,ok⟩;dsimp only;rcases es1 i b.it.length with hlt|hge
 ·have g2:decide ((i:Int)<((b.it.map ci5).length:Int))=true:=by rw[hle];simpa using hlt
  have hx0:=es0 hlt;generalize b.it[i]=x at hx0;have hx:=cn4 (f:=ci5) hx0;have hm:=hs x (es4 hx0);have h1:=ci0 x.e (dl7 hm) hm;have h2:=dk8 x.asn;have h3:=cx6 x.e cols hm;have h4:=cp5 x.e;have hat:=dm3 (g:=g8) (cols:=cols) (out:=out) hx0;unfold de9 at hat;rw[ok,hat];generalize cx0 x.e cols=kn at*;generalize ci9 x.e=ha at*
  match out,ho,ok with
  |[],ho,ok=>
   dsimp only[bf8,aw6,List.map,List.append,HAppend.hAppend,Append.append];have hcon:=bw2 [] x.asn;generalize hq:bt9 [] x.asn=hc at*
   cases hz:ch9 x.e !=0 with
   |true=>
    rw[cond_true,hz,cond_true];generalize ch9 x.e=z at*;show go _ _ _ (an5 _ _ (.tup [.sl [],.int z]))
    repeat'(first|refine yz ?_|refine yi (ci5 x) hx ?_|refine bj4 rfl rfl rfl rfl rfl rfl rfl ?_|refine yp b61 h1 ?_|exact zL)
   |false=>
   have h0:ch9 x.e=0:=by simpa using hz
   rw[h0]at h1;rw[cond_false];clear h0
   cases hw:cg8 x.asn with
   |false=>
    rw[hw]at h2;show go _ _ _ (an5 _ _ (.tup [.sl [],.int 6]))
    repeat'(first|refine yz ?_|refine yi (ci5 x) hx ?_|refine bj4 rfl rfl rfl rfl rfl rfl rfl ?_|refine yp b61 h1 ?_|refine yp b58 h2 ?_|(refine yy ?_ ?_<;>intro _)|exact zL)
   |true=>
   rw[hw]at h2
   cases kn with
   |false=>
    show go _ _ _ (an5 _ _ (.tup [.sl [],.int 6]))
    repeat'(first|refine yz ?_|refine yi (ci5 x) hx ?_|refine bj4 rfl rfl rfl rfl rfl rfl rfl ?_|refine yp b61 h1 ?_|refine yp b58 h2 ?_|refine yp b62 h3 ?_|(refine yy ?_ ?_<;>intro _)|exact zL)
   |true=>
   cases ha with
   |false=>
    cases g8 with
    |false=>
     cases hc with
     |true=>
      simp[bt9]at hq
     |false=>
      show go _ _ _ (an5 _ _ (.tup [.sl ((df0 false cols (b.it.drop (i+1)) ([]++ [x.asn])).1.map .str),.int (df0 false cols (b.it.drop (i+1)) ([]++ [x.asn])).2]));have hnew:df0 false cols b.it []=df0 false cols (b.it.drop (i+1)) ([]++ [x.asn]):=by rw[ok,hat,hz,hw];rfl
      rw[←hnew]
      repeat'(first|refine yz ?_|refine yi (ci5 x) hx ?_|refine bj4 rfl rfl rfl rfl rfl rfl rfl ?_|refine yp b61 h1 ?_|refine yp b58 h2 ?_|refine yp b62 h3 ?_|refine yp b63 h4 ?_|refine yp b60 hcon ?_|(refine qS rfl ⟨by simp,fun d hd=>by(obtain rfl:=et9.1 hd;rfl),by(show _*16≤140737488355328;simp;try omega),by(show _≤9223372036854775807;simp;try omega)⟩ ?_)|refine yx ?_)
      refine ac1 ?_;exact⟨⟨i+1,[]++ [x.asn],by omega,by simp only[es2,es3,es8]at*;omega,hnew⟩,by dsimp only;omega,(bg7 [0,2])⟩
    |true=>
     cases hc with
     |true=>
      simp[bt9]at hq
     |false=>
      show go _ _ _ (an5 _ _ (.tup [.sl ((df0 true cols (b.it.drop (i+1)) ([]++ [x.asn])).1.map .str),.int (df0 true cols (b.it.drop (i+1)) ([]++ [x.asn])).2]));have hnew:df0 true cols b.it []=df0 true cols (b.it.drop (i+1)) ([]++ [x.asn]):=by rw[ok,hat,hz,hw];rfl
      rw[←hnew]
      repeat'(first|refine yz ?_|refine yi (ci5 x) hx ?_|refine bj4 rfl rfl rfl rfl rfl rfl rfl ?_|refine yp b61 h1 ?_|refine yp b58 h2 ?_|refine yp b62 h3 ?_|refine yp b63 h4 ?_|refine yp b60 hcon ?_|(refine qS rfl ⟨by simp,fun d hd=>by(obtain rfl:=et9.1 hd;rfl),by(show _*16≤140737488355328;simp;try omega),by(show _≤9223372036854775807;simp;try omega)⟩ ?_)|refine yx ?_)
      refine ac1 ?_;exact⟨⟨i+1,[]++ [x.asn],by omega,by simp only[es2,es3,es8]at*;omega,hnew⟩,by dsimp only;omega,(bg7 [0,2])⟩
   |true=>
    cases g8 with
    |false=>
     show go _ _ _ (an5 _ _ (.tup [.sl [],.int 9]))
     repeat'(first|refine yz ?_|refine yi (ci5 x) hx ?_|refine bj4 rfl rfl rfl rfl rfl rfl rfl ?_|refine yp b61 h1 ?_|refine yp b58 h2 ?_|refine yp b62 h3 ?_|refine yp b63 h4 ?_|refine yx ?_|exact zL)
    |true=>
     cases c2:x.e.op==24 with
     |false=>
      have c3:(!(x.e.op==24))=true:=by rw[c2];rfl
      show go _ _ _ (an5 _ _ (.tup [.sl [],.int 9]))
      repeat'(first|refine yz ?_|refine yi (ci5 x) hx ?_|refine bj4 rfl rfl rfl rfl rfl rfl rfl ?_|refine yp b61 h1 ?_|refine yp b58 h2 ?_|refine yp b62 h3 ?_|refine yp b63 h4 ?_|refine yx ?_|exact zL)
     |true=>
      rw[c2]at hat;have c3:(!(x.e.op==24))=false:=by rw[c2];rfl
      cases hc with
      |true=>
       simp[bt9]at hq
      |false=>
       show go _ _ _ (an5 _ _ (.tup [.sl ((df0 true cols (b.it.drop (i+1)) ([]++ [x.asn])).1.map .str),.int (df0 true cols (b.it.drop (i+1)) ([]++ [x.asn])).2]));have hnew:df0 true cols b.it []=df0 true cols (b.it.drop (i+1)) ([]++ [x.asn]):=by rw[ok,hat,hz,hw];rfl
       rw[←hnew]
       repeat'(first|refine yz ?_|refine yi (ci5 x) hx ?_|refine bj4 rfl rfl rfl rfl rfl rfl rfl ?_|refine yp b61 h1 ?_|refine yp b58 h2 ?_|refine yp b62 h3 ?_|refine yp b63 h4 ?_|refine yp b60 hcon ?_|(refine qS rfl ⟨by simp,fun d hd=>by(obtain rfl:=et9.1 hd;rfl),by(show _*16≤140737488355328;simp;try omega),by(show _≤9223372036854775807;simp;try omega)⟩ ?_)|refine yx ?_)
       refine ac1 ?_;exact⟨⟨i+1,[]++ [x.asn],by omega,by simp only[es2,es3,es8]at*;omega,hnew⟩,by dsimp only;omega,(bg7 [0,2])⟩
  |a::q,ho,ok=>
   dsimp only[bf8,aw6,List.map,List.append,HAppend.hAppend,Append.append];have hcon:=dm2 (a::q) x.asn;generalize hq:bt9 (a::q) x.asn=hc at*
   cases hz:ch9 x.e !=0 with
   |true=>
    rw[cond_true,hz,cond_true];generalize ch9 x.e=z at*;show go _ _ _ (an5 _ _ (.tup [.sl [],.int z]))
    repeat'(first|refine yz ?_|refine yi (ci5 x) hx ?_|refine bj4 rfl rfl rfl rfl rfl rfl rfl ?_|refine yp b61 h1 ?_|exact zL)
   |false=>
   have h0:ch9 x.e=0:=by simpa using hz
   rw[h0]at h1;rw[cond_false];clear h0
   cases hw:cg8 x.asn with
   |false=>
    rw[hw]at h2;show go _ _ _ (an5 _ _ (.tup [.sl [],.int 6]))
    repeat'(first|refine yz ?_|refine yi (ci5 x) hx ?_|refine bj4 rfl rfl rfl rfl rfl rfl rfl ?_|refine yp b61 h1 ?_|refine yp b58 h2 ?_|(refine yy ?_ ?_<;>intro _)|exact zL)
   |true=>
   rw[hw]at h2
   cases kn with
   |false=>
    show go _ _ _ (an5 _ _ (.tup [.sl [],.int 6]))
    repeat'(first|refine yz ?_|refine yi (ci5 x) hx ?_|refine bj4 rfl rfl rfl rfl rfl rfl rfl ?_|refine yp b61 h1 ?_|refine yp b58 h2 ?_|refine yp b62 h3 ?_|(refine yy ?_ ?_<;>intro _)|exact zL)
   |true=>
   cases ha with
   |false=>
    cases g8 with
    |false=>
     cases hc with
     |true=>
      show go _ _ _ (an5 _ _ (.tup [.sl [],.int 7]))
      repeat'(first|refine yz ?_|refine yi (ci5 x) hx ?_|refine bj4 rfl rfl rfl rfl rfl rfl rfl ?_|refine yp b61 h1 ?_|refine yp b58 h2 ?_|refine yp b62 h3 ?_|refine yp b63 h4 ?_|refine yc [1] b60 (hcon) ?_|refine yx ?_|exact zL)
     |false=>
      show go _ _ _ (an5 _ _ (.tup [.sl ((df0 false cols (b.it.drop (i+1)) ((a::q)++ [x.asn])).1.map .str),.int (df0 false cols (b.it.drop (i+1)) ((a::q)++ [x.asn])).2]));have hnl:q.length≤24:=by simp only[es3]at ho;omega
      have hnew:df0 false cols b.it []=df0 false cols (b.it.drop (i+1)) ((a::q)++ [x.asn]):=by rw[ok,hat,hz,hw];rfl
      rw[←hnew]
      repeat'(first|refine yz ?_|refine yi (ci5 x) hx ?_|refine bj4 rfl rfl rfl rfl rfl rfl rfl ?_|refine yp b61 h1 ?_|refine yp b58 h2 ?_|refine yp b62 h3 ?_|refine yp b63 h4 ?_|refine yc [1] b60 (hcon) ?_|(refine qS rfl ⟨by simp,fun d hd=>by(obtain rfl:=et9.1 hd;rfl),by(show _*16≤140737488355328;simp;try omega),by(show _≤9223372036854775807;simp;try omega)⟩ ?_)|refine yx ?_)
      refine ac1 ?_;have hmap:(a::q++ [x.asn]).map D.str=(D.str a::List.map D.str q)++ [D.str x.asn]:=by simp
      refine⟨⟨i+1,a::q++ [x.asn],by omega,by simp only[es2,es3,es8]at*;omega,hnew⟩,by dsimp only;omega,?_⟩;dsimp only;rw[hmap];exact(bg7 [0,3])
    |true=>
     cases hc with
     |true=>
      show go _ _ _ (an5 _ _ (.tup [.sl [],.int 7]))
      repeat'(first|refine yz ?_|refine yi (ci5 x) hx ?_|refine bj4 rfl rfl rfl rfl rfl rfl rfl ?_|refine yp b61 h1 ?_|refine yp b58 h2 ?_|refine yp b62 h3 ?_|refine yp b63 h4 ?_|refine yc [1] b60 (hcon) ?_|refine yx ?_|exact zL)
     |false=>
      show go _ _ _ (an5 _ _ (.tup [.sl ((df0 true cols (b.it.drop (i+1)) ((a::q)++ [x.asn])).1.map .str),.int (df0 true cols (b.it.drop (i+1)) ((a::q)++ [x.asn])).2]));have hnl:q.length≤24:=by simp only[es3]at ho;omega
      have hnew:df0 true cols b.it []=df0 true cols (b.it.drop (i+1)) ((a::q)++ [x.asn]):=by rw[ok,hat,hz,hw];rfl
      rw[←hnew]
      repeat'(first|refine yz ?_|refine yi (ci5 x) hx ?_|refine bj4 rfl rfl rfl rfl rfl rfl rfl ?_|refine yp b61 h1 ?_|refine yp b58 h2 ?_|refine yp b62 h3 ?_|refine yp b63 h4 ?_|refine yc [1] b60 (hcon) ?_|(refine qS rfl ⟨by simp,fun d hd=>by(obtain rfl:=et9.1 hd;rfl),by(show _*16≤140737488355328;simp;try omega),by(show _≤9223372036854775807;simp;try omega)⟩ ?_)|refine yx ?_)
      refine ac1 ?_;have hmap:(a::q++ [x.asn]).map D.str=(D.str a::List.map D.str q)++ [D.str x.asn]:=by simp
      refine⟨⟨i+1,a::q++ [x.asn],by omega,by simp only[es2,es3,es8]at*;omega,hnew⟩,by dsimp only;omega,?_⟩;dsimp only;rw[hmap];exact(bg7 [0,3])
   |true=>
    cases g8 with
    |false=>
     show go _ _ _ (an5 _ _ (.tup [.sl [],.int 9]))
     repeat'(first|refine yz ?_|refine yi (ci5 x) hx ?_|refine bj4 rfl rfl rfl rfl rfl rfl rfl ?_|refine yp b61 h1 ?_|refine yp b58 h2 ?_|refine yp b62 h3 ?_|refine yp b63 h4 ?_|refine yx ?_|exact zL)
    |true=>
     cases c2:x.e.op==24 with
     |false=>
      have c3:(!(x.e.op==24))=true:=by rw[c2];rfl
      show go _ _ _ (an5 _ _ (.tup [.sl [],.int 9]))
      repeat'(first|refine yz ?_|refine yi (ci5 x) hx ?_|refine bj4 rfl rfl rfl rfl rfl rfl rfl ?_|refine yp b61 h1 ?_|refine yp b58 h2 ?_|refine yp b62 h3 ?_|refine yp b63 h4 ?_|refine yx ?_|exact zL)
     |true=>
      rw[c2]at hat;have c3:(!(x.e.op==24))=false:=by rw[c2];rfl
      cases hc with
      |true=>
       show go _ _ _ (an5 _ _ (.tup [.sl [],.int 7]))
       repeat'(first|refine yz ?_|refine yi (ci5 x) hx ?_|refine bj4 rfl rfl rfl rfl rfl rfl rfl ?_|refine yp b61 h1 ?_|refine yp b58 h2 ?_|refine yp b62 h3 ?_|refine yp b63 h4 ?_|refine yc [1] b60 (hcon) ?_|refine yx ?_|exact zL)
      |false=>
       show go _ _ _ (an5 _ _ (.tup [.sl ((df0 true cols (b.it.drop (i+1)) ((a::q)++ [x.asn])).1.map .str),.int (df0 true cols (b.it.drop (i+1)) ((a::q)++ [x.asn])).2]));have hnl:q.length≤24:=by simp only[es3]at ho;omega
       have hnew:df0 true cols b.it []=df0 true cols (b.it.drop (i+1)) ((a::q)++ [x.asn]):=by rw[ok,hat,hz,hw];rfl
       rw[←hnew]
       repeat'(first|refine yz ?_|refine yi (ci5 x) hx ?_|refine bj4 rfl rfl rfl rfl rfl rfl rfl ?_|refine yp b61 h1 ?_|refine yp b58 h2 ?_|refine yp b62 h3 ?_|refine yp b63 h4 ?_|refine yc [1] b60 (hcon) ?_|(refine qS rfl ⟨by simp,fun d hd=>by(obtain rfl:=et9.1 hd;rfl),by(show _*16≤140737488355328;simp;try omega),by(show _≤9223372036854775807;simp;try omega)⟩ ?_)|refine yx ?_)
       refine ac1 ?_;have hmap:(a::q++ [x.asn]).map D.str=(D.str a::List.map D.str q)++ [D.str x.asn]:=by simp
       refine⟨⟨i+1,a::q++ [x.asn],by omega,by simp only[es2,es3,es8]at*;omega,hnew⟩,by dsimp only;omega,?_⟩;dsimp only;rw[hmap];exact(bg7 [0,3])
 ·have g2:decide ((i:Int)<((b.it.map ci5).length:Int))=false:=by rw[hle];simp;omega
  rw[ok,eu0 hge,df0]
  match out with
  |[]=>
   dsimp only[bf8,aw6,List.map]
   repeat'(first|refine yz ?_|exact zL)
  |a::q=>
   dsimp only[bf8,aw6,List.map];refine au1 1 rfl ?_;dsimp only[ar5,ar4,ar7,ar6,List.map,List.set]
   repeat'(first|refine yz ?_|exact zL)
abbrev rS(l:List ByteArray):aa5:=.row 9 1 (l.map .str)
def fS(k:Nat):List ByteArray→X
 |[]=>.nilS
 |_::_=>.own k
def gS:List ByteArray→aa5
 |[]=>.dead
 |x::r=>rS (x::r)
structure dm5(P:Prop):Prop where
 h:P
theorem dm6{C:Cx}{r:List It}{s:St}{Q:Exit→St→Prop}{α:Type}(id t:Nat){l:Array Oper}{d:Bool}{a b:Code}{c:Code}(S:α→St)(b0:α)(h1:dm5 (go C (.code (.seq (.region id l d) (.cond (.tmp t) a b)):: .stop (fun s'=>∃b,b=b0∧Le C s' (S b)):: .code c::r) s Q))
  (h2:dm5 (go C (.code c::r) (S b0) Q)):go C (.code (.seq (.region id l d) (.cond (.tmp t) a b)):: .code c::r) s Q:=by
 refine bd1 _ h1.h ?_;rintro s' ⟨b,rfl,hl⟩;exact ac6 hl h2.h
theorem dm7{s:ByteArray}(h:s0B s=true):EvS E 69 [.nilS,.d (.str s)] [] .nilS []:=by
 have g0:(s.toList==(⟨#[]⟩:ByteArray).toList)=true:=h;refine yn func69 ntmps69 fun _ _ _ _=>?_
 repeat'(first|refine yz ?_|refine bb1 [] rfl rfl rfl rfl rfl ?_|refine yx ?_)
 all_goals rfl
theorem dm8{s:ByteArray}(h:s0B s=false):EvS E 69 [.nilS,.d (.str s)] [] (.own 0) [rS [s]]:=by
 have g0:(s.toList==(⟨#[]⟩:ByteArray).toList)=false:=h;have hc:=bw2 [] s;have hc:Ev E 60 [.sl [],.str s] (.d (.bool false)):=hc;refine yn func69 ntmps69 fun _ _ _ _=>?_
 repeat'(first|refine yz ?_|refine yp b60 hc ?_|(refine qS rfl ⟨by simp,fun d hd=>by(obtain rfl:=et9.1 hd;rfl),by(show(0+1)*16≤140737488355328;omega),by(show 0+1≤9223372036854775807;omega)⟩ ?_)|refine bb1 [0] rfl rfl rfl rfl rfl ?_|refine yx ?_)
 all_goals rfl
theorem dm9{s:ByteArray}{l:List ByteArray}(h:(s0B s||bt9 l s)=true):EvS E 69 [.own 0,.d (.str s)] [rS l] (.own 0) [rS l]:=by
 have hc:=dm2 l s
 cases h0:s0B s with
 |true=>
  have g0:(s.toList==(⟨#[]⟩:ByteArray).toList)=true:=h0;refine yn func69 ntmps69 fun _ _ _ _=>?_
  repeat'(first|refine yz ?_|refine bb1 [0] rfl rfl rfl rfl rfl ?_|refine yx ?_)
  all_goals rfl
 |false=>
  have g0:(s.toList==(⟨#[]⟩:ByteArray).toList)=false:=h0;rw[h0,ex1]at h;rw[h]at hc;refine yn func69 ntmps69 fun _ _ _ _=>?_
  repeat'(first|refine yz ?_|refine yc [0] b60 (hc) ?_|refine bb1 [0] rfl rfl rfl rfl rfl ?_|refine yx ?_)
  all_goals rfl
theorem dn0{s:ByteArray}{l:List ByteArray}(h:(s0B s||bt9 l s)=false)(hl:l.length≤1000000):EvS E 69 [.own 0,.d (.str s)] [rS l] (.own 1) [.dead,rS (l++ [s])]:=by
 have hc:=dm2 l s;rw[ev8]at h;have g0:(s.toList==(⟨#[]⟩:ByteArray).toList)=false:=h.1;rw[h.2]at hc;have hle:(l.map D.str).length=l.length:=by simp
 have hm:(l++ [s]).map D.str=l.map D.str++ [.str s]:=by simp
 unfold rS;rw[hm];refine yn func69 ntmps69 fun _ _ _ _=>?_
 repeat'(first|refine yz ?_|refine yc [0] b60 (hc) ?_|(refine qS rfl ⟨by simp,fun d hd=>by(obtain rfl:=et9.1 hd;rfl),by(show((l.map D.str).length+1)*16≤140737488355328;omega),by(show(l.map D.str).length+1≤9223372036854775807;omega)⟩ ?_)|refine bb1 [0,1] rfl rfl rfl rfl rfl ?_|refine yx ?_)
 all_goals rfl
def nE(es:List EP)(i:Nat):List ByteArray:=(es[i]?).toList.map EP.vr
def nN(ns:List NP)(i:Nat):List ByteArray:=(ns[i]?).toList.map NP.vr
def nB(es:List EP):Nat→List ByteArray
 |0=>[]
 |j+1=>nE es j
def rnd(ns:List NP)(es:List EP)(i:Nat):List ByteArray:=nB es i++nN ns i
def dn1(ns:List NP)(es:List EP)(i:Nat):List ByteArray:=nN ns i++nE es i
theorem dn2{f:Nat→List ByteArray}(n:Nat):(List.range (n+1)).flatMap f=(List.range n).flatMap f++f n:=by rw[List.range_succ,fa8];simp
theorem dn3(ns:List NP)(es:List EP):∀n,(List.range (n+1)).flatMap (rnd ns es)=(List.range n).flatMap (dn1 ns es)++nN ns n
 |0=>by simp[rnd,nB]
 |n+1=>by rw[dn2,dn3 ns es n,dn2];simp[rnd,dn1,nB]
theorem dn4{f:Nat→List ByteArray}(h:∀i,f i=[])(n:Nat):(List.range n).flatMap f=[]:=by
 rw[List.flatMap_eq_nil_iff];intro i _;exact h i
theorem dn5{f g:Nat→List ByteArray}(h:∀i,f (i+1)=g i):∀n,(List.range (n+1)).flatMap f=f 0++(List.range n).flatMap g
 |0=>by simp
 |n+1=>by rw[dn2,dn5 h n,dn2,h];simp
theorem dn6:∀(ns:List NP) (es:List EP) (n:Nat),ns.length≤n→es.length≤n→(List.range n).flatMap (dn1 ns es)=de3 ns es
 |[],[],n,_,_=>by rw[de3,ey1];exact dn4 (fun i=>by simp[dn1,nN,nE]) n
 |[],e::q,n,_,h=>by
  match n,h with
  |n+1,h=>
   rw[de3,eu5,dn5 (g:=dn1 [] q) (fun i=>by simp[dn1,nN,nE]),dn6 [] q n (by simp) (by simpa using h)];simp[dn1,nN,nE,de3]
 |a::r,[],n,h,_=>by
  match n,h with
  |n+1,h=>
   rw[de3,dn5 (g:=dn1 r []) (fun i=>by simp[dn1,nN,nE]),dn6 r [] n (by simpa using h) (by simp)]
   cases r<;>simp[dn1,nN,nE,de3]
 |a::r,e::q,n,h1,h2=>by
  match n,h1,h2 with
  |n+1,h1,h2=>
   rw[de3,dn5 (g:=dn1 r q) (fun i=>by simp[dn1,nN,nE]),dn6 r q n (by simpa using h1) (by simpa using h2)];simp[dn1,nN,nE]
theorem dn7(ns:List NP)(es:List EP){n:Nat}(hn:n=max ns.length (es.length+1)):(List.range n).flatMap (rnd ns es)=de3 ns es:=by
 obtain⟨m,rfl⟩:∃m,n=m+1:=⟨n-1,by omega⟩;rw[dn3,←dn6 ns es (m+1) (by omega) (by omega),dn2];have:nE es m=[]:=by unfold nE;rw[ev1 (by omega)];rfl
 rw[dn1,this,ex6]
def dn8(l:List ByteArray)(ns:List ByteArray):List ByteArray:=ns.foldl de2 l
theorem dn9(l a b:List ByteArray):dn8 l (a++b)=dn8 (dn8 l a) b:=by unfold dn8;rw[List.foldl_append]
theorem do0:∀(ns l:List ByteArray),(dn8 l ns).length≤l.length+ns.length
 |[],l=>by simp[dn8]
 |s::r,l=>by
  have h1:=do0 r (de2 l s);have h2:(de2 l s).length≤l.length+1:=by unfold de2;cases s0B s||bt9 l s<;>simp
  show(dn8 (de2 l s) r).length≤_;simp only[es3];omega
theorem do1{l:List ByteArray}{s:ByteArray}(h:(s0B s||bt9 l s)=true):de2 l s=l:=by unfold de2;rw[h];rfl
theorem do2{l:List ByteArray}{s:ByteArray}(h:(s0B s||bt9 l s)=false):de2 l s=l++ [s]:=by unfold de2;rw[h];rfl
abbrev oPAp(p:PA):aa5:=.var 69 (.w (.d (ci4 p)))
structure SVi(M:Nat) where
 j:Nat
 hj:j≤M
structure SVo(l:List PA) where
 i:Nat
 hi:i≤l.length
theorem nN_at{ns:List NP}{i:Nat}{x:NP}(h:ns[i]? =some x):nN ns i=[x.vr]:=by unfold nN;rw[h];rfl
theorem do3{ns:List NP}{i:Nat}(h:ns.length≤i):nN ns i=[]:=by unfold nN;rw[ev1 h];rfl
theorem nE_at{es:List EP}{i:Nat}{x:EP}(h:es[i]? =some x):nE es i=[x.vr]:=by unfold nE;rw[h];rfl
theorem do4{es:List EP}{i:Nat}(h:es.length≤i):nE es i=[]:=by unfold nE;rw[ev1 h];rfl
theorem do5(l:List ByteArray)(s:ByteArray):(l++ [s]).map D.str=l.map D.str++ [.str s]:=by simp
set_option maxHeartbeats 4000000 in
theorem do6(l:List PA)(hsm:(de4 l).length≤900000)(hn:∀p∈l,p.ns.length≤1000000∧p.es.length≤1000000):Ev E 41 [.sl (l.map ci4)] (.d (.sl ((de5 l).map .str))):=Ev.fit fun hfit=>by
 have hmax:=(cn5 (hfit (.sl (l.map ci4)) (by simp))).1;have hle:(l.map ci4).length=l.length:=by simp
 refine ye1 func41 ntmps41 fun _ _ _=>?_
 repeat'(refine yz ?_)
 refine bj8 ?_;refine ac7 (α:=SVo l) (fun p=>⟨[(3,fS 0 (dn8 [] (de4 (l.take p.i)))),(7,.d (.sl (l.map ci4))),(8,.d (.int (l.map ci4).length)),(9,.d (.int p.i))],[gS (dn8 [] (de4 (l.take p.i)))]⟩) (fun p=>l.length-p.i) ⟨0,by omega⟩ (zle 1) ?_;rintro⟨i,hi⟩;dsimp only;rcases es1 i l.length with hlt|hge
 ·have g1:decide ((i:Int)<((l.map ci4).length:Int))=true:=by rw[hle];simpa using hlt
  have hx0:=es0 hlt;generalize l[i]=p at hx0;have hx:=cn4 (f:=ci4) hx0;have hpm:=es4 hx0;obtain⟨hns,hes⟩:=hn p hpm;have hln:(p.ns.map ci2).length=p.ns.length:=by simp
  have hlee:(p.es.map ci3).length=p.es.length:=by simp
  have htk:de4 (l.take (i+1))=de4 (l.take i)++(de3 p.ns p.es++ [p.vr]):=by unfold de4;rw[ew5,hx0,fa8];simp
  have hbnd:(de4 (l.take (i+1))).length≤900000:=by
   have h:de4 l=de4 (l.take (i+1))++de4 (l.drop (i+1)):=by unfold de4;rw[←fa8,ey2]
   have:=congrArg List.length h;rw[es2]at this;omega
  rw[htk,es2,es2]at hbnd;simp only[es3,es8]at hbnd;obtain⟨L0,hL0⟩:∃L0,L0=dn8 [] (de4 (l.take i)):=⟨_,rfl⟩;have hL0l:L0.length≤(de4 (l.take i)).length:=by rw[hL0];have:=do0 (de4 (l.take i)) [];simpa using this
  have hend:dn8 [] (de4 (l.take (i+1)))=de2 (dn8 L0 (de3 p.ns p.es)) p.vr:=by rw[htk,dn9,dn9,←hL0];rfl
  rw[←hL0];clear hL0;obtain⟨M,hM⟩:∃M,M=max p.ns.length (p.es.length+1):=⟨_,rfl⟩;have hMx:(max ((p.ns.map ci2).length:Int) (((p.es.map ci3).length:Int)+1))=(M:Int):=by rw[hln,hlee,hM];omega
  have hin:∀j,j≤M→(dn8 L0 ((List.range j).flatMap (rnd p.ns p.es))).length≤900000:=fun j hj=>by
   have h1:=do0 ((List.range j).flatMap (rnd p.ns p.es)) L0
   have h2:((List.range j).flatMap (rnd p.ns p.es)).length≤(de3 p.ns p.es).length:=by
    have h3:=dn7 p.ns p.es hM
    have h4:List.range M=List.range j++(List.range M).drop j:=by
     have h5:=ey2 j (List.range M);rw[List.take_range,Nat.min_eq_left hj]at h5;exact h5.symm
    rw[h4,fa8]at h3;have:=congrArg List.length h3;rw[es2]at this;omega
   omega
  repeat'(first|refine yz ?_|refine yi (ci4 p) hx ?_)
  refine ac7 (α:=SVi M) (fun q=>⟨[(3,fS 0 (dn8 L0 ((List.range q.j).flatMap (rnd p.ns p.es)))),(5,.ptr 1 0),(7,.d (.sl (l.map ci4))),(8,.d (.int (l.map ci4).length)),(9,.d (.int i)),(20,.d (.int (max ((p.ns.map ci2).length:Int) (((p.es.map ci3).length:Int)+1)))),(21,.d (.int q.j))],[gS (dn8 L0 ((List.range q.j).flatMap (rnd p.ns p.es))),oPAp p]⟩) (fun q=>M-q.j) ⟨0,by omega⟩ (by
   dsimp only;show Le _ _ ⟨[(3,fS 0 L0),_,_,_,_,_,_],[gS L0,_]⟩;rcases L0 with _|⟨a0,q0⟩<;>exact(zle 2)) ?_
  rintro⟨j,hj⟩;dsimp only;have hL1b:=hin j hj;have hnext:dn8 L0 ((List.range (j+1)).flatMap (rnd p.ns p.es))=dn8 (dn8 (dn8 L0 ((List.range j).flatMap (rnd p.ns p.es))) (nB p.es j)) (nN p.ns j):=by rw[dn2,dn9,rnd,dn9]
  have hlast:j=M→dn8 L0 ((List.range j).flatMap (rnd p.ns p.es))=dn8 L0 (de3 p.ns p.es):=fun h=>by rw[h,dn7 p.ns p.es hM]
  clear hin;generalize dn8 L0 ((List.range j).flatMap (rnd p.ns p.es))=L1 at*
  have hL2b:(dn8 L1 (nB p.es j)).length≤900001:=by
   have h1:=do0 (nB p.es j) L1
   have h2:(nB p.es j).length≤1:=by
    cases j with
    |zero=>simp[nB]
    |succ j=>simp only[nB,nE,es7];cases p.es[j]? <;>simp
   omega
  have hnode:(∃n,decide ((j:Int)<((p.ns.map ci2).length:Int))=true∧(p.ns.map ci2)[((j:Nat):Int).toNat]? =some (ci2 n)∧nN p.ns j=[n.vr])∨(decide ((j:Int)<((p.ns.map ci2).length:Int))=false∧nN p.ns j=[]):=by
   rcases es1 j p.ns.length with h|h
   ·have h0:=es0 h;exact .inl ⟨_,by rw[hln];simpa using h,cn4 (f:=ci2) h0,nN_at h0⟩
   ·exact .inr ⟨by rw[hln];simp;omega,do3 h⟩
  have hedge:(decide ((j:Int)>0)=false∧nB p.es j=[])∨(decide ((j:Int)>0)=true∧decide ((j:Int)≤((p.es.map ci3).length:Int))=false∧nB p.es j=[])∨(∃e,decide ((j:Int)>0)=true∧decide ((j:Int)≤((p.es.map ci3).length:Int))=true∧(p.es.map ci3)[((j:Int) -1).toNat]? =some (ci3 e)∧nB p.es j=[e.vr]):=by
   match j with
   |0=>exact .inl ⟨rfl,rfl⟩
   |k+1=>
    rcases es1 k p.es.length with h|h
    ·have h0:=es0 h;refine .inr (.inr ⟨_,decide_eq_true (by omega),by rw[hlee];exact decide_eq_true (by omega),?_,nE_at h0⟩);have e1:(((k+1:Nat):Int) -1).toNat=k:=by omega
     rw[e1,es6,h0];rfl
    ·exact .inr (.inl ⟨decide_eq_true (by omega),by rw[hlee];exact decide_eq_false (by omega),do4 h⟩)
  rcases es1 j M with hlj|hgj
  ·have g2:decide ((j:Int)<(max ((p.ns.map ci2).length:Int) (((p.es.map ci3).length:Int)+1)))=true:=by rw[hMx];simpa using hlj
   repeat'(first|(refine dm6 8 32 (fun(_:Unit)=>⟨[(3,fS 0 (dn8 L1 (nB p.es j))),(5,.ptr 1 0),(6,.d (.int j)),(7,.d (.sl (l.map ci4))),(8,.d (.int (l.map ci4).length)),(9,.d (.int i)),(20,.d (.int (max ((p.ns.map ci2).length:Int) (((p.es.map ci3).length:Int)+1)))),(21,.d (.int j))],[gS (dn8 L1 (nB p.es j)),oPAp p]⟩) () ?_ ?_)|refine yz ?_)
   ·refine⟨?_⟩;rcases hedge with⟨e1,hnB⟩|⟨e1,e2,hnB⟩|⟨e,e1,e2,hxe,hnB⟩
    ·have hE:dn8 L1 (nB p.es j)=L1:=by rw[hnB];rfl
     rcases L1 with _|⟨a,q⟩
     ·dsimp only[fS,gS]
      repeat'(first|refine yz ?_|refine yx ?_)
      refine ac1 ?_;refine⟨(),rfl,?_⟩;rw[hE];exact(zle 2)
     ·dsimp only[fS,gS]
      repeat'(first|refine yz ?_|refine yx ?_)
      refine ac1 ?_;refine⟨(),rfl,?_⟩;rw[hE];exact(zle 2)
    ·have hE:dn8 L1 (nB p.es j)=L1:=by rw[hnB];rfl
     rcases L1 with _|⟨a,q⟩
     ·dsimp only[fS,gS]
      repeat'(first|refine yz ?_|refine yx ?_)
      refine ac1 ?_;refine⟨(),rfl,?_⟩;rw[hE];exact(zle 2)
     ·dsimp only[fS,gS]
      repeat'(first|refine yz ?_|refine yx ?_)
      refine ac1 ?_;refine⟨(),rfl,?_⟩;rw[hE];exact(zle 2)
    ·have hE:dn8 L1 (nB p.es j)=de2 L1 e.vr:=by rw[hnB];rfl
     have f1:=of_decide_eq_true e1;have f2:=of_decide_eq_true e2;clear hnext hL2b hlast
     cases hsk:s0B e.vr||bt9 L1 e.vr with
     |true=>
      have hL2:=do1 hsk
      match L1,hsk,hL2,hL1b with
      |[],hsk,hL2,hL1b=>
       dsimp only[fS,gS];have hs0:s0B e.vr=true:=by simpa[bt9]using hsk
       repeat'(first|refine yz ?_|refine yi (ci3 e) hxe ?_|refine bm6 [] rfl rfl rfl rfl (FnX.plain _) b69 ((dm7 (s:=e.vr) hs0)) rfl rfl rfl rfl rfl ?_|refine yx ?_)
       refine ac1 ?_;refine⟨(),rfl,?_⟩;rw[hE,hL2];exact(zle 2)
      |a::q,hsk,hL2,hL1b=>
       dsimp only[fS,gS]
       repeat'(first|refine yz ?_|refine yi (ci3 e) hxe ?_|refine yc [0] b69 (dm9 (l:=a::q) (s:=e.vr) hsk) ?_|refine yx ?_)
       refine ac1 ?_;refine⟨(),rfl,?_⟩;rw[hE,hL2];exact(zle 2)
     |false=>
      have hL2:=do2 hsk
      match L1,hsk,hL2,hL1b with
      |[],hsk,hL2,hL1b=>
       dsimp only[fS,gS];have hs0:s0B e.vr=false:=by simpa[bt9]using hsk
       repeat'(first|refine yz ?_|refine yi (ci3 e) hxe ?_|refine bm6 [] rfl rfl rfl rfl (FnX.plain _) b69 ((dm8 (s:=e.vr) hs0)) rfl rfl rfl rfl rfl ?_|refine yx ?_)
       refine ac1 ?_;refine⟨(),rfl,?_⟩;rw[hE,hL2];exact(bg7 [2,1])
      |a::q,hsk,hL2,hL1b=>
       dsimp only[fS,gS]
       repeat'(first|refine yz ?_|refine yi (ci3 e) hxe ?_|refine ba6 [0] rfl rfl rfl rfl (FnX.plain _) b69 ((dn0 (l:=a::q) (s:=e.vr) hsk (by simp only[es3]at*;omega))) rfl rfl rfl rfl rfl ?_|refine yx ?_)
       refine ac1 ?_;refine⟨(),rfl,?_⟩;rw[hE,hL2];exact(bg7 [2,1])
   ·refine⟨?_⟩;generalize dn8 L1 (nB p.es j)=L2 at*;rcases hnode with⟨n,gn,hxn,hnN⟩|⟨gn,hnN⟩
    ·rw[hnN]at hnext;have hnext:dn8 L0 ((List.range (j+1)).flatMap (rnd p.ns p.es))=de2 L2 n.vr:=hnext
     cases hsk:s0B n.vr||bt9 L2 n.vr with
     |true=>
      have hL2:=do1 hsk
      match L2,hsk,hL2,hL2b with
      |[],hsk,hL2,hL2b=>
       dsimp only[fS,gS];have hs0:s0B n.vr=true:=by simpa[bt9]using hsk
       repeat'(first|refine yz ?_|refine yi (ci2 n) hxn ?_|refine bm6 [] rfl rfl rfl rfl (FnX.plain _) b69 ((dm7 (s:=n.vr) hs0)) rfl rfl rfl rfl rfl ?_)
       refine ac1 ?_;refine⟨⟨j+1,by omega⟩,by dsimp only;omega,?_⟩;dsimp only;rw[hnext,hL2];exact(zle 2)
      |a::q,hsk,hL2,hL2b=>
       dsimp only[fS,gS]
       repeat'(first|refine yz ?_|refine yi (ci2 n) hxn ?_|refine yc [0] b69 (dm9 (l:=a::q) (s:=n.vr) hsk) ?_)
       refine ac1 ?_;refine⟨⟨j+1,by omega⟩,by dsimp only;omega,?_⟩;dsimp only;rw[hnext,hL2];exact(zle 2)
     |false=>
      have hL2:=do2 hsk
      match L2,hsk,hL2,hL2b with
      |[],hsk,hL2,hL2b=>
       dsimp only[fS,gS];have hs0:s0B n.vr=false:=by simpa[bt9]using hsk
       repeat'(first|refine yz ?_|refine yi (ci2 n) hxn ?_|refine bm6 [] rfl rfl rfl rfl (FnX.plain _) b69 ((dm8 (s:=n.vr) hs0)) rfl rfl rfl rfl rfl ?_)
       refine ac1 ?_;refine⟨⟨j+1,by omega⟩,by dsimp only;omega,?_⟩;dsimp only;rw[hnext,hL2];exact(bg7 [2,1])
      |a::q,hsk,hL2,hL2b=>
       dsimp only[fS,gS]
       repeat'(first|refine yz ?_|refine yi (ci2 n) hxn ?_|refine ba6 [0] rfl rfl rfl rfl (FnX.plain _) b69 ((dn0 (l:=a::q) (s:=n.vr) hsk (by simp only[es3]at*;omega))) rfl rfl rfl rfl rfl ?_)
       refine ac1 ?_;refine⟨⟨j+1,by omega⟩,by dsimp only;omega,?_⟩;dsimp only;rw[hnext,hL2];exact(bg7 [2,1])
    ·rw[hnN]at hnext;have hnext:dn8 L0 ((List.range (j+1)).flatMap (rnd p.ns p.es))=L2:=hnext;rcases L2 with _|⟨a,q⟩
     ·dsimp only[fS,gS]
      repeat'(refine yz ?_)
      refine ac1 ?_;refine⟨⟨j+1,by omega⟩,by dsimp only;omega,?_⟩;dsimp only;rw[hnext];exact(zle 2)
     ·dsimp only[fS,gS]
      repeat'(refine yz ?_)
      refine ac1 ?_;refine⟨⟨j+1,by omega⟩,by dsimp only;omega,?_⟩;dsimp only;rw[hnext];exact(zle 2)
  ·have g2:decide ((j:Int)<(max ((p.ns.map ci2).length:Int) (((p.es.map ci3).length:Int)+1)))=false:=by rw[hMx];simp;omega
   rw[←hlast (by omega)]at hend;clear hnode hedge hnext hlast hL2b
   cases hsk:s0B p.vr||bt9 L1 p.vr with
   |true=>
    have hL2:=do1 hsk
    match L1,hsk,hL2,hL1b with
    |[],hsk,hL2,hL1b=>
     dsimp only[fS,gS];have hs0:s0B p.vr=true:=by simpa[bt9]using hsk
     repeat'(first|refine yz ?_|refine bm6 [] rfl rfl rfl rfl (FnX.plain _) b69 ((dm7 (s:=p.vr) hs0)) rfl rfl rfl rfl rfl ?_)
     refine ac1 ?_;refine⟨⟨i+1,by omega⟩,by dsimp only;omega,?_⟩;dsimp only;rw[hend,hL2];exact(zle 1)
    |a::q,hsk,hL2,hL1b=>
     dsimp only[fS,gS]
     repeat'(first|refine yz ?_|refine yc [0] b69 (dm9 (l:=a::q) (s:=p.vr) hsk) ?_)
     refine ac1 ?_;refine⟨⟨i+1,by omega⟩,by dsimp only;omega,?_⟩;dsimp only;rw[hend,hL2];exact(zle 1)
   |false=>
    have hL2:=do2 hsk
    match L1,hsk,hL2,hL1b with
    |[],hsk,hL2,hL1b=>
     dsimp only[fS,gS];have hs0:s0B p.vr=false:=by simpa[bt9]using hsk
     repeat'(first|refine yz ?_|refine bm6 [] rfl rfl rfl rfl (FnX.plain _) b69 ((dm8 (s:=p.vr) hs0)) rfl rfl rfl rfl rfl ?_)
     refine ac1 ?_;refine⟨⟨i+1,by omega⟩,by dsimp only;omega,?_⟩;dsimp only;rw[hend,hL2];exact(bg7 [2])
    |a::q,hsk,hL2,hL1b=>
     dsimp only[fS,gS]
     repeat'(first|refine yz ?_|refine ba6 [0] rfl rfl rfl rfl (FnX.plain _) b69 ((dn0 (l:=a::q) (s:=p.vr) hsk (by simp only[es3]at*;omega))) rfl rfl rfl rfl rfl ?_)
     refine ac1 ?_;refine⟨⟨i+1,by omega⟩,by dsimp only;omega,?_⟩;dsimp only;rw[hend,hL2];exact(bg7 [2])
 ·have g1:decide ((i:Int)<((l.map ci4).length:Int))=false:=by rw[hle];simp;omega
  rw[eu2 hge];show go _ _ _ (an5 _ _ (.d (.sl ((dn8 [] (de4 l)).map .str))));generalize dn8 [] (de4 l)=o at*
  match o with
  |[]=>
   dsimp only[fS,gS];refine bh4 3 rfl ?_
   repeat'(first|refine yz ?_|exact zD)
  |a::q=>
   dsimp only[fS,gS];refine au1 0 rfl ?_;dsimp only[ar5,ar4,ar7,ar6,List.map,List.set]
   repeat'(first|refine yz ?_|exact zD)
end Go.Proofs.YtndgolmgaenlfaaGreatDoor
namespace Go.Proofs.YtndgolmgaenlfaaGreatDoor
set_option maxRecDepth 4000
open Go Go.Abs Go.Val Go.RowKit Go.Proofs.Tryz
mutual
def alB(Q:PB→Prop):Pl→Prop
 |.mk b ks=>Q b∧do7 Q ks
def do7(Q:PB→Prop):List Pl→Prop
 |[]=>True
 |p::r=>alB Q p∧do7 Q r
end
theorem do8{Q:PB→Prop}:∀{l:List Pl},do7 Q l→∀p∈l,alB Q p
 |[],_,_,h=>by cases h
 |a::r,h,p,hp=>by
  rw[do7]at h;rcases es9.1 hp with rfl|hp
  ·exact h.1
  ·exact do8 h.2 p hp
theorem do9(g:Bool)(cols:List ByteArray):∀(l:List IT) (out:List ByteArray),(df0 g cols l out).2=0→(df0 g cols l out).1=out++l.map IT.asn
 |[],out,_=>(ex6 out).symm
 |x::r,out,h0=>by
  rw[df0]at h0 ⊢
  cases c:de9 g x cols out !=0 with
  |true=>rw[c,cond_true]at h0;rw[show de9 g x cols out=0 from h0]at c;cases c
  |false=>
   rw[c,cond_false]at h0;rw[cond_false,do9 g cols r _ h0,eu5,ev3];rfl
def cwB(b:PB):Nat:=b.cj.vs.length+(de4 b.cl.ps).length+b.it.length+1
mutual
def cwP:Pl→Nat
 |.mk b ks=>cwB b+dp0 ks
def dp0:List Pl→Nat
 |[]=>0
 |p::r=>cwP p+dp0 r
end
theorem dp1:∀{l:List Pl} {p:Pl},p∈l→cwP p≤dp0 l
 |[],_,h=>by cases h
 |a::r,p,h=>by
  rw[dp0];rcases es9.1 h with rfl|h
  ·omega
  ·have:=dp1 h;omega
def lnS:List (List ByteArray)→Nat
 |[]=>0
 |c::r=>c.length+lnS r
theorem dp2(a b:List ByteArray):(de1 a b).length≤a.length+b.length:=by
 unfold de1;have:=ez7 (fun s=> !(bt9 a s)) b;rw[es2];omega
theorem dp3:∀cols:List (List ByteArray),(cols.getD 0 []).length+(cols.getD 1 []).length≤lnS cols
 |[]=>et2 _
 |[c]=>by show c.length+0≤c.length+0;omega
 |c::d::r=>by show c.length+d.length≤c.length+(d.length+lnS r);omega
theorem dp4(l:List PA):(de5 l).length≤(de4 l).length:=by
 have h:=do0 (de4 l) [];unfold dn8 at h;simp only[es8]at h;unfold de5;omega
theorem dp5(g:Bool)(cols:List ByteArray)(l:List IT):(df0 g cols l []).1.length≤l.length:=by
 by_cases h:(df0 g cols l []).2=0
 ·rw[do9 g cols l [] h,ew8,es7];exact et2 _
 ·rw[dh1 g cols l [] h];exact et8 _
theorem dp6(e:Int)(c:List ByteArray):(df3 e c).1.length≤c.length:=by
 unfold df3
 cases e !=0 with
 |true=>exact et8 _
 |false=>exact et2 _
theorem dp7(b:PB)(cols:List (List ByteArray)):(df4 b cols).1.length≤cwB b+lnS cols:=by
 have h2:=dp3 cols;have hv:=dp4 b.cl.ps;unfold cwB;unfold df4
 cases dd9 b cols.length with
 |false=>exact et8 _
 |true=>
 rw[ez2,cond_false]
 cases b.op==1 with
 |true=>exact et8 _
 |false=>
 rw[cond_false]
 cases b.op==2 with
 |true=>
  rw[cond_true];unfold de6
  cases dc1 b.cj !=0 with
  |true=>exact et8 _
  |false=>
   cases b.cj.vs.all fun s=>cg8 s||de0 s with
   |true=>show b.cj.vs.length≤_;omega
   |false=>exact et8 _
 |false=>
 rw[cond_false]
 cases b.op==3||b.op==4 with
 |true=>have:=dp2 (cols.getD 0 []) (cols.getD 1 []);show(de1 _ _).length≤_;omega
 |false=>
 rw[cond_false]
 cases b.op==5 with
 |true=>
  rw[cond_true];have:=dp2 (cols.getD 0 []) (de5 b.cl.ps);unfold de8
  cases cl1 b.cl !=0 with
  |true=>exact et8 _
  |false=>
  cases !((de7 b.cl.ps).all fun e=>cx0 e (cols.getD 0 []))with
  |true=>exact et8 _
  |false=>
  cases !(b.cl.wh.all fun e=>cx0 e (de1 (cols.getD 0 []) (de5 b.cl.ps)))with
  |true=>exact et8 _
  |false=>
  cases b.cl.wh.any ci9 with
  |true=>exact et8 _
  |false=>show(de1 _ _).length≤_;omega
 |false=>
 rw[cond_false]
 cases b.op==6 with
 |true=>have:=dp6 (cx1 b.e (cols.getD 0 [])) (cols.getD 0 []);rw[cond_true];omega
 |false=>
 rw[cond_false]
 cases b.op==7||b.op==8 with
 |true=>
  rw[cond_true];have:=dp5 (b.op==8) (cols.getD 0 []) b.it
  cases decide (b.it.length>24)with
  |true=>exact et8 _
  |false=>rw[cond_false];omega
 |false=>
 rw[cond_false]
 cases b.op==9 with
 |true=>show(cols.getD 0 []).length≤_;omega
 |false=>
 rw[cond_false]
 cases b.op==10 with
 |true=>have:=dp6 (df1 (cols.getD 0 []) b.od) (cols.getD 0 []);rw[cond_true];omega
 |false=>
  have:=dp6 (df2 b (cols.getD 0 [])) (cols.getD 0 []++ [b.nm]);rw[es2,es3,es8]at this;rw[cond_false];omega
theorem dp8(p:Pl):(df5 p).1.length≤cwP p:=by
 refine dc9 (P:=fun p=>(df5 p).1.length≤cwP p) (fun b ks ih=>?_) p
 have key:∀l:List Pl,(∀x∈l,(df5 x).1.length≤cwP x)→lnS (df6 l).1≤dp0 l:=by
  intro l
  induction l with
  |nil=>intro _;exact et2 _
  |cons a r ihr=>
   intro h;have h1:=h a (by simp);have h2:=ihr fun x hx=>h x (by simp[hx])
   rw[df6,dp0]
   cases(df5 a).2 !=0 with
   |true=>exact et8 _
   |false=>
    cases(df6 r).2 !=0 with
    |true=>exact et8 _
    |false=>show(df5 a).1.length+lnS (df6 r).1≤_;omega
 have hk:=key ks ih;rw[df5,cwP]
 cases(df6 ks).2 !=0 with
 |true=>exact et8 _
 |false=>
  have:=dp7 b (df6 ks).1;rw[cond_false];omega
end Go.Proofs.YtndgolmgaenlfaaGreatDoor
namespace Go.Proofs.YtndgolmgaenlfaaGreatDoor
set_option maxRecDepth 4000
open Go Go.Abs Go.Val Go.RowKit Go.Proofs.Tryz
attribute [local irreducible] go SGo an1 Ev au7 EvO EvS RGo PGo
theorem dp9(cols:List ByteArray)(x:PP)(hx:smE x.e):EvS E 66 [.d (ci1 x),.ptr 0 0] [ca3 cols] (.d (.bool (!cx0 x.e cols))) [ca3 cols]:=by
 have h:=cx6 x.e cols hx;refine yn func66 ntmps66 fun _ _ _ _=>?_
 repeat'(first|refine yz ?_|refine yp b62 h ?_|refine bb1 [0] rfl rfl rfl rfl rfl ?_)
 all_goals rfl
theorem dq0(cols:List ByteArray)(l:List PP)(hs:∀x∈l,smE x.e)(hmax:l.length≤9223372036854775807):EvS E 129 [.d (.sl (l.map ci1)),.clo 66 [.ptr 0 0]] [ca3 cols] (.d (.int (cn6 (l.findIdx? fun x=> !cx0 x.e cols)))) [ca3 cols]:=by
 have hle:(l.map ci1).length=l.length:=by simp
 refine yn func129 ntmps129 fun _ _ _ _=>?_
 repeat'(refine yz ?_)
 refine ac7 (α:=SFc l fun x=> !cx0 x.e cols) (fun p=>⟨[(0,.d (.sl (l.map ci1))),(1,.clo 66 [.ptr 0 0]),(7,.d (.int (l.map ci1).length)),(8,.d (.int p.i))],[ca3 cols]⟩) (fun p=>l.length-p.i) ⟨0,by omega,fun j hj=>absurd hj (by omega)⟩ (zle 1) ?_;rintro⟨i,hi,ok⟩;dsimp only;rcases es1 i l.length with hlt|hge
 ·have g1:decide ((i:Int)<((l.map ci1).length:Int))=true:=by rw[hle];simpa using hlt
  have hx0:=es0 hlt;generalize l[i]=x at hx0;have hx:=cn4 (f:=ci1) hx0;have h1:=dp9 cols x (hs x (es4 hx0))
  cases hc:cx0 x.e cols with
  |false=>
   rw[hc]at h1;rw[cn7 hx0 (show(!cx0 x.e cols)=true by rw[hc];rfl) ok]
   repeat'(first|refine yz ?_|refine yi (ci1 x) hx ?_|refine ba6 [0] rfl rfl rfl rfl (FnX.clo _ _) b66 (h1) rfl rfl rfl rfl rfl ?_|refine bb1 [0] rfl rfl rfl rfl rfl ?_)
   all_goals rfl
  |true=>
   rw[hc]at h1
   repeat'(first|refine yz ?_|refine yi (ci1 x) hx ?_|refine ba6 [0] rfl rfl rfl rfl (FnX.clo _ _) b66 (h1) rfl rfl rfl rfl rfl ?_)
   refine ac1 ?_;exact⟨⟨i+1,by omega,SFc.next hx0 (show(!cx0 x.e cols)=false by rw[hc];rfl) ok⟩,by dsimp only;omega,(zle 1)⟩
 ·have g1:decide ((i:Int)<((l.map ci1).length:Int))=false:=by rw[hle];simp;omega
  rw[cn8 fun j hj=>ok j (by omega)]
  repeat'(first|refine yz ?_|refine bb1 [0] rfl rfl rfl rfl rfl ?_)
  all_goals rfl
theorem dq1(cols:List ByteArray)(l:List PP)(hs:∀x∈l,smE x.e)(hmax:l.length≤9223372036854775807):EvS E 65 [.d (.sl (l.map ci1)),.clo 66 [.ptr 0 0]] [ca3 cols] (.d (.bool (l.any fun x=> !cx0 x.e cols))) [ca3 cols]:=by
 have h:=dq0 cols l hs hmax;rw[←cn9];refine yn func65 ntmps65 fun _ _ _ _=>?_
 repeat'(first|refine yz ?_|refine yc [0] b129 (h) ?_|refine bb1 [0] rfl rfl rfl rfl rfl ?_)
 all_goals rfl
theorem dq2(cols:List ByteArray)(x:Ex)(hx:smE x):EvS E 68 [.d (bu2 x),.ptr 0 0] [ca3 cols] (.d (.bool (!cx0 x cols))) [ca3 cols]:=by
 have h:=cx6 x cols hx;refine yn func68 ntmps68 fun _ _ _ _=>?_
 repeat'(first|refine yz ?_|refine yp b62 h ?_|refine bb1 [0] rfl rfl rfl rfl rfl ?_)
 all_goals rfl
theorem dq3(cols:List ByteArray)(l:List Ex)(hs:∀x∈l,smE x)(hmax:l.length≤9223372036854775807):EvS E 130 [.d (.sl (l.map bu2)),.clo 68 [.ptr 0 0]] [ca3 cols] (.d (.int (cn6 (l.findIdx? fun x=> !cx0 x cols)))) [ca3 cols]:=by
 have hle:(l.map bu2).length=l.length:=by simp
 refine yn func130 ntmps130 fun _ _ _ _=>?_
 repeat'(refine yz ?_)
 refine ac7 (α:=SFc l fun x=> !cx0 x cols) (fun p=>⟨[(0,.d (.sl (l.map bu2))),(1,.clo 68 [.ptr 0 0]),(7,.d (.int (l.map bu2).length)),(8,.d (.int p.i))],[ca3 cols]⟩) (fun p=>l.length-p.i) ⟨0,by omega,fun j hj=>absurd hj (by omega)⟩ (zle 1) ?_;rintro⟨i,hi,ok⟩;dsimp only;rcases es1 i l.length with hlt|hge
 ·have g1:decide ((i:Int)<((l.map bu2).length:Int))=true:=by rw[hle];simpa using hlt
  have hx0:=es0 hlt;generalize l[i]=x at hx0;have hx:=cn4 (f:=bu2) hx0;have h1:=dq2 cols x (hs x (es4 hx0))
  cases hc:cx0 x cols with
  |false=>
   rw[hc]at h1;rw[cn7 hx0 (show(!cx0 x cols)=true by rw[hc];rfl) ok]
   repeat'(first|refine yz ?_|refine yi (bu2 x) hx ?_|refine ba6 [0] rfl rfl rfl rfl (FnX.clo _ _) b68 (h1) rfl rfl rfl rfl rfl ?_|refine bb1 [0] rfl rfl rfl rfl rfl ?_)
   all_goals rfl
  |true=>
   rw[hc]at h1
   repeat'(first|refine yz ?_|refine yi (bu2 x) hx ?_|refine ba6 [0] rfl rfl rfl rfl (FnX.clo _ _) b68 (h1) rfl rfl rfl rfl rfl ?_)
   refine ac1 ?_;exact⟨⟨i+1,by omega,SFc.next hx0 (show(!cx0 x cols)=false by rw[hc];rfl) ok⟩,by dsimp only;omega,(zle 1)⟩
 ·have g1:decide ((i:Int)<((l.map bu2).length:Int))=false:=by rw[hle];simp;omega
  rw[cn8 fun j hj=>ok j (by omega)]
  repeat'(first|refine yz ?_|refine bb1 [0] rfl rfl rfl rfl rfl ?_)
  all_goals rfl
theorem dq4(cols:List ByteArray)(l:List Ex)(hs:∀x∈l,smE x)(hmax:l.length≤9223372036854775807):EvS E 67 [.d (.sl (l.map bu2)),.clo 68 [.ptr 0 0]] [ca3 cols] (.d (.bool (l.any fun x=> !cx0 x cols))) [ca3 cols]:=by
 have h:=dq3 cols l hs hmax;rw[←cn9];refine yn func67 ntmps67 fun _ _ _ _=>?_
 repeat'(first|refine yz ?_|refine yc [0] b130 (h) ?_|refine bb1 [0] rfl rfl rfl rfl rfl ?_)
 all_goals rfl
theorem dq5:∀a b:List Pl,df8 (a++b)=df8 a+df8 b
 |[],b=>by rw[ew8,df8];omega
 |x::r,b=>by rw[ew9,df8,df8,dq5 r b];omega
theorem dq6{l:List Pl}{i:Nat}{x:Pl}(h:l[i]? =some x):df8 (l.take (i+1))=df8 (l.take i)+szP x:=by
 rw[ew5,h,dq5];show _+df8 [x]=_;rw[df8,df8];omega
theorem dq7(l:List Pl)(i:Nat):df8 (l.take i)≤df8 l:=by
 have h:=dq5 (l.take i) (l.drop i);rw[ey2]at h;omega
structure SPiP(n:Nat) where
 i:Nat
 hi:i≤n
theorem dq8(p:Pl):dd1 p=dd0 p.b (p.ks.map dd1):=by obtain⟨b,ks⟩:=p;exact dd4 b ks
theorem dq9(p:Pl):szP p≤1000000→Ev E 13 [dd1 p] (.d (.int (szP p))):=by
 refine dc9 (P:=fun p=>szP p≤1000000→Ev E 13 [dd1 p] (.d (.int (szP p)))) (fun b ks ih hn=>?_) p;rw[szP]at hn;have hle:(ks.map dd1).length=ks.length:=by simp
 have hkl:=dg2 ks;rw[dd4,szP];have hrt:((df8 ks+1:Nat):Int)=1+(df8 ks:Int):=by omega
 rw[hrt];refine ye1 func13 ntmps13 fun _ _ _=>?_
 repeat'(refine yz ?_)
 refine ac7 (α:=SPiP ks.length) (fun p=>⟨[(3,.d (.int (1+(df8 (ks.take p.i):Int)))),(7,.d (.sl (ks.map dd1))),(8,.d (.int (ks.map dd1).length)),(9,.d (.int p.i))],[]⟩) (fun p=>ks.length-p.i) ⟨0,by omega⟩ (zle 0) ?_;rintro⟨i,hi⟩;dsimp only;have hpt:=dq7 ks i;rcases es1 i ks.length with hlt|hge
 ·have g1:decide ((i:Int)<((ks.map dd1).length:Int))=true:=by rw[hle];simpa using hlt
  have hx0:=es0 hlt;generalize ks[i]=x at hx0;have hx:=cn4 (f:=dd1) hx0;have hm:=es4 hx0;have hsx:=dg0 hm;have hc:=ih x hm (by omega);have ht:=dq6 hx0;have e1:1+(df8 (ks.take i):Int)+(szP x:Int)=1+((df8 (ks.take (i+1)):Nat):Int):=by rw[ht];omega
  rw[dq8]at hx hc
  repeat'(first|refine yz ?_|refine qI (dd0 x.b (x.ks.map dd1)) rfl (ap1 rfl) rfl rfl rfl rfl rfl rfl (by first|omega|decide) hx ?_|refine yp b13 hc ?_)
  refine ac1 ?_;refine⟨⟨i+1,by omega⟩,by dsimp only;omega,?_⟩;dsimp only;rw[←e1];exact(zle 0)
 ·have g1:decide ((i:Int)<((ks.map dd1).length:Int))=false:=by rw[hle];simp;omega
  rw[eu2 hge]
  repeat'(first|refine yz ?_|exact zD)
abbrev oLv(l:Int):aa5:=.var 3 (.w (.d (.int l)))
theorem dr0(l:Int)(f:Pl→Bool)(ks:List Pl)(hmax:ks.length≤9223372036854775807)(hf:∀x∈ks,EvS E 35 [.d (dd1 x),.ptr 0 0] [oLv l] (.d (.bool (f x))) [oLv l]):
  EvS E 53 [.d (.sl (ks.map dd1)),.clo 35 [.ptr 0 0]] [oLv l] (.d (.int (cn6 (ks.findIdx? f)))) [oLv l]:=by
 have hle:(ks.map dd1).length=ks.length:=by simp
 refine yn func53 ntmps53 fun _ _ _ _=>?_
 repeat'(refine yz ?_)
 refine ac7 (α:=SFc ks f) (fun p=>⟨[(0,.d (.sl (ks.map dd1))),(1,.clo 35 [.ptr 0 0]),(7,.d (.int (ks.map dd1).length)),(8,.d (.int p.i))],[oLv l]⟩) (fun p=>ks.length-p.i) ⟨0,by omega,fun j hj=>absurd hj (by omega)⟩ (zle 1) ?_;rintro⟨i,hi,ok⟩;dsimp only;rcases es1 i ks.length with hlt|hge
 ·have g1:decide ((i:Int)<((ks.map dd1).length:Int))=true:=by rw[hle];simpa using hlt
  have hx0:=es0 hlt;generalize ks[i]=x at hx0;have hx:=cn4 (f:=dd1) hx0;have h1:=hf x (es4 hx0);rw[dq8]at hx h1
  cases hc:f x with
  |true=>
   rw[hc]at h1;rw[cn7 hx0 hc ok]
   repeat'(first|refine yz ?_|refine qI (dd0 x.b (x.ks.map dd1)) rfl (ap1 rfl) rfl rfl rfl rfl rfl rfl (by first|omega|decide) hx ?_|refine ba6 [0] rfl rfl rfl rfl (FnX.clo _ _) b35 (h1) rfl rfl rfl rfl rfl ?_|refine bb1 [0] rfl rfl rfl rfl rfl ?_)
   all_goals rfl
  |false=>
   rw[hc]at h1
   repeat'(first|refine yz ?_|refine qI (dd0 x.b (x.ks.map dd1)) rfl (ap1 rfl) rfl rfl rfl rfl rfl rfl (by first|omega|decide) hx ?_|refine ba6 [0] rfl rfl rfl rfl (FnX.clo _ _) b35 (h1) rfl rfl rfl rfl rfl ?_)
   refine ac1 ?_;exact⟨⟨i+1,by omega,SFc.next hx0 hc ok⟩,by dsimp only;omega,(zle 1)⟩
 ·have g1:decide ((i:Int)<((ks.map dd1).length:Int))=false:=by rw[hle];simp;omega
  rw[cn8 fun j hj=>ok j (by omega)]
  repeat'(first|refine yz ?_|refine bb1 [0] rfl rfl rfl rfl rfl ?_)
  all_goals rfl
theorem dr1(l:Int)(f:Pl→Bool)(ks:List Pl)(hmax:ks.length≤9223372036854775807)(hf:∀x∈ks,EvS E 35 [.d (dd1 x),.ptr 0 0] [oLv l] (.d (.bool (f x))) [oLv l]):
  EvS E 34 [.d (.sl (ks.map dd1)),.clo 35 [.ptr 0 0]] [oLv l] (.d (.bool (ks.any f))) [oLv l]:=by
 have h:=dr0 l f ks hmax hf;rw[←cn9];refine yn func34 ntmps34 fun _ _ _ _=>?_
 repeat'(first|refine yz ?_|refine yc [0] b53 (h) ?_|refine bb1 [0] rfl rfl rfl rfl rfl ?_)
 all_goals rfl
def dpB(l:Int)(p:Pl):Bool:=decide ((dpP p:Int)>l)
theorem dr2{l:Int}(h:1≤l)(b:PB)(ks:List Pl):dpB l (.mk b ks)=ks.any (dpB (l-1)):=by
  unfold dpB;rw[dpP,eu6,decide_eq_true_eq,fb2]
  have key:∀ks:List Pl,((df7 ks:Int)>l-1)↔∃x∈ks,(dpP x:Int)>l-1:=by
    intro ks
    induction ks with
    |nil=>rw[df7];constructor
          · intro h';omega
          · rintro⟨x,hx,-⟩;cases hx
    |cons a r ih=>
      rw[df7];constructor
      · intro h'
        by_cases h1:(dpP a:Int)>l-1
        · exact⟨a,by simp,h1⟩
        · obtain⟨x,hx,hd⟩:=ih.1 (by omega);exact⟨x,by simp[hx],hd⟩
      · rintro⟨x,hx,hd⟩;rcases es9.1 hx with rfl|hx
        · omega
        · have:=ih.2 ⟨x,hx,hd⟩;omega
  have h1:((df7 ks+1:Nat):Int)>l↔(df7 ks:Int)>l-1:=by omega
  rw[h1,key];simp only[decide_eq_true_eq]
theorem dr3(p:Pl):szP p≤1000000→∀l:Int,-1000≤l→l≤1000→Ev E 22 [dd1 p,.int l] (.d (.bool (dpB l p))):=by
 refine dc9 (P:=fun p=>szP p≤1000000→∀l:Int,-1000≤l→l≤1000→Ev E 22 [dd1 p,.int l] (.d (.bool (dpB l p)))) (fun b ks ih hn l h0 h1=>?_) p;rw[szP]at hn;have hkl:=dg2 ks
 cases c1:decide (l<1)with
 |true=>
  have hd:dpB l (.mk b ks)=true:=by
   have:=of_decide_eq_true c1;unfold dpB;rw[dpP,decide_eq_true_eq];omega
  rw[hd,dd4];refine ye2 func22 ntmps22 fun _ _ _=>?_
  repeat'(first|refine yz ?_|refine yx ?_|exact zD)
 |false=>
  have hl:1≤l:=by have:=of_decide_eq_false c1;omega
  rw[dr2 hl]
  have hc:=dr1 l (dpB (l-1)) ks (by omega) fun x hx=>by
   have hsx:=dg0 hx;have h:=ih x hx (by omega) (l-1) (by omega) (by omega);rw[dq8]at h ⊢;refine yn func35 ntmps35 fun _ _ _ _=>?_
   repeat'(first|refine yz ?_|refine yp b22 h ?_|refine bb1 [0] rfl rfl rfl rfl rfl ?_)
   all_goals rfl
  rw[dd4];refine ye2 func22 ntmps22 fun _ _ _=>?_
  repeat'(first|refine yz ?_|refine ba5 rfl rfl rfl rfl rfl ?_|refine yc [1] b34 (hc) ?_|refine yx ?_|exact zD)
theorem dr4{C:Cx}{s:St}{r:List It}{fn:Func}{t:Nat}(hr:fn.results= #[.tmp t])(h:lk s.tm t=.zc):go C (.code .ret::r) s (an5 C fn .zc):=by
 refine ac3 ?_;intro F σ w a hi hn hm hs;have h1:=hs t;rw[h]at h1;refine⟨a.tmps.getD t undef,F,?_,fun _ h=>h,fun b hb=>⟨hi.flt b hb,hn b hb⟩,h1⟩;have h2:(an8 a (.tmp t)).run C.E.P w=.ok (a.tmps.getD t undef) w:=by simp only[an8,Sem.run_pure]
 rw[ao0,hr];simp[h2]
theorem dr5:Ev E 45 [.sl []] .zc:=by
 refine ye1 func45 ntmps45 fun _ _ _=>?_
 repeat'(first|(refine bm2 2 rfl ?_)|(refine bl9 ?_)|(refine bm0 ?_)|(refine dr4 rfl rfl)|refine yz ?_|(refine aw7 rfl (fun _=>?_) ?_))
structure SBoP(b:List ByteArray) where
 i:Nat
 hi:i≤b.length
def joi(a b:List ByteArray)(i:Nat):List ByteArray:=a++(b.take i).filter fun s=> !(bt9 a s)
theorem dr6{a b:List ByteArray}{i:Nat}{x:ByteArray}(h:b[i]? =some x):joi a b (i+1)=bif bt9 a x then joi a b i else joi a b i++ [x]:=by
 unfold joi;rw[ew5,h]
 cases hc:bt9 a x with
 |true=>simp[hc]
 |false=>simp[hc]
theorem dr7(a b:List ByteArray)(i:Nat):(joi a b i).length≤a.length+b.length:=by
 unfold joi;have h1:=ez7 (fun s=> !(bt9 a s)) (b.take i);have h2:(b.take i).length≤b.length:=by rw[eu7];omega
 rw[es2];omega
theorem dr8(a b:List ByteArray)(ha:a.length≤1000000)(hb:b.length≤1000000):Ev E 38 [.sl (a.map .str),.sl (b.map .str)] (.d (.sl ((de1 a b).map .str))):=by
 have hle:(b.map D.str).length=b.length:=by simp
 have hle1:(a.map D.str).length=a.length:=by simp
 have hj:de1 a b=joi a b b.length:=by unfold de1 joi;rw[List.take_length]
 rw[hj]
 by_cases h0:a=[]
 ·subst h0;have hz:=dr5;refine ye2 func38 ntmps38 fun _ _ _=>?_
  repeat'(first|refine yz ?_|refine yp b45 hz ?_)
  refine ac7 (α:=SBoP b) (fun p=>⟨[(0,.d (.sl [])),(5,bm4 0 ((joi [] b p.i).map .str)),(10,.d (.sl (b.map .str))),(11,.d (.int (b.map D.str).length)),(12,.d (.int p.i))],aw6 9 1 ((joi [] b p.i).map .str)⟩) (fun p=>b.length-p.i) ⟨0,by omega⟩ (zle 0) ?_;rintro⟨i,hi⟩;dsimp only;have hol:=dr7 [] b i;rcases es1 i b.length with hlt|hge
  ·have g1:decide ((i:Int)<((b.map D.str).length:Int))=true:=by rw[hle];simpa using hlt
   have hx0:=es0 hlt;generalize b[i]=x at hx0;have hx:=cn4 (f:=D.str) hx0;have hc:=bw2 [] x;have hat:=dr6 (a:=[]) hx0
   cases hh:bt9 [] x with
   |true=>simp[bt9]at hh
   |false=>
    rw[hh,cond_false]at hat;rw[hh]at hc;generalize joi [] b i=o at*
    match o,hol with
    |[],hol=>
     dsimp only[bm4,aw6,List.map]
     repeat'(first|refine yz ?_|refine yi (.str x) hx ?_|refine yp b60 hc ?_|(refine bm1 ?_ ?_;exact⟨by simp,fun d hd=>by(obtain rfl:=et9.1 hd;rfl),by(show 1*16≤140737488355328;omega),by(show 1≤9223372036854775807;omega)⟩))
     refine ac1 ?_;refine⟨⟨i+1,by omega⟩,by dsimp only;omega,?_⟩;dsimp only;rw[hat];exact(bg7 [0])
    |y::q,hol=>
     dsimp only[bm4,aw6,List.map]
     repeat'(first|refine yz ?_|refine yi (.str x) hx ?_|refine yp b60 hc ?_|(refine qS rfl ⟨by simp,fun d hd=>by(obtain rfl:=et9.1 hd;rfl),by(show _*16≤140737488355328;simp;simp only[es3]at hol;omega),by(show _≤9223372036854775807;simp;simp only[es3]at hol;omega)⟩ ?_))
     refine ac1 ?_;refine⟨⟨i+1,by omega⟩,by dsimp only;omega,?_⟩;dsimp only;rw[hat,do5];exact(bg7 [1])
  ·have g1:decide ((i:Int)<((b.map D.str).length:Int))=false:=by rw[hle];simp;omega
   obtain rfl:i=b.length:=by omega
   generalize joi [] b b.length=o at*
   match o with
   |[]=>
    dsimp only[bm4,aw6,List.map];refine bm3 5 rfl ?_
    repeat'(first|refine yz ?_|exact zD)
   |y::q=>
    dsimp only[bm4,aw6,List.map];refine au1 0 rfl ?_;dsimp only[ar5,ar4,ar7,ar6,List.map,List.set]
    repeat'(first|refine yz ?_|exact zD)
 ·have hz:=dl5 a h0 (by omega);refine ye2 func38 ntmps38 fun _ _ _=>?_
  repeat'(first|refine yz ?_|refine ax0 rfl rfl rfl rfl rfl rfl b45 (hz) ?_)
  refine ac7 (α:=SBoP b) (fun p=>⟨[(0,.d (.sl (a.map .str))),(5,bm4 0 ((joi a b p.i).map .str)),(10,.d (.sl (b.map .str))),(11,.d (.int (b.map D.str).length)),(12,.d (.int p.i))],aw6 9 1 ((joi a b p.i).map .str)⟩) (fun p=>b.length-p.i) ⟨0,by omega⟩ (by
   have e0:joi a b 0=a:=by unfold joi;simp
   dsimp only;rw[e0]
   match a,h0 with
   |x::r,_=>exact(zle 1)) ?_
  rintro⟨i,hi⟩;dsimp only;have hol:=dr7 a b i;rcases es1 i b.length with hlt|hge
  ·have g1:decide ((i:Int)<((b.map D.str).length:Int))=true:=by rw[hle];simpa using hlt
   have hx0:=es0 hlt;generalize b[i]=x at hx0;have hx:=cn4 (f:=D.str) hx0;have hc:=bw2 a x;have hat:=dr6 (a:=a) hx0
   cases hh:bt9 a x with
   |true=>
    rw[hh,cond_true]at hat;rw[hh]at hc;generalize joi a b i=o at*
    match o with
    |[]=>
     dsimp only[bm4,aw6,List.map]
     repeat'(first|refine yz ?_|refine yi (.str x) hx ?_|refine yp b60 hc ?_)
     refine ac1 ?_;refine⟨⟨i+1,by omega⟩,by dsimp only;omega,?_⟩;dsimp only;rw[hat];exact(zle 0)
    |y::q=>
     dsimp only[bm4,aw6,List.map]
     repeat'(first|refine yz ?_|refine yi (.str x) hx ?_|refine yp b60 hc ?_)
     refine ac1 ?_;refine⟨⟨i+1,by omega⟩,by dsimp only;omega,?_⟩;dsimp only;rw[hat];exact(zle 1)
   |false=>
    rw[hh,cond_false]at hat;rw[hh]at hc;generalize joi a b i=o at*
    match o,hol with
    |[],hol=>
     dsimp only[bm4,aw6,List.map]
     repeat'(first|refine yz ?_|refine yi (.str x) hx ?_|refine yp b60 hc ?_|(refine bm1 ?_ ?_;exact⟨by simp,fun d hd=>by(obtain rfl:=et9.1 hd;rfl),by(show 1*16≤140737488355328;omega),by(show 1≤9223372036854775807;omega)⟩))
     refine ac1 ?_;refine⟨⟨i+1,by omega⟩,by dsimp only;omega,?_⟩;dsimp only;rw[hat];exact(bg7 [0])
    |y::q,hol=>
     dsimp only[bm4,aw6,List.map]
     repeat'(first|refine yz ?_|refine yi (.str x) hx ?_|refine yp b60 hc ?_|(refine qS rfl ⟨by simp,fun d hd=>by(obtain rfl:=et9.1 hd;rfl),by(show _*16≤140737488355328;simp;simp only[es3]at hol;omega),by(show _≤9223372036854775807;simp;simp only[es3]at hol;omega)⟩ ?_))
     refine ac1 ?_;refine⟨⟨i+1,by omega⟩,by dsimp only;omega,?_⟩;dsimp only;rw[hat,do5];exact(bg7 [1])
  ·have g1:decide ((i:Int)<((b.map D.str).length:Int))=false:=by rw[hle];simp;omega
   obtain rfl:i=b.length:=by omega
   generalize joi a b b.length=o at*
   match o with
   |[]=>
    dsimp only[bm4,aw6,List.map];refine bm3 5 rfl ?_
    repeat'(first|refine yz ?_|exact zD)
   |y::q=>
    dsimp only[bm4,aw6,List.map];refine au1 0 rfl ?_;dsimp only[ar5,ar4,ar7,ar6,List.map,List.set]
    repeat'(first|refine yz ?_|exact zD)
attribute [local irreducible] RGw
abbrev oPlB(b:PB)(K:List D):aa5:=.var 40 (.w (.d (dd0 b K)))
def dr9(p:Pl):D:=.sl ((df5 p).1.map .str)
theorem ds0:∀{ks:List Pl} {i:Nat} {x:Pl},ks[i]? =some x→(∀p∈ks.take i,(df5 p).2=0)→(df5 x).2≠0→df6 ks=([],(df5 x).2)
 |[],_,_,h,_,_=>by cases h
 |p::r,0,x,h,_,hx=>by
  obtain rfl:p=x:=by simpa using h
  rw[df6,show((df5 p).2 !=0)=true by simpa using hx,cond_true]
 |p::r,i+1,x,h,h0,hx=>by
  have ih:=ds0 (ks:=r) (i:=i) (x:=x) (by simpa using h) (fun q hq=>h0 q (by simp[hq])) hx;rw[df6,h0 p (by simp),ih,show((df5 x).2 !=0)=true by simpa using hx];rfl
theorem ds1:∀{ks:List Pl},(∀p∈ks,(df5 p).2=0)→df6 ks=(ks.map fun p=>(df5 p).1,0)
 |[],_=>rfl
 |p::r,h=>by
  rw[df6,h p (by simp),ds1 fun q hq=>h q (by simp[hq])];rfl
structure SiC(ks:List Pl) where
 i:Nat
 hi:i≤ks.length
 ok:∀p∈ks.take i,(df5 p).2=0
structure SmB(b:PB):Prop where
 vs:b.cj.vs.length≤1000000
 at_:b.cj.as.length≤1000000
 ln:dj2 b.cl≤1000000000000
 e:smE b.e
 it:∀x∈b.it,smE x.e
 od:∀x∈b.od,smE x.e
 nm:(de4 b.cl.ps).length≤900000
 ne:∀p∈b.cl.ps,p.ns.length≤1000000∧p.es.length≤1000000
 ap:b.op=5→∀cols:List ByteArray,cols.length≤1000000→Ev E 40 [ci8 b.cl,.sl (cols.map .str)] (.d (.int (de8 b.cl cols).2))
theorem ds2{op:Int}{n:Nat}(h:dd5 op=n):(op=1∧n=0)∨(op=2∧n=0)∨(op=3∧n=2)∨(op=4∧n=2)∨(op=5∧n=1)∨(op=6∧n=1)∨(op=7∧n=1)∨(op=8∧n=1)∨(op=9∧n=1)∨(op=10∧n=1)∨(op=11∧n=1):=by
 unfold dd5 at h
 cases c1:op==1||op==2 with
 |true=>
  rw[c1,cond_true]at h;have hn:n=0:=by omega
  have ho:op=1∨op=2:=by simpa using c1
  subst hn;rcases ho with rfl|rfl<;>simp
 |false=>
 cases c2:op==3||op==4 with
 |true=>
  rw[c1,c2]at h;have h:(2:Int)=n:=h;have hn:n=2:=by omega
  have ho:op=3∨op=4:=by simpa using c2
  subst hn;rcases ho with rfl|rfl<;>simp
 |false=>
 cases c3:decide (op≥5) &&decide (op≤11)with
 |true=>
  rw[c1,c2,c3]at h;have h:(1:Int)=n:=h;have hn:n=1:=by omega
  have h5:op≥5∧op≤11:=by simpa using c3
  have ho:op=5∨op=6∨op=7∨op=8∨op=9∨op=10∨op=11:=by omega
  subst hn;rcases ho with rfl|rfl|rfl|rfl|rfl|rfl|rfl<;>simp
 |false=>
  rw[c1,c2,c3]at h;have h:(-1:Int)=n:=h;exact absurd h (by omega)
theorem ds3{b:PB}{cols:List (List ByteArray)}(h:dd9 b cols.length=true):df4 b cols=
  bif b.op==1 then([],0)else bif b.op==2 then de6 b.cj else bif b.op==3||b.op==4 then(de1 (cols.getD 0 []) (cols.getD 1 []),0)else
  bif b.op==5 then de8 b.cl (cols.getD 0 [])else bif b.op==6 then df3 (cx1 b.e (cols.getD 0 [])) (cols.getD 0 [])else
  bif b.op==7||b.op==8 then(bif decide (b.it.length>24)then erR 4 else df0 (b.op==8) (cols.getD 0 []) b.it [])else bif b.op==9 then(cols.getD 0 [],0)else
  bif b.op==10 then df3 (df1 (cols.getD 0 []) b.od) (cols.getD 0 [])else df3 (df2 b (cols.getD 0 [])) (cols.getD 0 []++ [b.nm]):=by
 unfold df4;rw[h,ez2,cond_false]
theorem ds4{c:CL}{cols:List ByteArray}(h:(de8 c cols).2=0):de8 c cols=(de1 cols (de5 c.ps),0):=by
 unfold de8 at h ⊢
 cases c1:cl1 c !=0 with
 |true=>rw[c1,cond_true]at h;rw[show cl1 c=0 from h]at c1;cases c1
 |false=>
 cases c2: !((de7 c.ps).all fun e=>cx0 e cols)with
 |true=>rw[c1,c2]at h;exact absurd (show(6:Int)=0 from h) (by decide)
 |false=>
 cases c3: !(c.wh.all fun e=>cx0 e (de1 cols (de5 c.ps)))with
 |true=>rw[c1,c2,c3]at h;exact absurd (show(6:Int)=0 from h) (by decide)
 |false=>
 cases c4:c.wh.any ci9 with
 |true=>rw[c1,c2,c3,c4]at h;exact absurd (show(9:Int)=0 from h) (by decide)
 |false=>rfl
theorem ds5{c:CL}{cols:List ByteArray}(h:(de8 c cols).2≠0):(de8 c cols).1=[]:=by
 unfold de8 at h ⊢
 cases c1:cl1 c !=0 with
 |true=>rfl
 |false=>
 cases c2: !((de7 c.ps).all fun e=>cx0 e cols)with
 |true=>rfl
 |false=>
 cases c3: !(c.wh.all fun e=>cx0 e (de1 cols (de5 c.ps)))with
 |true=>rfl
 |false=>
 cases c4:c.wh.any ci9 with
 |true=>rfl
 |false=>rw[c1,c2,c3,c4]at h;exact absurd rfl h
set_option maxHeartbeats 8000000 in
theorem ds6(p:Pl):alB SmB p→szP p≤1000000→cwP p≤1000000→Ev E 23 [dd1 p] (.tup [.sl ((df5 p).1.map .str),.int (df5 p).2]):=by
 refine dc9 (P:=fun p=>alB SmB p→szP p≤1000000→cwP p≤1000000→Ev E 23 [dd1 p] (.tup [.sl ((df5 p).1.map .str),.int (df5 p).2])) (fun b ks ih hs hz hw=>?_) p;rw[alB]at hs;rw[szP]at hz;rw[cwP]at hw;have hks:=do8 hs.2;have hkl:=dg2 ks;have hsb:=hs.1;have hle:(ks.map dd1).length=ks.length:=by simp
 have hf:=dj9 b (ks.map dd1) (by rw[hle];omega) (by have:=hsb.vs;have:=hsb.at_;omega) hsb.ln;rw[dd4];generalize hR:df5 (.mk b ks)=R;refine ye1 func23 ntmps23 fun _ _ _=>?_
 repeat'(refine yz ?_)
 refine ac7 (α:=SiC ks) (fun q=>⟨[(1,.ptr 0 0),(4,bf8 1 ((ks.take q.i).map dr9)),(12,.d (.sl (ks.map dd1))),(13,.d (.int (ks.map dd1).length)),(14,.d (.int q.i))],[oPlB b (ks.map dd1)]++aw6 23 1 ((ks.take q.i).map dr9)⟩) (fun q=>ks.length-q.i) ⟨0,by omega,fun _ h=>by cases h⟩ (zle 1) ?_;rintro⟨i,hi,ok⟩;dsimp only;rcases es1 i ks.length with hlt|hge
 ·have g1:decide ((i:Int)<((ks.map dd1).length:Int))=true:=by rw[hle];simpa using hlt
  have hx0:=es0 hlt;generalize ks[i]=x at hx0;have hx:=cn4 (f:=dd1) hx0;have hm:=es4 hx0;have hsx:=dg0 hm;have hwx:=dp1 hm;have hc:=ih x hm (hks x hm) (by omega) (by omega);have htk:(ks.take (i+1)).map dr9=(ks.take i).map dr9++ [dr9 x]:=by rw[ew5,hx0,ez4];rfl
  have hln:((ks.take i).map dr9).length≤1000000:=by rw[es7,eu7];omega
  rw[dq8]at hx hc
  cases hz0:(df5 x).2 !=0 with
  |true=>
   have hne:(df5 x).2≠0:=by simpa using hz0
   have hR2:R=erR (df5 x).2:=by
    rw[←hR,df5,ds0 hx0 ok hne,show((([]:List (List ByteArray)),(df5 x).2).2 !=0)=true from hz0];rfl
   subst hR2;generalize(df5 x).2=z at*;clear htk
   match(ks.take i).map dr9 with
   |[]=>
    dsimp only[bf8,aw6,List.append,HAppend.hAppend,Append.append]
    repeat'(first|refine yz ?_|refine qI (dd0 x.b (x.ks.map dd1)) rfl (ap1 rfl) rfl rfl rfl rfl rfl rfl (by first|omega|decide) hx ?_|refine yp b23 hc ?_|exact zL)
   |d::r=>
    dsimp only[bf8,aw6,List.append,HAppend.hAppend,Append.append]
    repeat'(first|refine yz ?_|refine qI (dd0 x.b (x.ks.map dd1)) rfl (ap1 rfl) rfl rfl rfl rfl rfl rfl (by first|omega|decide) hx ?_|refine yp b23 hc ?_|exact zL)
  |false=>
   have h0:(df5 x).2=0:=by simpa using hz0
   rw[h0]at hc
   have hok:∀p∈ks.take (i+1),(df5 p).2=0:=by
    intro p hp;rw[ew5,hx0]at hp;rcases eu3.1 hp with hp|hp
    ·exact ok p hp
    ·obtain rfl:p=x:=by simpa using hp
     exact h0
   generalize(ks.take i).map dr9=K at*
   match K with
   |[]=>
    dsimp only[bf8,aw6,List.append,HAppend.hAppend,Append.append]
    repeat'(first|refine yz ?_|refine qI (dd0 x.b (x.ks.map dd1)) rfl (ap1 rfl) rfl rfl rfl rfl rfl rfl (by first|omega|decide) hx ?_|refine yp b23 hc ?_|(refine qS rfl ⟨by simp,fun d hd=>by(obtain rfl:=et9.1 hd;rfl),by(show _*24≤140737488355328;simp<;>omega),by(show _≤9223372036854775807;simp<;>omega)⟩ ?_))
    refine ac1 ?_;refine⟨⟨i+1,by omega,hok⟩,by dsimp only;omega,?_⟩;dsimp only;rw[htk];exact(bg7 [0,2])
   |d::r=>
    have hr:r.length≤999999:=by simp only[es3]at hln;omega
    dsimp only[bf8,aw6,List.append,HAppend.hAppend,Append.append]
    repeat'(first|refine yz ?_|refine qI (dd0 x.b (x.ks.map dd1)) rfl (ap1 rfl) rfl rfl rfl rfl rfl rfl (by first|omega|decide) hx ?_|refine yp b23 hc ?_|(refine qS rfl ⟨by simp,fun d hd=>by(obtain rfl:=et9.1 hd;rfl),by(show _*24≤140737488355328;simp<;>omega),by(show _≤9223372036854775807;simp<;>omega)⟩ ?_))
    refine ac1 ?_;refine⟨⟨i+1,by omega,hok⟩,by dsimp only;omega,?_⟩;dsimp only;rw[htk];exact(bg7 [0,3])
 ·have g1:decide ((i:Int)<((ks.map dd1).length:Int))=false:=by rw[hle];simp;omega
  have hall:∀p∈ks,(df5 p).2=0:=by rw[eu2 hge]at ok;exact ok
  have hsel:R=df4 b (ks.map fun p=>(df5 p).1):=by rw[←hR,df5,ds1 hall];rfl
  have hcw:∀p∈ks,(df5 p).1.length≤1000000:=fun p hp=>by have h1:=dp8 p;have h2:=dp1 hp;omega
  rw[eu2 hge];clear hge ok hR ih hks hall hi;rw[hle]at hf
  cases hfm:dd9 b ks.length with
  |false=>
   have hR:R=([],25):=by rw[hsel];unfold df4;rw[es7,hfm];rfl
   subst hR;rw[hfm]at hf;clear hsel hcw;generalize ks.map dr9=K at*
   match K with
   |[]=>
    dsimp only[bf8,aw6,List.append,HAppend.hAppend,Append.append]
    repeat'(first|refine yz ?_|refine yp b36 hf ?_|exact zL)
   |d::r=>
    dsimp only[bf8,aw6,List.append,HAppend.hAppend,Append.append]
    repeat'(first|refine yz ?_|refine yp b36 hf ?_|exact zL)
  |true=>
   rw[hfm]at hf;have hse:=ds3 (b:=b) (cols:=ks.map fun p=>(df5 p).1) (by rw[es7];exact hfm);rw[hse]at hsel;clear hse;have hko:=ds2 (dg5 hfm);clear hfm;obtain⟨op,cj,cl,e,nm,it,od,sk,lm⟩:=b;dsimp only at hko hsel;rcases hko with⟨rfl,hn⟩|⟨rfl,hn⟩|⟨rfl,hn⟩|⟨rfl,hn⟩|⟨rfl,hn⟩|⟨rfl,hn⟩|⟨rfl,hn⟩|⟨rfl,hn⟩|⟨rfl,hn⟩|⟨rfl,hn⟩|⟨rfl,hn⟩
   ·-- op 1
    obtain rfl:ks=[]:=List.length_eq_zero_iff.1 hn;obtain rfl:R=([],0):=hsel
    repeat'(first|refine yz ?_|refine yp b36 hf ?_|exact zL)
   ·-- op 2
    obtain rfl:ks=[]:=List.length_eq_zero_iff.1 hn;have hm:=dm1 cj hsb.vs;obtain rfl:R=de6 cj:=hsel;generalize de6 cj=z at*
    repeat'(first|refine yz ?_|refine yp b36 hf ?_|refine yp b37 hm ?_|exact zL)
   ·-- op 3
    obtain⟨k,l,rfl⟩:∃k l,ks=[k,l]:=by(match ks,hn with|[k,l],_=>exact⟨k,l,rfl⟩)
    have hcl:=hcw k (by simp);have hcl2:=hcw l (by simp);dsimp only[List.map,dr9,bf8,aw6,List.append,HAppend.hAppend,Append.append,fa2]at*;generalize(df5 k).1=c at*;generalize(df5 l).1=d at*;have hk0:([D.sl (c.map D.str),D.sl (d.map D.str)]:List D)[((0:Int)).toNat]? =some (.sl (c.map .str)):=rfl;have hk1:([D.sl (c.map D.str),D.sl (d.map D.str)]:List D)[((1:Int)).toNat]? =some (.sl (d.map .str)):=rfl;have hj:=dr8 c d hcl hcl2;obtain rfl:R=(de1 c d,0):=hsel;generalize de1 c d=z at*
    repeat'(first|refine yz ?_|refine yp b36 hf ?_|(refine qS rfl ?_ ?_;exact⟨by decide,by(simp<;>omega)⟩)|refine qW (.sl (c.map .str)) rfl rfl rfl rfl rfl rfl hk0 rfl ?_|refine qW (.sl (d.map .str)) rfl rfl rfl rfl rfl rfl hk1 rfl ?_|refine yp b38 hj ?_|exact zL)
   ·-- op 4
    obtain⟨k,l,rfl⟩:∃k l,ks=[k,l]:=by(match ks,hn with|[k,l],_=>exact⟨k,l,rfl⟩)
    have hcl:=hcw k (by simp);have hcl2:=hcw l (by simp);dsimp only[List.map,dr9,bf8,aw6,List.append,HAppend.hAppend,Append.append,fa2]at*;generalize(df5 k).1=c at*;generalize(df5 l).1=d at*;have hk0:([D.sl (c.map D.str),D.sl (d.map D.str)]:List D)[((0:Int)).toNat]? =some (.sl (c.map .str)):=rfl;have hk1:([D.sl (c.map D.str),D.sl (d.map D.str)]:List D)[((1:Int)).toNat]? =some (.sl (d.map .str)):=rfl;have hj:=dr8 c d hcl hcl2;obtain rfl:R=(de1 c d,0):=hsel;generalize de1 c d=z at*
    repeat'(first|refine yz ?_|refine yp b36 hf ?_|(refine qS rfl ?_ ?_;exact⟨by decide,by(simp<;>omega)⟩)|refine qW (.sl (c.map .str)) rfl rfl rfl rfl rfl rfl hk0 rfl ?_|refine qW (.sl (d.map .str)) rfl rfl rfl rfl rfl rfl hk1 rfl ?_|refine yp b38 hj ?_|exact zL)
   ·-- op 5
    obtain⟨k,rfl⟩:=fb3.1 hn;have hcl:=hcw k (by simp);dsimp only[List.map,dr9,bf8,aw6,List.append,HAppend.hAppend,Append.append,fa2]at*;generalize(df5 k).1=c at*;have hk0:([D.sl (c.map D.str)]:List D)[((0:Int)).toNat]? =some (.sl (c.map .str)):=rfl;have h5:=hsb.ap rfl c hcl;have hv:=do6 cl.ps hsb.nm hsb.ne;have hvl:=dp4 cl.ps;have hnm:=hsb.nm;have hj:=dr8 c (de5 cl.ps) hcl (by dsimp only at hnm;omega);have hR:R=de8 cl c:=hsel;dsimp only at h5
    cases hz0:(de8 cl c).2 !=0 with
    |true=>
     have hR2:R=([],(de8 cl c).2):=by rw[hR];exact Prod.ext (ds5 (by simpa using hz0)) rfl
     subst hR2;clear hR hsel;generalize(de8 cl c).2=z at*;generalize de1 c (de5 cl.ps)=j at*;generalize de5 cl.ps=v at*
     repeat'(first|refine yz ?_|refine yp b36 hf ?_|(refine qS rfl ?_ ?_;exact⟨by decide,by(simp<;>omega)⟩)|refine qW (.sl (c.map .str)) rfl rfl rfl rfl rfl rfl hk0 rfl ?_|refine yp b40 h5 ?_|refine yp b41 hv ?_|refine yp b38 hj ?_|exact zL)
    |false=>
     have hz1:(de8 cl c).2=0:=by simpa using hz0
     rw[hz1]at h5;rw[ds4 hz1]at hR;subst hR;clear hsel;generalize de1 c (de5 cl.ps)=j at*;generalize de5 cl.ps=v at*
     repeat'(first|refine yz ?_|refine yp b36 hf ?_|(refine qS rfl ?_ ?_;exact⟨by decide,by(simp<;>omega)⟩)|refine qW (.sl (c.map .str)) rfl rfl rfl rfl rfl rfl hk0 rfl ?_|refine yp b40 h5 ?_|refine yp b41 hv ?_|refine yp b38 hj ?_|exact zL)
   ·-- op 6
    obtain⟨k,rfl⟩:=fb3.1 hn;have hcl:=hcw k (by simp);dsimp only[List.map,dr9,bf8,aw6,List.append,HAppend.hAppend,Append.append,fa2]at*;generalize(df5 k).1=c at*;have hk0:([D.sl (c.map D.str)]:List D)[((0:Int)).toNat]? =some (.sl (c.map .str)):=rfl;have hx:=cx7 e c (dl7 hsb.e) hsb.e
    cases hz0:cx1 e c !=0 with
    |true=>
     have hR2:R=([],cx1 e c):=by rw[hsel];show df3 (cx1 e c) c=_;unfold df3;rw[hz0];rfl
     subst hR2;clear hsel;generalize cx1 e c=z at*
     repeat'(first|refine yz ?_|refine yp b36 hf ?_|(refine qS rfl ?_ ?_;exact⟨by decide,by(simp<;>omega)⟩)|refine qW (.sl (c.map .str)) rfl rfl rfl rfl rfl rfl hk0 rfl ?_|refine yp b42 hx ?_|exact zL)
    |false=>
     have hz1:cx1 e c=0:=by simpa using hz0
     have hR2:R=(c,0):=by rw[hsel];show df3 (cx1 e c) c=_;unfold df3;rw[hz0];rfl
     subst hR2;rw[hz1]at hx;clear hsel
     repeat'(first|refine yz ?_|refine yp b36 hf ?_|(refine qS rfl ?_ ?_;exact⟨by decide,by(simp<;>omega)⟩)|refine qW (.sl (c.map .str)) rfl rfl rfl rfl rfl rfl hk0 rfl ?_|refine yp b42 hx ?_|exact zL)
   ·-- op 7
    obtain⟨k,rfl⟩:=fb3.1 hn;have hcl:=hcw k (by simp);dsimp only[List.map,dr9,bf8,aw6,List.append,HAppend.hAppend,Append.append,fa2]at*;generalize(df5 k).1=c at*;have hk0:([D.sl (c.map D.str)]:List D)[((0:Int)).toNat]? =some (.sl (c.map .str)):=rfl;have hi:=dm4 ⟨7,cj,cl,e,nm,it,od,sk,lm⟩ [dd1 k] c hsb.it;dsimp only at hi;have hR:R=(bif decide (it.length>24)then erR 4 else df0 ((7:Int)==8) c it []):=hsel;rw[←hR]at hi;clear hR hsel
    repeat'(first|refine yz ?_|refine yp b36 hf ?_|(refine qS rfl ?_ ?_;exact⟨by decide,by(simp<;>omega)⟩)|refine qW (.sl (c.map .str)) rfl rfl rfl rfl rfl rfl hk0 rfl ?_|refine yp b39 hi ?_|exact zL)
   ·-- op 8
    obtain⟨k,rfl⟩:=fb3.1 hn;have hcl:=hcw k (by simp);dsimp only[List.map,dr9,bf8,aw6,List.append,HAppend.hAppend,Append.append,fa2]at*;generalize(df5 k).1=c at*;have hk0:([D.sl (c.map D.str)]:List D)[((0:Int)).toNat]? =some (.sl (c.map .str)):=rfl;have hi:=dm4 ⟨8,cj,cl,e,nm,it,od,sk,lm⟩ [dd1 k] c hsb.it;dsimp only at hi;have hR:R=(bif decide (it.length>24)then erR 4 else df0 ((8:Int)==8) c it []):=hsel;rw[←hR]at hi;clear hR hsel
    repeat'(first|refine yz ?_|refine yp b36 hf ?_|(refine qS rfl ?_ ?_;exact⟨by decide,by(simp<;>omega)⟩)|refine qW (.sl (c.map .str)) rfl rfl rfl rfl rfl rfl hk0 rfl ?_|refine yp b39 hi ?_|exact zL)
   ·-- op 9
    obtain⟨k,rfl⟩:=fb3.1 hn;have hcl:=hcw k (by simp);dsimp only[List.map,dr9,bf8,aw6,List.append,HAppend.hAppend,Append.append,fa2]at*;generalize(df5 k).1=c at*;have hk0:([D.sl (c.map D.str)]:List D)[((0:Int)).toNat]? =some (.sl (c.map .str)):=rfl;obtain rfl:R=(c,0):=hsel
    repeat'(first|refine yz ?_|refine yp b36 hf ?_|(refine qS rfl ?_ ?_;exact⟨by decide,by(simp<;>omega)⟩)|refine qW (.sl (c.map .str)) rfl rfl rfl rfl rfl rfl hk0 rfl ?_|exact zL)
   ·-- op 10
    obtain⟨k,rfl⟩:=fb3.1 hn;have hcl:=hcw k (by simp);dsimp only[List.map,dr9,bf8,aw6,List.append,HAppend.hAppend,Append.append,fa2]at*;generalize(df5 k).1=c at*;have hk0:([D.sl (c.map D.str)]:List D)[((0:Int)).toNat]? =some (.sl (c.map .str)):=rfl;have hx:=dl9 od c hsb.od
    cases hz0:df1 c od !=0 with
    |true=>
     have hR2:R=([],df1 c od):=by rw[hsel];show df3 (df1 c od) c=_;unfold df3;rw[hz0];rfl
     subst hR2;clear hsel;generalize df1 c od=z at*
     repeat'(first|refine yz ?_|refine yp b36 hf ?_|(refine qS rfl ?_ ?_;exact⟨by decide,by(simp<;>omega)⟩)|refine qW (.sl (c.map .str)) rfl rfl rfl rfl rfl rfl hk0 rfl ?_|refine yp b43 hx ?_|exact zL)
    |false=>
     have hz1:df1 c od=0:=by simpa using hz0
     have hR2:R=(c,0):=by rw[hsel];show df3 (df1 c od) c=_;unfold df3;rw[hz0];rfl
     subst hR2;rw[hz1]at hx;clear hsel
     repeat'(first|refine yz ?_|refine yp b36 hf ?_|(refine qS rfl ?_ ?_;exact⟨by decide,by(simp<;>omega)⟩)|refine qW (.sl (c.map .str)) rfl rfl rfl rfl rfl rfl hk0 rfl ?_|refine yp b43 hx ?_|exact zL)
   ·-- op 11
    obtain⟨k,rfl⟩:=fb3.1 hn;have hcl:=hcw k (by simp);dsimp only[List.map,dr9,bf8,aw6,List.append,HAppend.hAppend,Append.append,fa2]at*;generalize(df5 k).1=c at*;have hk0:([D.sl (c.map D.str)]:List D)[((0:Int)).toNat]? =some (.sl (c.map .str)):=rfl;have hx:=dm0 ⟨11,cj,cl,e,nm,it,od,sk,lm⟩ [dd1 k] c hsb.e
    by_cases h0:c=[]
    ·subst h0;have hcl2:=dr5
     cases hz0:df2 ⟨11,cj,cl,e,nm,it,od,sk,lm⟩ [] !=0 with
     |true=>
      have hR2:R=([],df2 ⟨11,cj,cl,e,nm,it,od,sk,lm⟩ []):=by rw[hsel];show df3 (df2 ⟨11,cj,cl,e,nm,it,od,sk,lm⟩ []) ([]++ [nm])=_;unfold df3;rw[hz0];rfl
      subst hR2;clear hsel;generalize df2 ⟨11,cj,cl,e,nm,it,od,sk,lm⟩ []=z at*
      repeat'(first|refine bh1 (id:=34) [5] [] (by kernel_rfl) (by kernel_rfl) (by repeat(first|exact trivial|refine⟨⟨rfl,rfl⟩,?_⟩|refine⟨trivial,?_⟩)) ?_|refine reF (id:=34) (i:=0) 5 (by kernel_rfl) rfl ?_|refine reF (id:=34) (i:=6) 1 (by kernel_rfl) rfl ?_|refine reN ?_|refine yz ?_|refine yp b36 hf ?_|(refine qS rfl ?_ ?_;exact⟨by decide,by(simp<;>omega)⟩)|refine qW (.sl (([]:List ByteArray).map .str)) rfl rfl rfl rfl rfl rfl hk0 rfl ?_|refine yp b44 hx ?_|refine yp b45 hcl2 ?_|refine reZ (id:=34) (i:=5) (⟨by simp,fun d hd=>by(obtain rfl:=et9.1 hd;rfl),by(show 1*16≤140737488355328;omega),by(show 1≤9223372036854775807;omega)⟩) rfl rfl rfl rfl rfl rfl rfl rfl rfl rfl (by repeat(first|exact trivial|refine⟨⟨rfl,rfl⟩,?_⟩|refine⟨trivial,?_⟩)) ?_|exact zL)
     |false=>
      have hz1:df2 ⟨11,cj,cl,e,nm,it,od,sk,lm⟩ []=0:=by simpa using hz0
      have hR2:R=([]++ [nm],0):=by rw[hsel];show df3 (df2 ⟨11,cj,cl,e,nm,it,od,sk,lm⟩ []) ([]++ [nm])=_;unfold df3;rw[hz0];rfl
      subst hR2;rw[hz1]at hx;clear hsel hz0 hz1;have hmp:([]++ [nm]).map D.str=([]:List ByteArray).map D.str++ [.str nm]:=by simp
      rw[hmp]
      repeat'(first|refine bh1 (id:=34) [5] [] (by kernel_rfl) (by kernel_rfl) (by repeat(first|exact trivial|refine⟨⟨rfl,rfl⟩,?_⟩|refine⟨trivial,?_⟩)) ?_|refine reF (id:=34) (i:=0) 5 (by kernel_rfl) rfl ?_|refine reF (id:=34) (i:=6) 1 (by kernel_rfl) rfl ?_|refine reN ?_|refine yz ?_|refine yp b36 hf ?_|(refine qS rfl ?_ ?_;exact⟨by decide,by(simp<;>omega)⟩)|refine qW (.sl (([]:List ByteArray).map .str)) rfl rfl rfl rfl rfl rfl hk0 rfl ?_|refine yp b44 hx ?_|refine yp b45 hcl2 ?_|refine reZ (id:=34) (i:=5) (⟨by simp,fun d hd=>by(obtain rfl:=et9.1 hd;rfl),by(show 1*16≤140737488355328;omega),by(show 1≤9223372036854775807;omega)⟩) rfl rfl rfl rfl rfl rfl rfl rfl rfl rfl (by repeat(first|exact trivial|refine⟨⟨rfl,rfl⟩,?_⟩|refine⟨trivial,?_⟩)) ?_)
      refine au1 2 rfl ?_;dsimp only[ar5,ar4,ar7,ar6,List.map,List.set]
      repeat'(first|refine qM rfl rfl rfl ?_|exact zL)
    ·have hcl2:=dl5 c h0 (by omega)
     cases hz0:df2 ⟨11,cj,cl,e,nm,it,od,sk,lm⟩ c !=0 with
     |true=>
      have hR2:R=([],df2 ⟨11,cj,cl,e,nm,it,od,sk,lm⟩ c):=by rw[hsel];show df3 (df2 ⟨11,cj,cl,e,nm,it,od,sk,lm⟩ c) (c++ [nm])=_;unfold df3;rw[hz0];rfl
      subst hR2;clear hsel;generalize df2 ⟨11,cj,cl,e,nm,it,od,sk,lm⟩ c=z at*
      repeat'(first|refine bh1 (id:=34) [1,5] [] (by kernel_rfl) (by kernel_rfl) (by repeat(first|exact trivial|refine⟨⟨rfl,rfl⟩,?_⟩|refine⟨trivial,?_⟩)) ?_|refine reF (id:=34) (i:=0) 1 (by kernel_rfl) rfl ?_|(refine reV (id:=34) (i:=2) rfl rfl rfl rfl rfl rfl ?_ ?_;(first|exact True.intro|rfl|assumption|omega|(simp only[inR];omega)|((show _≤(9223372036854775807:Nat));(try simp only[ByteArray.size_append]);omega)|exact au5 (by omega) (by omega)|exact au6 (by omega) (by omega)|exact⟨rfl,by decide,by decide⟩))|(refine reV (id:=34) (i:=3) rfl rfl rfl rfl rfl rfl ?_ ?_;(first|exact True.intro|rfl|assumption|omega|(simp only[inR];omega)|((show _≤(9223372036854775807:Nat));(try simp only[ByteArray.size_append]);omega)|exact au5 (by omega) (by omega)|exact au6 (by omega) (by omega)|exact⟨rfl,by decide,by decide⟩))|refine reF (id:=34) (i:=6) 1 (by kernel_rfl) rfl ?_|refine reN ?_|refine yz ?_|refine yp b36 hf ?_|(refine qS rfl ?_ ?_;exact⟨by decide,by(simp<;>omega)⟩)|refine qW (.sl (c.map .str)) rfl rfl rfl rfl rfl rfl hk0 rfl ?_|refine yp b44 hx ?_|refine bl5 (id:=34) (i:=1) rfl rfl rfl rfl rfl rfl b45 rfl (hcl2) (by repeat(first|exact trivial|refine⟨⟨rfl,rfl⟩,?_⟩|refine⟨trivial,?_⟩)) ?_|(refine reV2 (id:=34) (i:=4) rfl rfl rfl rfl rfl rfl ?_ ?_;(first|exact True.intro|rfl|assumption|omega|(simp only[inR];omega)|((show _≤(9223372036854775807:Nat));(try simp only[ByteArray.size_append]);omega)|exact au5 (by omega) (by omega)|exact au6 (by omega) (by omega)|exact⟨rfl,by decide,by decide⟩))|refine reS (id:=34) (i:=5) rfl rfl rfl rfl (⟨by simp,fun d hd=>by(obtain rfl:=et9.1 hd;rfl),by(show((c.map D.str).length+1)*16≤140737488355328;rw[es7];omega),by(show(c.map D.str).length+1≤9223372036854775807;rw[es7];omega)⟩) (by repeat(first|exact trivial|refine⟨⟨rfl,rfl⟩,?_⟩|refine⟨trivial,?_⟩)) ?_|exact zL)
     |false=>
      have hz1:df2 ⟨11,cj,cl,e,nm,it,od,sk,lm⟩ c=0:=by simpa using hz0
      have hR2:R=(c++ [nm],0):=by rw[hsel];show df3 (df2 ⟨11,cj,cl,e,nm,it,od,sk,lm⟩ c) (c++ [nm])=_;unfold df3;rw[hz0];rfl
      subst hR2;rw[hz1]at hx;clear hsel hz0 hz1;have hmp:(c++ [nm]).map D.str=c.map D.str++ [.str nm]:=by simp
      rw[hmp]
      repeat'(first|refine bh1 (id:=34) [1,5] [] (by kernel_rfl) (by kernel_rfl) (by repeat(first|exact trivial|refine⟨⟨rfl,rfl⟩,?_⟩|refine⟨trivial,?_⟩)) ?_|refine reF (id:=34) (i:=0) 1 (by kernel_rfl) rfl ?_|(refine reV (id:=34) (i:=2) rfl rfl rfl rfl rfl rfl ?_ ?_;(first|exact True.intro|rfl|assumption|omega|(simp only[inR];omega)|((show _≤(9223372036854775807:Nat));(try simp only[ByteArray.size_append]);omega)|exact au5 (by omega) (by omega)|exact au6 (by omega) (by omega)|exact⟨rfl,by decide,by decide⟩))|(refine reV (id:=34) (i:=3) rfl rfl rfl rfl rfl rfl ?_ ?_;(first|exact True.intro|rfl|assumption|omega|(simp only[inR];omega)|((show _≤(9223372036854775807:Nat));(try simp only[ByteArray.size_append]);omega)|exact au5 (by omega) (by omega)|exact au6 (by omega) (by omega)|exact⟨rfl,by decide,by decide⟩))|refine reF (id:=34) (i:=6) 1 (by kernel_rfl) rfl ?_|refine reN ?_|refine yz ?_|refine yp b36 hf ?_|(refine qS rfl ?_ ?_;exact⟨by decide,by(simp<;>omega)⟩)|refine qW (.sl (c.map .str)) rfl rfl rfl rfl rfl rfl hk0 rfl ?_|refine yp b44 hx ?_|refine bl5 (id:=34) (i:=1) rfl rfl rfl rfl rfl rfl b45 rfl (hcl2) (by repeat(first|exact trivial|refine⟨⟨rfl,rfl⟩,?_⟩|refine⟨trivial,?_⟩)) ?_|(refine reV2 (id:=34) (i:=4) rfl rfl rfl rfl rfl rfl ?_ ?_;(first|exact True.intro|rfl|assumption|omega|(simp only[inR];omega)|((show _≤(9223372036854775807:Nat));(try simp only[ByteArray.size_append]);omega)|exact au5 (by omega) (by omega)|exact au6 (by omega) (by omega)|exact⟨rfl,by decide,by decide⟩))|refine reS (id:=34) (i:=5) rfl rfl rfl rfl (⟨by simp,fun d hd=>by(obtain rfl:=et9.1 hd;rfl),by(show((c.map D.str).length+1)*16≤140737488355328;rw[es7];omega),by(show(c.map D.str).length+1≤9223372036854775807;rw[es7];omega)⟩) (by repeat(first|exact trivial|refine⟨⟨rfl,rfl⟩,?_⟩|refine⟨trivial,?_⟩)) ?_)
      refine au1 3 rfl ?_;dsimp only[ar5,ar4,ar7,ar6,List.map,List.set]
      repeat'(first|refine qM rfl rfl rfl ?_|exact zL)
end Go.Proofs.YtndgolmgaenlfaaGreatDoor
