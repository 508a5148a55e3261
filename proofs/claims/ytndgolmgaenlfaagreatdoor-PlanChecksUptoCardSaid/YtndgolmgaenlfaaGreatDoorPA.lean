/- Sort keys, UNWIND, items and conjunctive queries of a plan, checked by the program; Items of a plan, checked by the program; The variables of path pat. Conditions: each part's own, as it says. -/
import Derived.Test.YtndgolmgaenlfaaGreatDoorCA
import Derived.Test.YtndgolmgaenlfaaGreatDoorGC
import Derived.Test.YtndgolmgaenlfaaGreatDoorFB
set_option linter.unusedVariables false
set_option linter.unusedSimpArgs false
namespace Go.Proofs.YtndgolmgaenlfaaGreatDoor
set_option maxRecDepth 4000
open Go Go.Abs Go.Val Go.RowKit Go.Proofs.Tryz
attribute [local irreducible] go SGo an1 Ev au8 EvO EvS RGo PGo
abbrev smE(e:Ex):Prop:=nd e≤1000000
theorem dv4{e:Ex}(h:smE e):dp e≤1000000:=by have h':nd e≤1000000:=h;have:=db1 e;omega
structure SStP(l:List SK)(cols:List ByteArray) where
 i:Nat
 hi:i≤l.length
 ok:dn4 cols l=dn4 cols (l.drop i)
theorem dv5{cols:List ByteArray}{l:List SK}{i:Nat}{x:SK}(h:l[i]? =some x):dn4 cols (l.drop i)=bif dd3 x.e cols !=0 then dd3 x.e cols else dn4 cols (l.drop (i+1)):=by
 rw[ct2 h,dn4]
theorem dv6(l:List SK)(cols:List ByteArray)(hs:∀x∈l,smE x.e):Ev E 43 [.sl (l.map co4),.sl (cols.map .str)] (.d (.int (dn4 cols l))):=Ev.fit fun hfit=>by
 have hmax:=(ct4 (hfit (.sl (l.map co4)) Oc)).1;have hle:(l.map co4).length=l.length:=Oc
 refine ye2 func43 ntmps43 fun _ _ _=>?_
 repeat'(refine yz ?_)
 refine ac7 (α:=SStP l cols) (fun p=>⟨[(1,.d (.sl (cols.map .str))),(8,.d (.sl (l.map co4))),(9,.d (.int (l.map co4).length)),(10,.d (.int p.i))],[]⟩) (fun p=>l.length-p.i) ⟨0,by omega,rfl⟩ (zle 0) ?_;rintro⟨i,hi,ok⟩;dsimp only;rcases fj8 i l.length with hlt|hge
 ·have g1:decide ((i:Int)<((l.map co4).length:Int))=true:=by rw[hle];simpa using hlt
  have hx0:=fj7 hlt;generalize l[i]=x at hx0;have hx:=ct3 (f:=co4) hx0;have hm:=hs x (fj9 hx0);have hc:=dd9 x.e cols (dv4 hm) hm;rw[dv5 hx0]at ok
  cases hz:dd3 x.e cols !=0 with
  |true=>
   rw[hz,cond_true]at ok;rw[ok];generalize dd3 x.e cols=z at*
   repeat'(first|refine yz ?_|refine yi (co4 x) hx ?_|refine bj7 rfl rfl rfl rfl rfl rfl rfl ?_|refine yp b42 hc ?_|exact zD)
  |false=>
   rw[hz,cond_false]at ok;have h0:dd3 x.e cols=0:=by simpa using hz
   rw[h0]at hc
   repeat'(first|refine yz ?_|refine yi (co4 x) hx ?_|refine bj7 rfl rfl rfl rfl rfl rfl rfl ?_|refine yp b42 hc ?_)
   refine ac1 ?_;exact⟨⟨i+1,by omega,ok⟩,by dsimp only;omega,(zle 0)⟩
 ·have g1:decide ((i:Int)<((l.map co4).length:Int))=false:=by rw[hle];simp;omega
  rw[fk5 hge,dn4]at ok;rw[ok]
  exact Ok
theorem dv7(b:PB)(K:List D)(cols:List ByteArray)(hs:smE b.e):Ev E 44 [dl5 b K,.sl (cols.map .str)] (.d (.int (dn5 b cols))):=by
 have h1:=cn7 b.e (dv4 hs) hs;have h2:=du4 b.nm;have h3:=dd8 b.e cols hs;have h4:=cv4 b.e;have h5:=ca3 cols b.nm;unfold dn5
 cases hz:cn6 b.e !=0 with
 |true=>
  rw[cond_true];generalize cn6 b.e=z at*;refine ye2 func44 ntmps44 fun _ _ _=>?_
  repeat'(first|refine yz ?_|refine yp b61 h1 ?_|exact zD)
 |false=>
 have h0:cn6 b.e=0:=by simpa using hz
 rw[h0]at h1;rw[cond_false];clear hz h0;generalize dd2 b.e cols=kn at*;generalize co7 b.e=ha at*;generalize bx6 cols b.nm=hc at*
 cases hw:cm2 b.nm with
 |false=>
  rw[hw]at h2;refine ye2 func44 ntmps44 fun _ _ _=>?_
  repeat'(first|refine yz ?_|refine yp b61 h1 ?_|refine yp b58 h2 ?_|exact zD)
 |true=>
 rw[hw]at h2
 cases kn with
 |false=>
  refine ye2 func44 ntmps44 fun _ _ _=>?_
  repeat'(first|refine yz ?_|refine yp b61 h1 ?_|refine yp b58 h2 ?_|refine yp b62 h3 ?_|exact zD)
 |true=>
 cases ha with
 |true=>
  refine ye2 func44 ntmps44 fun _ _ _=>?_
  repeat'(first|refine yz ?_|refine yp b61 h1 ?_|refine yp b58 h2 ?_|refine yp b62 h3 ?_|refine yp b63 h4 ?_|exact zD)
 |false=>
 cases hc with
 |true=>
  refine ye2 func44 ntmps44 fun _ _ _=>?_
  repeat'(first|refine yz ?_|refine yp b61 h1 ?_|refine yp b58 h2 ?_|refine yp b62 h3 ?_|refine yp b63 h4 ?_|refine yp b60 h5 ?_|exact zD)
 |false=>
  refine ye2 func44 ntmps44 fun _ _ _=>?_
  repeat'(first|refine yz ?_|refine yp b61 h1 ?_|refine yp b58 h2 ?_|refine yp b62 h3 ?_|refine yp b63 h4 ?_|refine yp b60 h5 ?_|exact zD)
structure SMuP(l:List ByteArray) where
 i:Nat
 hi:i≤l.length
 ok:l.all (fun s=>cm2 s||dm3 s)=(l.drop i).all fun s=>cm2 s||dm3 s
theorem dv8(c:CJ)(hl:c.vs.length≤1000000):Ev E 37 [cc7 c] (.tup [.sl ((dm9 c).1.map .str),.int (dm9 c).2]):=Ev.fit fun hfit=>by
 have hk:=du9 c;have hle:(c.vs.map D.str).length=c.vs.length:=Oc
 have hcl:=dv3 c.vs Oa;unfold dm9
 cases hz:dk6 c !=0 with
 |true=>
  rw[cond_true];generalize dk6 c=z at*;show Ev E 37 [cc7 c] (.tup [.sl [],.int z]);refine ye1 func37 ntmps37 fun _ _ _=>?_
  repeat'(first|refine yz ?_|refine yp b57 hk ?_|exact zL)
 |false=>
  have h0:dk6 c=0:=by simpa using hz
  rw[h0]at hk;rw[cond_false];clear hz h0;refine ye1 func37 ntmps37 fun _ _ _=>?_
  repeat'(first|refine yz ?_|refine yp b57 hk ?_)
  refine ac7 (α:=SMuP c.vs) (fun p=>⟨[(1,.ptr 0 0),(13,.d (.sl (c.vs.map .str))),(14,.d (.int (c.vs.map D.str).length)),(15,.d (.int p.i))],[oCJ c]⟩) (fun p=>c.vs.length-p.i) ⟨0,by omega,rfl⟩ (zle 1) ?_;rintro⟨i,hi,ok⟩;dsimp only;rcases fj8 i c.vs.length with hlt|hge
  ·have g1:decide ((i:Int)<((c.vs.map D.str).length:Int))=true:=by rw[hle];simpa using hlt
   have hx0:=fj7 hlt;generalize c.vs[i]=x at hx0;have hx:=ct3 (f:=D.str) hx0;have h1:=du4 x;have h2:=du5 x;rw[ct2 hx0,fn8]at ok
   cases hw:cm2 x with
   |true=>
    rw[hw]at h1 ok;rw[Bool.true_or,fn0]at ok
    repeat'(first|refine yz ?_|refine yi (.str x) hx ?_|refine yp b58 h1 ?_)
    refine ac1 ?_;exact⟨⟨i+1,by omega,ok⟩,by dsimp only;omega,(zle 1)⟩
   |false=>
    rw[hw]at h1 ok
    cases hu:dm3 x with
    |true=>
     rw[hu]at h2 ok;rw[fm9,fn0]at ok
     repeat'(first|refine yz ?_|refine yi (.str x) hx ?_|refine yp b58 h1 ?_|refine yp b59 h2 ?_)
     refine ac1 ?_;exact⟨⟨i+1,by omega,ok⟩,by dsimp only;omega,(zle 1)⟩
    |false=>
     rw[hu]at h2 ok;rw[ok]
     repeat'(first|refine yz ?_|refine yi (.str x) hx ?_|refine yp b58 h1 ?_|refine yp b59 h2 ?_|exact zL)
  ·have g1:decide ((i:Int)<((c.vs.map D.str).length:Int))=false:=by rw[hle];simp;omega
   rw[fk5 hge,List.all_nil]at ok;rw[ok]
   repeat'(first|refine yz ?_|refine yp b45 hcl ?_|exact zL)
abbrev oPB(b:PB)(K:List D):aa5:=.var 40 (.w (.d (dl5 b K)))
theorem dv9(l:List ByteArray)(s:ByteArray):EvS E 60 [.own 0,.d (.str s)] [.row 9 1 (l.map .str)] (.d (.bool (bx6 l s))) [.row 9 1 (l.map .str)]:=
 dv0 (ds:=[]) (es:=[.str s]) (ca3 l s)
structure SItP(g:Bool)(cols:List ByteArray)(l:List IT) where
 i:Nat
 out:List ByteArray
 hi:i≤l.length
 ho:out.length=i
 ok:dn3 g cols l []=dn3 g cols (l.drop i) out
theorem dw0{g:Bool}{cols out:List ByteArray}{l:List IT}{i:Nat}{x:IT}(h:l[i]? =some x):dn3 g cols (l.drop i) out=bif dn2 g x cols out !=0 then erR (dn2 g x cols out)else dn3 g cols (l.drop (i+1)) (out++ [x.asn]):=by
 rw[ct2 h,dn3]
set_option maxHeartbeats 4000000 in
theorem dw1(b:PB)(K:List D)(cols:List ByteArray)(hs:∀x∈b.it,smE x.e):Ev E 39 [dl5 b K,.sl (cols.map .str)]
  (.tup [.sl ((bif decide (b.it.length>24)then erR 4 else dn3 (b.op==8) cols b.it []).1.map .str),.int (bif decide (b.it.length>24)then erR 4 else dn3 (b.op==8) cols b.it []).2]):=by
 have hle:(b.it.map co3).length=b.it.length:=Oc
 generalize hg8:(b.op==8)=g8
 cases hn:decide (b.it.length>24)with
 |true=>
  have g1:decide (((b.it.map co3).length:Int)>24)=true:=by rw[hle];simp at hn ⊢;omega
  show Ev E 39 _ (.tup [.sl [],.int 4]);refine ye2 func39 ntmps39 fun _ _ _=>?_
  exact Ok
 |false=>
 have hn24:b.it.length≤24:=by have:=of_decide_eq_false hn;omega
 have g1:decide (((b.it.map co3).length:Int)>24)=false:=by rw[hle];simp;omega
 rw[cond_false];refine ye2 func39 ntmps39 fun _ _ _=>?_
 repeat'(refine yz ?_)
 refine ac7 (α:=SItP g8 cols b.it) (fun p=>⟨[(1,.d (.sl (cols.map .str))),(2,.ptr 0 0),(6,bf9 1 (p.out.map .str)),(16,.d (.sl (b.it.map co3))),(17,.d (.int (b.it.map co3).length)),(18,.d (.int p.i))],[oPB b K]++aw7 9 1 (p.out.map .str)⟩) (fun p=>b.it.length-p.i) ⟨0,[],by omega,rfl,rfl⟩ (zle 1) ?_;rintro⟨i,out,hi,ho,ok⟩;dsimp only;rcases fj8 i b.it.length with hlt|hge
 ·have g2:decide ((i:Int)<((b.it.map co3).length:Int))=true:=by rw[hle];simpa using hlt
  have hx0:=fj7 hlt;generalize b.it[i]=x at hx0;have hx:=ct3 (f:=co3) hx0;have hm:=hs x (fj9 hx0);have h1:=cn7 x.e (dv4 hm) hm;have h2:=du4 x.asn;have h3:=dd8 x.e cols hm;have h4:=cv4 x.e;have hat:=dw0 (g:=g8) (cols:=cols) (out:=out) hx0;unfold dn2 at hat;rw[ok,hat];generalize dd2 x.e cols=kn at*;generalize co7 x.e=ha at*
  match out,ho,ok with
  |[],ho,ok=>
   dsimp only[bf9,aw7,List.map,List.append,HAppend.hAppend,Append.append];have hcon:=ca3 [] x.asn;generalize hq:bx6 [] x.asn=hc at*
   cases hz:cn6 x.e !=0 with
   |true=>
    rw[cond_true,hz,cond_true];generalize cn6 x.e=z at*;show go _ _ _ (an5 _ _ (.tup [.sl [],.int z]))
    repeat'(first|refine yz ?_|refine yi (co3 x) hx ?_|refine bj7 rfl rfl rfl rfl rfl rfl rfl ?_|refine yp b61 h1 ?_|exact zL)
   |false=>
   have h0:cn6 x.e=0:=by simpa using hz
   rw[h0]at h1;rw[cond_false];clear h0
   cases hw:cm2 x.asn with
   |false=>
    rw[hw]at h2;show go _ _ _ (an5 _ _ (.tup [.sl [],.int 6]))
    repeat'(first|refine yz ?_|refine yi (co3 x) hx ?_|refine bj7 rfl rfl rfl rfl rfl rfl rfl ?_|refine yp b61 h1 ?_|refine yp b58 h2 ?_|(refine yy ?_ ?_<;>intro _)|exact zL)
   |true=>
   rw[hw]at h2
   cases kn with
   |false=>
    show go _ _ _ (an5 _ _ (.tup [.sl [],.int 6]))
    repeat'(first|refine yz ?_|refine yi (co3 x) hx ?_|refine bj7 rfl rfl rfl rfl rfl rfl rfl ?_|refine yp b61 h1 ?_|refine yp b58 h2 ?_|refine yp b62 h3 ?_|(refine yy ?_ ?_<;>intro _)|exact zL)
   |true=>
   cases ha with
   |false=>
    cases g8 with
    |false=>
     cases hc with
     |true=>
      simp[bx6]at hq
     |false=>
      show go _ _ _ (an5 _ _ (.tup [.sl ((dn3 false cols (b.it.drop (i+1)) ([]++ [x.asn])).1.map .str),.int (dn3 false cols (b.it.drop (i+1)) ([]++ [x.asn])).2]));have hnew:dn3 false cols b.it []=dn3 false cols (b.it.drop (i+1)) ([]++ [x.asn]):=by rw[ok,hat,hz,hw];rfl
      rw[←hnew]
      repeat'(first|refine yz ?_|refine yi (co3 x) hx ?_|refine bj7 rfl rfl rfl rfl rfl rfl rfl ?_|refine yp b61 h1 ?_|refine yp b58 h2 ?_|refine yp b62 h3 ?_|refine yp b63 h4 ?_|refine yp b60 hcon ?_|(refine qS rfl ⟨by simp,fun d hd=>by(obtain rfl:=fk8.1 hd;rfl),by(show _*16≤140737488355328;simp;try omega),by(show _≤9223372036854775807;simp;try omega)⟩ ?_)|refine yx ?_)
      refine ac1 ?_;exact⟨⟨i+1,[]++ [x.asn],by omega,by simp only[fk1,fk0,fk4]at*;omega,hnew⟩,by dsimp only;omega,(bh0 [0,2])⟩
    |true=>
     cases hc with
     |true=>
      simp[bx6]at hq
     |false=>
      show go _ _ _ (an5 _ _ (.tup [.sl ((dn3 true cols (b.it.drop (i+1)) ([]++ [x.asn])).1.map .str),.int (dn3 true cols (b.it.drop (i+1)) ([]++ [x.asn])).2]));have hnew:dn3 true cols b.it []=dn3 true cols (b.it.drop (i+1)) ([]++ [x.asn]):=by rw[ok,hat,hz,hw];rfl
      rw[←hnew]
      repeat'(first|refine yz ?_|refine yi (co3 x) hx ?_|refine bj7 rfl rfl rfl rfl rfl rfl rfl ?_|refine yp b61 h1 ?_|refine yp b58 h2 ?_|refine yp b62 h3 ?_|refine yp b63 h4 ?_|refine yp b60 hcon ?_|(refine qS rfl ⟨by simp,fun d hd=>by(obtain rfl:=fk8.1 hd;rfl),by(show _*16≤140737488355328;simp;try omega),by(show _≤9223372036854775807;simp;try omega)⟩ ?_)|refine yx ?_)
      refine ac1 ?_;exact⟨⟨i+1,[]++ [x.asn],by omega,by simp only[fk1,fk0,fk4]at*;omega,hnew⟩,by dsimp only;omega,(bh0 [0,2])⟩
   |true=>
    cases g8 with
    |false=>
     show go _ _ _ (an5 _ _ (.tup [.sl [],.int 9]))
     repeat'(first|refine yz ?_|refine yi (co3 x) hx ?_|refine bj7 rfl rfl rfl rfl rfl rfl rfl ?_|refine yp b61 h1 ?_|refine yp b58 h2 ?_|refine yp b62 h3 ?_|refine yp b63 h4 ?_|refine yx ?_|exact zL)
    |true=>
     cases c2:x.e.op==24 with
     |false=>
      have c3:(!(x.e.op==24))=true:=by rw[c2];rfl
      show go _ _ _ (an5 _ _ (.tup [.sl [],.int 9]))
      repeat'(first|refine yz ?_|refine yi (co3 x) hx ?_|refine bj7 rfl rfl rfl rfl rfl rfl rfl ?_|refine yp b61 h1 ?_|refine yp b58 h2 ?_|refine yp b62 h3 ?_|refine yp b63 h4 ?_|refine yx ?_|exact zL)
     |true=>
      rw[c2]at hat;have c3:(!(x.e.op==24))=false:=by rw[c2];rfl
      cases hc with
      |true=>
       simp[bx6]at hq
      |false=>
       show go _ _ _ (an5 _ _ (.tup [.sl ((dn3 true cols (b.it.drop (i+1)) ([]++ [x.asn])).1.map .str),.int (dn3 true cols (b.it.drop (i+1)) ([]++ [x.asn])).2]));have hnew:dn3 true cols b.it []=dn3 true cols (b.it.drop (i+1)) ([]++ [x.asn]):=by rw[ok,hat,hz,hw];rfl
       rw[←hnew]
       repeat'(first|refine yz ?_|refine yi (co3 x) hx ?_|refine bj7 rfl rfl rfl rfl rfl rfl rfl ?_|refine yp b61 h1 ?_|refine yp b58 h2 ?_|refine yp b62 h3 ?_|refine yp b63 h4 ?_|refine yp b60 hcon ?_|(refine qS rfl ⟨by simp,fun d hd=>by(obtain rfl:=fk8.1 hd;rfl),by(show _*16≤140737488355328;simp;try omega),by(show _≤9223372036854775807;simp;try omega)⟩ ?_)|refine yx ?_)
       refine ac1 ?_;exact⟨⟨i+1,[]++ [x.asn],by omega,by simp only[fk1,fk0,fk4]at*;omega,hnew⟩,by dsimp only;omega,(bh0 [0,2])⟩
  |a::q,ho,ok=>
   dsimp only[bf9,aw7,List.map,List.append,HAppend.hAppend,Append.append];have hcon:=dv9 (a::q) x.asn;generalize hq:bx6 (a::q) x.asn=hc at*
   cases hz:cn6 x.e !=0 with
   |true=>
    rw[cond_true,hz,cond_true];generalize cn6 x.e=z at*;show go _ _ _ (an5 _ _ (.tup [.sl [],.int z]))
    repeat'(first|refine yz ?_|refine yi (co3 x) hx ?_|refine bj7 rfl rfl rfl rfl rfl rfl rfl ?_|refine yp b61 h1 ?_|exact zL)
   |false=>
   have h0:cn6 x.e=0:=by simpa using hz
   rw[h0]at h1;rw[cond_false];clear h0
   cases hw:cm2 x.asn with
   |false=>
    rw[hw]at h2;show go _ _ _ (an5 _ _ (.tup [.sl [],.int 6]))
    repeat'(first|refine yz ?_|refine yi (co3 x) hx ?_|refine bj7 rfl rfl rfl rfl rfl rfl rfl ?_|refine yp b61 h1 ?_|refine yp b58 h2 ?_|(refine yy ?_ ?_<;>intro _)|exact zL)
   |true=>
   rw[hw]at h2
   cases kn with
   |false=>
    show go _ _ _ (an5 _ _ (.tup [.sl [],.int 6]))
    repeat'(first|refine yz ?_|refine yi (co3 x) hx ?_|refine bj7 rfl rfl rfl rfl rfl rfl rfl ?_|refine yp b61 h1 ?_|refine yp b58 h2 ?_|refine yp b62 h3 ?_|(refine yy ?_ ?_<;>intro _)|exact zL)
   |true=>
   cases ha with
   |false=>
    cases g8 with
    |false=>
     cases hc with
     |true=>
      show go _ _ _ (an5 _ _ (.tup [.sl [],.int 7]))
      repeat'(first|refine yz ?_|refine yi (co3 x) hx ?_|refine bj7 rfl rfl rfl rfl rfl rfl rfl ?_|refine yp b61 h1 ?_|refine yp b58 h2 ?_|refine yp b62 h3 ?_|refine yp b63 h4 ?_|refine yc [1] b60 (hcon) ?_|refine yx ?_|exact zL)
     |false=>
      show go _ _ _ (an5 _ _ (.tup [.sl ((dn3 false cols (b.it.drop (i+1)) ((a::q)++ [x.asn])).1.map .str),.int (dn3 false cols (b.it.drop (i+1)) ((a::q)++ [x.asn])).2]));have hnl:q.length≤24:=by simp only[fk0]at ho;omega
      have hnew:dn3 false cols b.it []=dn3 false cols (b.it.drop (i+1)) ((a::q)++ [x.asn]):=by rw[ok,hat,hz,hw];rfl
      rw[←hnew]
      repeat'(first|refine yz ?_|refine yi (co3 x) hx ?_|refine bj7 rfl rfl rfl rfl rfl rfl rfl ?_|refine yp b61 h1 ?_|refine yp b58 h2 ?_|refine yp b62 h3 ?_|refine yp b63 h4 ?_|refine yc [1] b60 (hcon) ?_|(refine qS rfl ⟨by simp,fun d hd=>by(obtain rfl:=fk8.1 hd;rfl),by(show _*16≤140737488355328;simp;try omega),by(show _≤9223372036854775807;simp;try omega)⟩ ?_)|refine yx ?_)
      refine ac1 ?_;have hmap:(a::q++ [x.asn]).map D.str=(D.str a::List.map D.str q)++ [D.str x.asn]:=Oc
      refine⟨⟨i+1,a::q++ [x.asn],by omega,by simp only[fk1,fk0,fk4]at*;omega,hnew⟩,by dsimp only;omega,?_⟩;dsimp only;rw[hmap];exact(bh0 [0,3])
    |true=>
     cases hc with
     |true=>
      show go _ _ _ (an5 _ _ (.tup [.sl [],.int 7]))
      repeat'(first|refine yz ?_|refine yi (co3 x) hx ?_|refine bj7 rfl rfl rfl rfl rfl rfl rfl ?_|refine yp b61 h1 ?_|refine yp b58 h2 ?_|refine yp b62 h3 ?_|refine yp b63 h4 ?_|refine yc [1] b60 (hcon) ?_|refine yx ?_|exact zL)
     |false=>
      show go _ _ _ (an5 _ _ (.tup [.sl ((dn3 true cols (b.it.drop (i+1)) ((a::q)++ [x.asn])).1.map .str),.int (dn3 true cols (b.it.drop (i+1)) ((a::q)++ [x.asn])).2]));have hnl:q.length≤24:=by simp only[fk0]at ho;omega
      have hnew:dn3 true cols b.it []=dn3 true cols (b.it.drop (i+1)) ((a::q)++ [x.asn]):=by rw[ok,hat,hz,hw];rfl
      rw[←hnew]
      repeat'(first|refine yz ?_|refine yi (co3 x) hx ?_|refine bj7 rfl rfl rfl rfl rfl rfl rfl ?_|refine yp b61 h1 ?_|refine yp b58 h2 ?_|refine yp b62 h3 ?_|refine yp b63 h4 ?_|refine yc [1] b60 (hcon) ?_|(refine qS rfl ⟨by simp,fun d hd=>by(obtain rfl:=fk8.1 hd;rfl),by(show _*16≤140737488355328;simp;try omega),by(show _≤9223372036854775807;simp;try omega)⟩ ?_)|refine yx ?_)
      refine ac1 ?_;have hmap:(a::q++ [x.asn]).map D.str=(D.str a::List.map D.str q)++ [D.str x.asn]:=Oc
      refine⟨⟨i+1,a::q++ [x.asn],by omega,by simp only[fk1,fk0,fk4]at*;omega,hnew⟩,by dsimp only;omega,?_⟩;dsimp only;rw[hmap];exact(bh0 [0,3])
   |true=>
    cases g8 with
    |false=>
     show go _ _ _ (an5 _ _ (.tup [.sl [],.int 9]))
     repeat'(first|refine yz ?_|refine yi (co3 x) hx ?_|refine bj7 rfl rfl rfl rfl rfl rfl rfl ?_|refine yp b61 h1 ?_|refine yp b58 h2 ?_|refine yp b62 h3 ?_|refine yp b63 h4 ?_|refine yx ?_|exact zL)
    |true=>
     cases c2:x.e.op==24 with
     |false=>
      have c3:(!(x.e.op==24))=true:=by rw[c2];rfl
      show go _ _ _ (an5 _ _ (.tup [.sl [],.int 9]))
      repeat'(first|refine yz ?_|refine yi (co3 x) hx ?_|refine bj7 rfl rfl rfl rfl rfl rfl rfl ?_|refine yp b61 h1 ?_|refine yp b58 h2 ?_|refine yp b62 h3 ?_|refine yp b63 h4 ?_|refine yx ?_|exact zL)
     |true=>
      rw[c2]at hat;have c3:(!(x.e.op==24))=false:=by rw[c2];rfl
      cases hc with
      |true=>
       show go _ _ _ (an5 _ _ (.tup [.sl [],.int 7]))
       repeat'(first|refine yz ?_|refine yi (co3 x) hx ?_|refine bj7 rfl rfl rfl rfl rfl rfl rfl ?_|refine yp b61 h1 ?_|refine yp b58 h2 ?_|refine yp b62 h3 ?_|refine yp b63 h4 ?_|refine yc [1] b60 (hcon) ?_|refine yx ?_|exact zL)
      |false=>
       show go _ _ _ (an5 _ _ (.tup [.sl ((dn3 true cols (b.it.drop (i+1)) ((a::q)++ [x.asn])).1.map .str),.int (dn3 true cols (b.it.drop (i+1)) ((a::q)++ [x.asn])).2]));have hnl:q.length≤24:=by simp only[fk0]at ho;omega
       have hnew:dn3 true cols b.it []=dn3 true cols (b.it.drop (i+1)) ((a::q)++ [x.asn]):=by rw[ok,hat,hz,hw];rfl
       rw[←hnew]
       repeat'(first|refine yz ?_|refine yi (co3 x) hx ?_|refine bj7 rfl rfl rfl rfl rfl rfl rfl ?_|refine yp b61 h1 ?_|refine yp b58 h2 ?_|refine yp b62 h3 ?_|refine yp b63 h4 ?_|refine yc [1] b60 (hcon) ?_|(refine qS rfl ⟨by simp,fun d hd=>by(obtain rfl:=fk8.1 hd;rfl),by(show _*16≤140737488355328;simp;try omega),by(show _≤9223372036854775807;simp;try omega)⟩ ?_)|refine yx ?_)
       refine ac1 ?_;have hmap:(a::q++ [x.asn]).map D.str=(D.str a::List.map D.str q)++ [D.str x.asn]:=Oc
       refine⟨⟨i+1,a::q++ [x.asn],by omega,by simp only[fk1,fk0,fk4]at*;omega,hnew⟩,by dsimp only;omega,?_⟩;dsimp only;rw[hmap];exact(bh0 [0,3])
 ·have g2:decide ((i:Int)<((b.it.map co3).length:Int))=false:=by rw[hle];simp;omega
  rw[ok,fk5 hge,dn3]
  match out with
  |[]=>
   dsimp only[bf9,aw7,List.map]
   exact Ok
  |a::q=>
   dsimp only[bf9,aw7,List.map];refine au2 1 rfl ?_;dsimp only[ar6,ar5,ar8,ar7,List.map,List.set]
   exact Ok
abbrev rS(l:List ByteArray):aa5:=.row 9 1 (l.map .str)
def fS(k:Nat):List ByteArray→X
 |[]=>.nilS
 |_::_=>.own k
def gS:List ByteArray→aa5
 |[]=>.dead
 |x::r=>rS (x::r)
structure dw2(P:Prop):Prop where
 h:P
theorem dw3{C:Cx}{r:List It}{s:St}{Q:Exit→St→Prop}{α:Type}(id t:Nat){l:Array Oper}{d:Bool}{a b:Code}{c:Code}(S:α→St)(b0:α)(h1:dw2 (go C (.code (.seq (.region id l d) (.cond (.tmp t) a b)):: .stop (fun s'=>∃b,b=b0∧Le C s' (S b)):: .code c::r) s Q))
  (h2:dw2 (go C (.code c::r) (S b0) Q)):go C (.code (.seq (.region id l d) (.cond (.tmp t) a b)):: .code c::r) s Q:=by
 refine bd2 _ h1.h ?_;rintro s' ⟨b,rfl,hl⟩;exact ac6 hl h2.h
theorem dw4{s:ByteArray}(h:s0B s=true):EvS E 69 [.nilS,.d (.str s)] [] .nilS []:=by
 have g0:(s.toList==(⟨#[]⟩:ByteArray).toList)=true:=h;refine yn func69 ntmps69 fun _ _ _ _=>?_
 repeat'(first|refine yz ?_|refine bb2 [] rfl rfl rfl rfl rfl ?_|refine yx ?_)
 all_goals rfl
theorem dw5{s:ByteArray}(h:s0B s=false):EvS E 69 [.nilS,.d (.str s)] [] (.own 0) [rS [s]]:=by
 have g0:(s.toList==(⟨#[]⟩:ByteArray).toList)=false:=h;have hc:=ca3 [] s;have hc:Ev E 60 [.sl [],.str s] (.d (.bool false)):=hc;refine yn func69 ntmps69 fun _ _ _ _=>?_
 repeat'(first|refine yz ?_|refine yp b60 hc ?_|(refine qS rfl ⟨by simp,fun d hd=>by(obtain rfl:=fk8.1 hd;rfl),by(show(0+1)*16≤140737488355328;omega),by(show 0+1≤9223372036854775807;omega)⟩ ?_)|refine bb2 [0] rfl rfl rfl rfl rfl ?_|refine yx ?_)
 all_goals rfl
theorem dw6{s:ByteArray}{l:List ByteArray}(h:(s0B s||bx6 l s)=true):EvS E 69 [.own 0,.d (.str s)] [rS l] (.own 0) [rS l]:=by
 have hc:=dv9 l s
 cases h0:s0B s with
 |true=>
  have g0:(s.toList==(⟨#[]⟩:ByteArray).toList)=true:=h0;refine yn func69 ntmps69 fun _ _ _ _=>?_
  repeat'(first|refine yz ?_|refine bb2 [0] rfl rfl rfl rfl rfl ?_|refine yx ?_)
  all_goals rfl
 |false=>
  have g0:(s.toList==(⟨#[]⟩:ByteArray).toList)=false:=h0;rw[h0,fm9]at h;rw[h]at hc;refine yn func69 ntmps69 fun _ _ _ _=>?_
  repeat'(first|refine yz ?_|refine yc [0] b60 (hc) ?_|refine bb2 [0] rfl rfl rfl rfl rfl ?_|refine yx ?_)
  all_goals rfl
theorem dw7{s:ByteArray}{l:List ByteArray}(h:(s0B s||bx6 l s)=false)(hl:l.length≤1000000):EvS E 69 [.own 0,.d (.str s)] [rS l] (.own 1) [.dead,rS (l++ [s])]:=by
 have hc:=dv9 l s;rw[fn9]at h;have g0:(s.toList==(⟨#[]⟩:ByteArray).toList)=false:=h.1;rw[h.2]at hc;have hle:(l.map D.str).length=l.length:=Oc
 have hm:(l++ [s]).map D.str=l.map D.str++ [.str s]:=Oc
 unfold rS;rw[hm];refine yn func69 ntmps69 fun _ _ _ _=>?_
 repeat'(first|refine yz ?_|refine yc [0] b60 (hc) ?_|(refine qS rfl ⟨by simp,fun d hd=>by(obtain rfl:=fk8.1 hd;rfl),by(show((l.map D.str).length+1)*16≤140737488355328;omega),by(show(l.map D.str).length+1≤9223372036854775807;omega)⟩ ?_)|refine bb2 [0,1] rfl rfl rfl rfl rfl ?_|refine yx ?_)
 all_goals rfl
def nE(es:List EP)(i:Nat):List ByteArray:=(es[i]?).toList.map EP.vr
def nN(ns:List NP)(i:Nat):List ByteArray:=(ns[i]?).toList.map NP.vr
def nB(es:List EP):Nat→List ByteArray
 |0=>[]
 |j+1=>nE es j
def rnd(ns:List NP)(es:List EP)(i:Nat):List ByteArray:=nB es i++nN ns i
def dw8(ns:List NP)(es:List EP)(i:Nat):List ByteArray:=nN ns i++nE es i
theorem dw9{f:Nat→List ByteArray}(n:Nat):(List.range (n+1)).flatMap f=(List.range n).flatMap f++f n:=by rw[List.range_succ,fr2];simp
theorem dx0(ns:List NP)(es:List EP):∀n,(List.range (n+1)).flatMap (rnd ns es)=(List.range n).flatMap (dw8 ns es)++nN ns n
 |0=>by simp[rnd,nB]
 |n+1=>by rw[dw9,dx0 ns es n,dw9];simp[rnd,dw8,nB]
theorem dx1{f:Nat→List ByteArray}(h:∀i,f i=[])(n:Nat):(List.range n).flatMap f=[]:=by
 rw[List.flatMap_eq_nil_iff];intro i _;exact h i
theorem dx2{f g:Nat→List ByteArray}(h:∀i,f (i+1)=g i):∀n,(List.range (n+1)).flatMap f=f 0++(List.range n).flatMap g
 |0=>by simp
 |n+1=>by rw[dw9,dx2 h n,dw9,h];simp
theorem dx3:∀(ns:List NP) (es:List EP) (n:Nat),ns.length≤n→es.length≤n→(List.range n).flatMap (dw8 ns es)=dm6 ns es
 |[],[],n,_,_=>by rw[dm6,fr0];exact dx1 (fun i=>by simp[dw8,nN,nE]) n
 |[],e::q,n,_,h=>by
  match n,h with
  |n+1,h=>
   rw[dm6,fm5,dx2 (g:=dw8 [] q) (fun i=>by simp[dw8,nN,nE]),dx3 [] q n Oc (by simpa using h)];simp[dw8,nN,nE,dm6]
 |a::r,[],n,h,_=>by
  match n,h with
  |n+1,h=>
   rw[dm6,dx2 (g:=dw8 r []) (fun i=>by simp[dw8,nN,nE]),dx3 r [] n (by simpa using h) Oc]
   cases r<;>simp[dw8,nN,nE,dm6]
 |a::r,e::q,n,h1,h2=>by
  match n,h1,h2 with
  |n+1,h1,h2=>
   rw[dm6,dx2 (g:=dw8 r q) (fun i=>by simp[dw8,nN,nE]),dx3 r q n (by simpa using h1) (by simpa using h2)];simp[dw8,nN,nE]
theorem dx4(ns:List NP)(es:List EP){n:Nat}(hn:n=max ns.length (es.length+1)):(List.range n).flatMap (rnd ns es)=dm6 ns es:=by
 obtain⟨m,rfl⟩:∃m,n=m+1:=⟨n-1,by omega⟩;rw[dx0,←dx3 ns es (m+1) Oa Oa,dw9];have:nE es m=[]:=by unfold nE;rw[fn6 Oa];rfl
 rw[dw8,this,fq3]
def dx5(l:List ByteArray)(ns:List ByteArray):List ByteArray:=ns.foldl dm5 l
theorem dx6(l a b:List ByteArray):dx5 l (a++b)=dx5 (dx5 l a) b:=by unfold dx5;rw[List.foldl_append]
theorem dx7:∀(ns l:List ByteArray),(dx5 l ns).length≤l.length+ns.length
 |[],l=>by simp[dx5]
 |s::r,l=>by
  have h1:=dx7 r (dm5 l s);have h2:(dm5 l s).length≤l.length+1:=by unfold dm5;cases s0B s||bx6 l s<;>simp
  show(dx5 (dm5 l s) r).length≤_;simp only[fk0];omega
theorem dx8{l:List ByteArray}{s:ByteArray}(h:(s0B s||bx6 l s)=true):dm5 l s=l:=by unfold dm5;rw[h];rfl
theorem dx9{l:List ByteArray}{s:ByteArray}(h:(s0B s||bx6 l s)=false):dm5 l s=l++ [s]:=by unfold dm5;rw[h];rfl
abbrev oPAp(p:PA):aa5:=.var 69 (.w (.d (co2 p)))
structure SVi(M:Nat) where
 j:Nat
 hj:j≤M
structure SVo(l:List PA) where
 i:Nat
 hi:i≤l.length
theorem dy0{ns:List NP}{i:Nat}{x:NP}(h:ns[i]? =some x):nN ns i=[x.vr]:=by unfold nN;rw[h];rfl
theorem dy1{ns:List NP}{i:Nat}(h:ns.length≤i):nN ns i=[]:=by unfold nN;rw[fn6 h];rfl
theorem dy2{es:List EP}{i:Nat}{x:EP}(h:es[i]? =some x):nE es i=[x.vr]:=by unfold nE;rw[h];rfl
theorem dy3{es:List EP}{i:Nat}(h:es.length≤i):nE es i=[]:=by unfold nE;rw[fn6 h];rfl
theorem dy4(l:List ByteArray)(s:ByteArray):(l++ [s]).map D.str=l.map D.str++ [.str s]:=Oc
set_option maxHeartbeats 4000000 in
theorem dy5(l:List PA)(hsm:(dm7 l).length≤900000)(hn:∀p∈l,p.ns.length≤1000000∧p.es.length≤1000000):Ev E 41 [.sl (l.map co2)] (.d (.sl ((dm8 l).map .str))):=Ev.fit fun hfit=>by
 have hmax:=(ct4 (hfit (.sl (l.map co2)) Oc)).1;have hle:(l.map co2).length=l.length:=Oc
 refine ye1 func41 ntmps41 fun _ _ _=>?_
 repeat'(refine yz ?_)
 refine bk1 ?_;refine ac7 (α:=SVo l) (fun p=>⟨[(3,fS 0 (dx5 [] (dm7 (l.take p.i)))),(7,.d (.sl (l.map co2))),(8,.d (.int (l.map co2).length)),(9,.d (.int p.i))],[gS (dx5 [] (dm7 (l.take p.i)))]⟩) (fun p=>l.length-p.i) ⟨0,by omega⟩ (zle 1) ?_;rintro⟨i,hi⟩;dsimp only;rcases fj8 i l.length with hlt|hge
 ·have g1:decide ((i:Int)<((l.map co2).length:Int))=true:=by rw[hle];simpa using hlt
  have hx0:=fj7 hlt;generalize l[i]=p at hx0;have hx:=ct3 (f:=co2) hx0;have hpm:=fj9 hx0;obtain⟨hns,hes⟩:=hn p hpm;have hln:(p.ns.map co0).length=p.ns.length:=Oc
  have hlee:(p.es.map co1).length=p.es.length:=Oc
  have htk:dm7 (l.take (i+1))=dm7 (l.take i)++(dm6 p.ns p.es++ [p.vr]):=by unfold dm7;rw[fm8,hx0,fr2];simp
  have hbnd:(dm7 (l.take (i+1))).length≤900000:=by
   have h:dm7 l=dm7 (l.take (i+1))++dm7 (l.drop (i+1)):=by unfold dm7;rw[←fr2,fp9]
   have:=congrArg List.length h;rw[fk1]at this;omega
  rw[htk,fk1,fk1]at hbnd;simp only[fk0,fk4]at hbnd;obtain⟨L0,hL0⟩:∃L0,L0=dx5 [] (dm7 (l.take i)):=⟨_,rfl⟩;have hL0l:L0.length≤(dm7 (l.take i)).length:=by rw[hL0];have:=dx7 (dm7 (l.take i)) [];simpa using this
  have hend:dx5 [] (dm7 (l.take (i+1)))=dm5 (dx5 L0 (dm6 p.ns p.es)) p.vr:=by rw[htk,dx6,dx6,←hL0];rfl
  rw[←hL0];clear hL0;obtain⟨M,hM⟩:∃M,M=max p.ns.length (p.es.length+1):=⟨_,rfl⟩;have hMx:(max ((p.ns.map co0).length:Int) (((p.es.map co1).length:Int)+1))=(M:Int):=by rw[hln,hlee,hM];omega
  have hin:∀j,j≤M→(dx5 L0 ((List.range j).flatMap (rnd p.ns p.es))).length≤900000:=fun j hj=>by
   have h1:=dx7 ((List.range j).flatMap (rnd p.ns p.es)) L0
   have h2:((List.range j).flatMap (rnd p.ns p.es)).length≤(dm6 p.ns p.es).length:=by
    have h3:=dx4 p.ns p.es hM
    have h4:List.range M=List.range j++(List.range M).drop j:=by
     have h5:=fp9 j (List.range M);rw[List.take_range,Nat.min_eq_left hj]at h5;exact h5.symm
    rw[h4,fr2]at h3;have:=congrArg List.length h3;rw[fk1]at this;omega
   omega
  repeat'(first|refine yz ?_|refine yi (co2 p) hx ?_)
  refine ac7 (α:=SVi M) (fun q=>⟨[(3,fS 0 (dx5 L0 ((List.range q.j).flatMap (rnd p.ns p.es)))),(5,.ptr 1 0),(7,.d (.sl (l.map co2))),(8,.d (.int (l.map co2).length)),(9,.d (.int i)),(20,.d (.int (max ((p.ns.map co0).length:Int) (((p.es.map co1).length:Int)+1)))),(21,.d (.int q.j))],[gS (dx5 L0 ((List.range q.j).flatMap (rnd p.ns p.es))),oPAp p]⟩) (fun q=>M-q.j) ⟨0,by omega⟩ (by
   dsimp only;show Le _ _ ⟨[(3,fS 0 L0),_,_,_,_,_,_],[gS L0,_]⟩;rcases L0 with _|⟨a0,q0⟩<;>exact(zle 2)) ?_
  rintro⟨j,hj⟩;dsimp only;have hL1b:=hin j hj;have hnext:dx5 L0 ((List.range (j+1)).flatMap (rnd p.ns p.es))=dx5 (dx5 (dx5 L0 ((List.range j).flatMap (rnd p.ns p.es))) (nB p.es j)) (nN p.ns j):=by rw[dw9,dx6,rnd,dx6]
  have hlast:j=M→dx5 L0 ((List.range j).flatMap (rnd p.ns p.es))=dx5 L0 (dm6 p.ns p.es):=fun h=>by rw[h,dx4 p.ns p.es hM]
  clear hin;generalize dx5 L0 ((List.range j).flatMap (rnd p.ns p.es))=L1 at*
  have hL2b:(dx5 L1 (nB p.es j)).length≤900001:=by
   have h1:=dx7 (nB p.es j) L1
   have h2:(nB p.es j).length≤1:=by
    cases j with
    |zero=>simp[nB]
    |succ j=>simp only[nB,nE,fk3];cases p.es[j]? <;>simp
   omega
  have hnode:(∃n,decide ((j:Int)<((p.ns.map co0).length:Int))=true∧(p.ns.map co0)[((j:Nat):Int).toNat]? =some (co0 n)∧nN p.ns j=[n.vr])∨(decide ((j:Int)<((p.ns.map co0).length:Int))=false∧nN p.ns j=[]):=by
   rcases fj8 j p.ns.length with h|h
   ·have h0:=fj7 h;exact .inl ⟨_,by rw[hln];simpa using h,ct3 (f:=co0) h0,dy0 h0⟩
   ·exact .inr ⟨by rw[hln];simp;omega,dy1 h⟩
  have hedge:(decide ((j:Int)>0)=false∧nB p.es j=[])∨(decide ((j:Int)>0)=true∧decide ((j:Int)≤((p.es.map co1).length:Int))=false∧nB p.es j=[])∨(∃e,decide ((j:Int)>0)=true∧decide ((j:Int)≤((p.es.map co1).length:Int))=true∧(p.es.map co1)[((j:Int) -1).toNat]? =some (co1 e)∧nB p.es j=[e.vr]):=by
   match j with
   |0=>exact .inl ⟨rfl,rfl⟩
   |k+1=>
    rcases fj8 k p.es.length with h|h
    ·have h0:=fj7 h;refine .inr (.inr ⟨_,decide_eq_true Oa,by rw[hlee];exact decide_eq_true Oa,?_,dy2 h0⟩);have e1:(((k+1:Nat):Int) -1).toNat=k:=by omega
     rw[e1,fk6,h0];rfl
    ·exact .inr (.inl ⟨decide_eq_true Oa,by rw[hlee];exact decide_eq_false Oa,dy3 h⟩)
  rcases fj8 j M with hlj|hgj
  ·have g2:decide ((j:Int)<(max ((p.ns.map co0).length:Int) (((p.es.map co1).length:Int)+1)))=true:=by rw[hMx];simpa using hlj
   repeat'(first|(refine dw3 8 32 (fun(_:Unit)=>⟨[(3,fS 0 (dx5 L1 (nB p.es j))),(5,.ptr 1 0),(6,.d (.int j)),(7,.d (.sl (l.map co2))),(8,.d (.int (l.map co2).length)),(9,.d (.int i)),(20,.d (.int (max ((p.ns.map co0).length:Int) (((p.es.map co1).length:Int)+1)))),(21,.d (.int j))],[gS (dx5 L1 (nB p.es j)),oPAp p]⟩) () ?_ ?_)|refine yz ?_)
   ·refine⟨?_⟩;rcases hedge with⟨e1,hnB⟩|⟨e1,e2,hnB⟩|⟨e,e1,e2,hxe,hnB⟩
    ·have hE:dx5 L1 (nB p.es j)=L1:=by rw[hnB];rfl
     rcases L1 with _|⟨a,q⟩
     ·dsimp only[fS,gS]
      repeat'(first|refine yz ?_|refine yx ?_)
      refine ac1 ?_;refine⟨(),rfl,?_⟩;rw[hE];exact(zle 2)
     ·dsimp only[fS,gS]
      repeat'(first|refine yz ?_|refine yx ?_)
      refine ac1 ?_;refine⟨(),rfl,?_⟩;rw[hE];exact(zle 2)
    ·have hE:dx5 L1 (nB p.es j)=L1:=by rw[hnB];rfl
     rcases L1 with _|⟨a,q⟩
     ·dsimp only[fS,gS]
      repeat'(first|refine yz ?_|refine yx ?_)
      refine ac1 ?_;refine⟨(),rfl,?_⟩;rw[hE];exact(zle 2)
     ·dsimp only[fS,gS]
      repeat'(first|refine yz ?_|refine yx ?_)
      refine ac1 ?_;refine⟨(),rfl,?_⟩;rw[hE];exact(zle 2)
    ·have hE:dx5 L1 (nB p.es j)=dm5 L1 e.vr:=by rw[hnB];rfl
     have f1:=of_decide_eq_true e1;have f2:=of_decide_eq_true e2;clear hnext hL2b hlast
     cases hsk:s0B e.vr||bx6 L1 e.vr with
     |true=>
      have hL2:=dx8 hsk
      match L1,hsk,hL2,hL1b with
      |[],hsk,hL2,hL1b=>
       dsimp only[fS,gS];have hs0:s0B e.vr=true:=by simpa[bx6]using hsk
       repeat'(first|refine yz ?_|refine yi (co1 e) hxe ?_|refine bm9 [] rfl rfl rfl rfl (FnX.plain _) b69 ((dw4 (s:=e.vr) hs0)) rfl rfl rfl rfl rfl ?_|refine yx ?_)
       refine ac1 ?_;refine⟨(),rfl,?_⟩;rw[hE,hL2];exact(zle 2)
      |a::q,hsk,hL2,hL1b=>
       dsimp only[fS,gS]
       repeat'(first|refine yz ?_|refine yi (co1 e) hxe ?_|refine yc [0] b69 (dw6 (l:=a::q) (s:=e.vr) hsk) ?_|refine yx ?_)
       refine ac1 ?_;refine⟨(),rfl,?_⟩;rw[hE,hL2];exact(zle 2)
     |false=>
      have hL2:=dx9 hsk
      match L1,hsk,hL2,hL1b with
      |[],hsk,hL2,hL1b=>
       dsimp only[fS,gS];have hs0:s0B e.vr=false:=by simpa[bx6]using hsk
       repeat'(first|refine yz ?_|refine yi (co1 e) hxe ?_|refine bm9 [] rfl rfl rfl rfl (FnX.plain _) b69 ((dw5 (s:=e.vr) hs0)) rfl rfl rfl rfl rfl ?_|refine yx ?_)
       refine ac1 ?_;refine⟨(),rfl,?_⟩;rw[hE,hL2];exact(bh0 [2,1])
      |a::q,hsk,hL2,hL1b=>
       dsimp only[fS,gS]
       repeat'(first|refine yz ?_|refine yi (co1 e) hxe ?_|refine ba7 [0] rfl rfl rfl rfl (FnX.plain _) b69 ((dw7 (l:=a::q) (s:=e.vr) hsk (by simp only[fk0]at*;omega))) rfl rfl rfl rfl rfl ?_|refine yx ?_)
       refine ac1 ?_;refine⟨(),rfl,?_⟩;rw[hE,hL2];exact(bh0 [2,1])
   ·refine⟨?_⟩;generalize dx5 L1 (nB p.es j)=L2 at*;rcases hnode with⟨n,gn,hxn,hnN⟩|⟨gn,hnN⟩
    ·rw[hnN]at hnext;have hnext:dx5 L0 ((List.range (j+1)).flatMap (rnd p.ns p.es))=dm5 L2 n.vr:=hnext
     cases hsk:s0B n.vr||bx6 L2 n.vr with
     |true=>
      have hL2:=dx8 hsk
      match L2,hsk,hL2,hL2b with
      |[],hsk,hL2,hL2b=>
       dsimp only[fS,gS];have hs0:s0B n.vr=true:=by simpa[bx6]using hsk
       repeat'(first|refine yz ?_|refine yi (co0 n) hxn ?_|refine bm9 [] rfl rfl rfl rfl (FnX.plain _) b69 ((dw4 (s:=n.vr) hs0)) rfl rfl rfl rfl rfl ?_)
       refine ac1 ?_;refine⟨⟨j+1,by omega⟩,by dsimp only;omega,?_⟩;dsimp only;rw[hnext,hL2];exact(zle 2)
      |a::q,hsk,hL2,hL2b=>
       dsimp only[fS,gS]
       repeat'(first|refine yz ?_|refine yi (co0 n) hxn ?_|refine yc [0] b69 (dw6 (l:=a::q) (s:=n.vr) hsk) ?_)
       refine ac1 ?_;refine⟨⟨j+1,by omega⟩,by dsimp only;omega,?_⟩;dsimp only;rw[hnext,hL2];exact(zle 2)
     |false=>
      have hL2:=dx9 hsk
      match L2,hsk,hL2,hL2b with
      |[],hsk,hL2,hL2b=>
       dsimp only[fS,gS];have hs0:s0B n.vr=false:=by simpa[bx6]using hsk
       repeat'(first|refine yz ?_|refine yi (co0 n) hxn ?_|refine bm9 [] rfl rfl rfl rfl (FnX.plain _) b69 ((dw5 (s:=n.vr) hs0)) rfl rfl rfl rfl rfl ?_)
       refine ac1 ?_;refine⟨⟨j+1,by omega⟩,by dsimp only;omega,?_⟩;dsimp only;rw[hnext,hL2];exact(bh0 [2,1])
      |a::q,hsk,hL2,hL2b=>
       dsimp only[fS,gS]
       repeat'(first|refine yz ?_|refine yi (co0 n) hxn ?_|refine ba7 [0] rfl rfl rfl rfl (FnX.plain _) b69 ((dw7 (l:=a::q) (s:=n.vr) hsk (by simp only[fk0]at*;omega))) rfl rfl rfl rfl rfl ?_)
       refine ac1 ?_;refine⟨⟨j+1,by omega⟩,by dsimp only;omega,?_⟩;dsimp only;rw[hnext,hL2];exact(bh0 [2,1])
    ·rw[hnN]at hnext;have hnext:dx5 L0 ((List.range (j+1)).flatMap (rnd p.ns p.es))=L2:=hnext;rcases L2 with _|⟨a,q⟩
     ·dsimp only[fS,gS]
      repeat'(refine yz ?_)
      refine ac1 ?_;refine⟨⟨j+1,by omega⟩,by dsimp only;omega,?_⟩;dsimp only;rw[hnext];exact(zle 2)
     ·dsimp only[fS,gS]
      repeat'(refine yz ?_)
      refine ac1 ?_;refine⟨⟨j+1,by omega⟩,by dsimp only;omega,?_⟩;dsimp only;rw[hnext];exact(zle 2)
  ·have g2:decide ((j:Int)<(max ((p.ns.map co0).length:Int) (((p.es.map co1).length:Int)+1)))=false:=by rw[hMx];simp;omega
   rw[←hlast Oa]at hend;clear hnode hedge hnext hlast hL2b
   cases hsk:s0B p.vr||bx6 L1 p.vr with
   |true=>
    have hL2:=dx8 hsk
    match L1,hsk,hL2,hL1b with
    |[],hsk,hL2,hL1b=>
     dsimp only[fS,gS];have hs0:s0B p.vr=true:=by simpa[bx6]using hsk
     repeat'(first|refine yz ?_|refine bm9 [] rfl rfl rfl rfl (FnX.plain _) b69 ((dw4 (s:=p.vr) hs0)) rfl rfl rfl rfl rfl ?_)
     refine ac1 ?_;refine⟨⟨i+1,by omega⟩,by dsimp only;omega,?_⟩;dsimp only;rw[hend,hL2];exact(zle 1)
    |a::q,hsk,hL2,hL1b=>
     dsimp only[fS,gS]
     repeat'(first|refine yz ?_|refine yc [0] b69 (dw6 (l:=a::q) (s:=p.vr) hsk) ?_)
     refine ac1 ?_;refine⟨⟨i+1,by omega⟩,by dsimp only;omega,?_⟩;dsimp only;rw[hend,hL2];exact(zle 1)
   |false=>
    have hL2:=dx9 hsk
    match L1,hsk,hL2,hL1b with
    |[],hsk,hL2,hL1b=>
     dsimp only[fS,gS];have hs0:s0B p.vr=false:=by simpa[bx6]using hsk
     repeat'(first|refine yz ?_|refine bm9 [] rfl rfl rfl rfl (FnX.plain _) b69 ((dw5 (s:=p.vr) hs0)) rfl rfl rfl rfl rfl ?_)
     refine ac1 ?_;refine⟨⟨i+1,by omega⟩,by dsimp only;omega,?_⟩;dsimp only;rw[hend,hL2];exact(bh0 [2])
    |a::q,hsk,hL2,hL1b=>
     dsimp only[fS,gS]
     repeat'(first|refine yz ?_|refine ba7 [0] rfl rfl rfl rfl (FnX.plain _) b69 ((dw7 (l:=a::q) (s:=p.vr) hsk (by simp only[fk0]at*;omega))) rfl rfl rfl rfl rfl ?_)
     refine ac1 ?_;refine⟨⟨i+1,by omega⟩,by dsimp only;omega,?_⟩;dsimp only;rw[hend,hL2];exact(bh0 [2])
 ·have g1:decide ((i:Int)<((l.map co2).length:Int))=false:=by rw[hle];simp;omega
  rw[fl4 hge];show go _ _ _ (an5 _ _ (.d (.sl ((dx5 [] (dm7 l)).map .str))));generalize dx5 [] (dm7 l)=o at*
  match o with
  |[]=>
   dsimp only[fS,gS];refine bh7 3 rfl ?_
   exact Ok
  |a::q=>
   dsimp only[fS,gS];refine au2 0 rfl ?_;dsimp only[ar6,ar5,ar8,ar7,List.map,List.set]
   exact Ok
end Go.Proofs.YtndgolmgaenlfaaGreatDoor
namespace Go.Proofs.YtndgolmgaenlfaaGreatDoor
set_option maxRecDepth 4000
open Go Go.Abs Go.Val Go.RowKit Go.Proofs.Tryz
mutual
def alB(Q:PB→Prop):Pl→Prop
 |.mk b ks=>Q b∧dy6 Q ks
def dy6(Q:PB→Prop):List Pl→Prop
 |[]=>True
 |p::r=>alB Q p∧dy6 Q r
end
theorem dy7{Q:PB→Prop}:∀{l:List Pl},dy6 Q l→∀p∈l,alB Q p
 |[],_,_,h=>by cases h
 |a::r,h,p,hp=>by
  rw[dy6]at h;rcases fk7.1 hp with rfl|hp
  ·exact h.1
  ·exact dy7 h.2 p hp
theorem dy8(g:Bool)(cols:List ByteArray):∀(l:List IT) (out:List ByteArray),(dn3 g cols l out).2=0→(dn3 g cols l out).1=out++l.map IT.asn
 |[],out,_=>(fq3 out).symm
 |x::r,out,h0=>by
  rw[dn3]at h0 ⊢
  cases c:dn2 g x cols out !=0 with
  |true=>rw[c,cond_true]at h0;rw[show dn2 g x cols out=0 from h0]at c;cases c
  |false=>
   rw[c,cond_false]at h0;rw[cond_false,dy8 g cols r _ h0,fm5,fn7];rfl
def cwB(b:PB):Nat:=b.cj.vs.length+(dm7 b.cl.ps).length+b.it.length+1
mutual
def cwP:Pl→Nat
 |.mk b ks=>cwB b+dy9 ks
def dy9:List Pl→Nat
 |[]=>0
 |p::r=>cwP p+dy9 r
end
theorem dz0:∀{l:List Pl} {p:Pl},p∈l→cwP p≤dy9 l
 |[],_,h=>by cases h
 |a::r,p,h=>by
  rw[dy9];rcases fk7.1 h with rfl|h
  ·omega
  ·have:=dz0 h;omega
def lnS:List (List ByteArray)→Nat
 |[]=>0
 |c::r=>c.length+lnS r
theorem dz1(a b:List ByteArray):(dm4 a b).length≤a.length+b.length:=by
 unfold dm4;have:=fr7 (fun s=> !(bx6 a s)) b;rw[fk1];omega
theorem dz2:∀cols:List (List ByteArray),(cols.getD 0 []).length+(cols.getD 1 []).length≤lnS cols
 |[]=>fl2 _
 |[c]=>by show c.length+0≤c.length+0;omega
 |c::d::r=>by show c.length+d.length≤c.length+(d.length+lnS r);omega
theorem dz3(l:List PA):(dm8 l).length≤(dm7 l).length:=by
 have h:=dx7 (dm7 l) [];unfold dx5 at h;simp only[fk4]at h;unfold dm8;omega
theorem dz4(g:Bool)(cols:List ByteArray)(l:List IT):(dn3 g cols l []).1.length≤l.length:=by
 by_cases h:(dn3 g cols l []).2=0
 ·rw[dy8 g cols l [] h,fm7,fk3];exact fl2 _
 ·rw[dp3 g cols l [] h];exact fl9 _
theorem dz5(e:Int)(c:List ByteArray):(dn6 e c).1.length≤c.length:=by
 unfold dn6
 cases e !=0 with
 |true=>exact fl9 _
 |false=>exact fl2 _
theorem dz6(b:PB)(cols:List (List ByteArray)):(dn7 b cols).1.length≤cwB b+lnS cols:=by
 have h2:=dz2 cols;have hv:=dz3 b.cl.ps;unfold cwB;unfold dn7
 cases dm2 b cols.length with
 |false=>exact fl9 _
 |true=>
 rw[fp8,cond_false]
 cases b.op==1 with
 |true=>exact fl9 _
 |false=>
 rw[cond_false]
 cases b.op==2 with
 |true=>
  rw[cond_true];unfold dm9
  cases dk6 b.cj !=0 with
  |true=>exact fl9 _
  |false=>
   cases b.cj.vs.all fun s=>cm2 s||dm3 s with
   |true=>show b.cj.vs.length≤_;omega
   |false=>exact fl9 _
 |false=>
 rw[cond_false]
 cases b.op==3||b.op==4 with
 |true=>have:=dz1 (cols.getD 0 []) (cols.getD 1 []);show(dm4 _ _).length≤_;omega
 |false=>
 rw[cond_false]
 cases b.op==5 with
 |true=>
  rw[cond_true];have:=dz1 (cols.getD 0 []) (dm8 b.cl.ps);unfold dn1
  cases cr0 b.cl !=0 with
  |true=>exact fl9 _
  |false=>
  cases !((dn0 b.cl.ps).all fun e=>dd2 e (cols.getD 0 []))with
  |true=>exact fl9 _
  |false=>
  cases !(b.cl.wh.all fun e=>dd2 e (dm4 (cols.getD 0 []) (dm8 b.cl.ps)))with
  |true=>exact fl9 _
  |false=>
  cases b.cl.wh.any co7 with
  |true=>exact fl9 _
  |false=>show(dm4 _ _).length≤_;omega
 |false=>
 rw[cond_false]
 cases b.op==6 with
 |true=>have:=dz5 (dd3 b.e (cols.getD 0 [])) (cols.getD 0 []);rw[cond_true];omega
 |false=>
 rw[cond_false]
 cases b.op==7||b.op==8 with
 |true=>
  rw[cond_true];have:=dz4 (b.op==8) (cols.getD 0 []) b.it
  cases decide (b.it.length>24)with
  |true=>exact fl9 _
  |false=>rw[cond_false];omega
 |false=>
 rw[cond_false]
 cases b.op==9 with
 |true=>show(cols.getD 0 []).length≤_;omega
 |false=>
 rw[cond_false]
 cases b.op==10 with
 |true=>have:=dz5 (dn4 (cols.getD 0 []) b.od) (cols.getD 0 []);rw[cond_true];omega
 |false=>
  have:=dz5 (dn5 b (cols.getD 0 [])) (cols.getD 0 []++ [b.nm]);rw[fk1,fk0,fk4]at this;rw[cond_false];omega
theorem dz7(p:Pl):(dn8 p).1.length≤cwP p:=by
 refine dl4 (P:=fun p=>(dn8 p).1.length≤cwP p) (fun b ks ih=>?_) p
 have key:∀l:List Pl,(∀x∈l,(dn8 x).1.length≤cwP x)→lnS (dn9 l).1≤dy9 l:=by
  intro l
  induction l with
  |nil=>intro _;exact fl2 _
  |cons a r ihr=>
   intro h;have h1:=h a Oc;have h2:=ihr fun x hx=>h x (by simp[hx])
   rw[dn9,dy9]
   cases(dn8 a).2 !=0 with
   |true=>exact fl9 _
   |false=>
    cases(dn9 r).2 !=0 with
    |true=>exact fl9 _
    |false=>show(dn8 a).1.length+lnS (dn9 r).1≤_;omega
 have hk:=key ks ih;rw[dn8,cwP]
 cases(dn9 ks).2 !=0 with
 |true=>exact fl9 _
 |false=>
  have:=dz6 b (dn9 ks).1;rw[cond_false];omega
end Go.Proofs.YtndgolmgaenlfaaGreatDoor
namespace Go.Proofs.YtndgolmgaenlfaaGreatDoor
set_option maxRecDepth 4000
open Go Go.Abs Go.Val Go.RowKit Go.Proofs.Tryz
attribute [local irreducible] go SGo an1 Ev au8 EvO EvS RGo PGo
theorem dz8(cols:List ByteArray)(x:PP)(hx:smE x.e):EvS E 66 [.d (cn9 x),.ptr 0 0] [ce4 cols] (.d (.bool (!dd2 x.e cols))) [ce4 cols]:=by
 have h:=dd8 x.e cols hx;refine yn func66 ntmps66 fun _ _ _ _=>?_
 repeat'(first|refine yz ?_|refine yp b62 h ?_|refine bb2 [0] rfl rfl rfl rfl rfl ?_)
 all_goals rfl
theorem dz9(cols:List ByteArray)(l:List PP)(hs:∀x∈l,smE x.e)(hmax:l.length≤9223372036854775807):EvS E 129 [.d (.sl (l.map cn9)),.clo 66 [.ptr 0 0]] [ce4 cols] (.d (.int (ct5 (l.findIdx? fun x=> !dd2 x.e cols)))) [ce4 cols]:=by
 have hle:(l.map cn9).length=l.length:=Oc
 refine yn func129 ntmps129 fun _ _ _ _=>?_
 repeat'(refine yz ?_)
 refine ac7 (α:=SFc l fun x=> !dd2 x.e cols) (fun p=>⟨[(0,.d (.sl (l.map cn9))),(1,.clo 66 [.ptr 0 0]),(7,.d (.int (l.map cn9).length)),(8,.d (.int p.i))],[ce4 cols]⟩) (fun p=>l.length-p.i) ⟨0,by omega,fun j hj=>absurd hj Oa⟩ (zle 1) ?_;rintro⟨i,hi,ok⟩;dsimp only;rcases fj8 i l.length with hlt|hge
 ·have g1:decide ((i:Int)<((l.map cn9).length:Int))=true:=by rw[hle];simpa using hlt
  have hx0:=fj7 hlt;generalize l[i]=x at hx0;have hx:=ct3 (f:=cn9) hx0;have h1:=dz8 cols x (hs x (fj9 hx0))
  cases hc:dd2 x.e cols with
  |false=>
   rw[hc]at h1;rw[ct6 hx0 (show(!dd2 x.e cols)=true by rw[hc];rfl) ok]
   repeat'(first|refine yz ?_|refine yi (cn9 x) hx ?_|refine ba7 [0] rfl rfl rfl rfl (FnX.clo _ _) b66 (h1) rfl rfl rfl rfl rfl ?_|refine bb2 [0] rfl rfl rfl rfl rfl ?_)
   all_goals rfl
  |true=>
   rw[hc]at h1
   repeat'(first|refine yz ?_|refine yi (cn9 x) hx ?_|refine ba7 [0] rfl rfl rfl rfl (FnX.clo _ _) b66 (h1) rfl rfl rfl rfl rfl ?_)
   refine ac1 ?_;exact⟨⟨i+1,by omega,SFc.next hx0 (show(!dd2 x.e cols)=false by rw[hc];rfl) ok⟩,by dsimp only;omega,(zle 1)⟩
 ·have g1:decide ((i:Int)<((l.map cn9).length:Int))=false:=by rw[hle];simp;omega
  rw[ct7 fun j hj=>ok j Oa]
  repeat'(first|refine yz ?_|refine bb2 [0] rfl rfl rfl rfl rfl ?_)
  all_goals rfl
theorem ea0(cols:List ByteArray)(l:List PP)(hs:∀x∈l,smE x.e)(hmax:l.length≤9223372036854775807):EvS E 65 [.d (.sl (l.map cn9)),.clo 66 [.ptr 0 0]] [ce4 cols] (.d (.bool (l.any fun x=> !dd2 x.e cols))) [ce4 cols]:=by
 have h:=dz9 cols l hs hmax;rw[←ct8];refine yn func65 ntmps65 fun _ _ _ _=>?_
 repeat'(first|refine yz ?_|refine yc [0] b129 (h) ?_|refine bb2 [0] rfl rfl rfl rfl rfl ?_)
 all_goals rfl
theorem ea1(cols:List ByteArray)(x:Ex)(hx:smE x):EvS E 68 [.d (by1 x),.ptr 0 0] [ce4 cols] (.d (.bool (!dd2 x cols))) [ce4 cols]:=by
 have h:=dd8 x cols hx;refine yn func68 ntmps68 fun _ _ _ _=>?_
 repeat'(first|refine yz ?_|refine yp b62 h ?_|refine bb2 [0] rfl rfl rfl rfl rfl ?_)
 all_goals rfl
theorem ea2(cols:List ByteArray)(l:List Ex)(hs:∀x∈l,smE x)(hmax:l.length≤9223372036854775807):EvS E 130 [.d (.sl (l.map by1)),.clo 68 [.ptr 0 0]] [ce4 cols] (.d (.int (ct5 (l.findIdx? fun x=> !dd2 x cols)))) [ce4 cols]:=by
 have hle:(l.map by1).length=l.length:=Oc
 refine yn func130 ntmps130 fun _ _ _ _=>?_
 repeat'(refine yz ?_)
 refine ac7 (α:=SFc l fun x=> !dd2 x cols) (fun p=>⟨[(0,.d (.sl (l.map by1))),(1,.clo 68 [.ptr 0 0]),(7,.d (.int (l.map by1).length)),(8,.d (.int p.i))],[ce4 cols]⟩) (fun p=>l.length-p.i) ⟨0,by omega,fun j hj=>absurd hj Oa⟩ (zle 1) ?_;rintro⟨i,hi,ok⟩;dsimp only;rcases fj8 i l.length with hlt|hge
 ·have g1:decide ((i:Int)<((l.map by1).length:Int))=true:=by rw[hle];simpa using hlt
  have hx0:=fj7 hlt;generalize l[i]=x at hx0;have hx:=ct3 (f:=by1) hx0;have h1:=ea1 cols x (hs x (fj9 hx0))
  cases hc:dd2 x cols with
  |false=>
   rw[hc]at h1;rw[ct6 hx0 (show(!dd2 x cols)=true by rw[hc];rfl) ok]
   repeat'(first|refine yz ?_|refine yi (by1 x) hx ?_|refine ba7 [0] rfl rfl rfl rfl (FnX.clo _ _) b68 (h1) rfl rfl rfl rfl rfl ?_|refine bb2 [0] rfl rfl rfl rfl rfl ?_)
   all_goals rfl
  |true=>
   rw[hc]at h1
   repeat'(first|refine yz ?_|refine yi (by1 x) hx ?_|refine ba7 [0] rfl rfl rfl rfl (FnX.clo _ _) b68 (h1) rfl rfl rfl rfl rfl ?_)
   refine ac1 ?_;exact⟨⟨i+1,by omega,SFc.next hx0 (show(!dd2 x cols)=false by rw[hc];rfl) ok⟩,by dsimp only;omega,(zle 1)⟩
 ·have g1:decide ((i:Int)<((l.map by1).length:Int))=false:=by rw[hle];simp;omega
  rw[ct7 fun j hj=>ok j Oa]
  repeat'(first|refine yz ?_|refine bb2 [0] rfl rfl rfl rfl rfl ?_)
  all_goals rfl
theorem ea3(cols:List ByteArray)(l:List Ex)(hs:∀x∈l,smE x)(hmax:l.length≤9223372036854775807):EvS E 67 [.d (.sl (l.map by1)),.clo 68 [.ptr 0 0]] [ce4 cols] (.d (.bool (l.any fun x=> !dd2 x cols))) [ce4 cols]:=by
 have h:=ea2 cols l hs hmax;rw[←ct8];refine yn func67 ntmps67 fun _ _ _ _=>?_
 repeat'(first|refine yz ?_|refine yc [0] b130 (h) ?_|refine bb2 [0] rfl rfl rfl rfl rfl ?_)
 all_goals rfl
theorem ea4:∀a b:List Pl,do1 (a++b)=do1 a+do1 b
 |[],b=>by rw[fm7,do1];omega
 |x::r,b=>by rw[fn1,do1,do1,ea4 r b];omega
theorem ea5{l:List Pl}{i:Nat}{x:Pl}(h:l[i]? =some x):do1 (l.take (i+1))=do1 (l.take i)+szP x:=by
 rw[fm8,h,ea4];show _+do1 [x]=_;rw[do1,do1];omega
theorem ea6(l:List Pl)(i:Nat):do1 (l.take i)≤do1 l:=by
 have h:=ea4 (l.take i) (l.drop i);rw[fp9]at h;omega
structure SPiP(n:Nat) where
 i:Nat
 hi:i≤n
theorem ea7(p:Pl):dl6 p=dl5 p.b (p.ks.map dl6):=by obtain⟨b,ks⟩:=p;exact dl9 b ks
theorem ea8(p:Pl):szP p≤1000000→Ev E 13 [dl6 p] (.d (.int (szP p))):=by
 refine dl4 (P:=fun p=>szP p≤1000000→Ev E 13 [dl6 p] (.d (.int (szP p)))) (fun b ks ih hn=>?_) p;rw[szP]at hn;have hle:(ks.map dl6).length=ks.length:=Oc
 have hkl:=do5 ks;rw[dl9,szP];have hrt:((do1 ks+1:Nat):Int)=1+(do1 ks:Int):=Oa
 rw[hrt];refine ye1 func13 ntmps13 fun _ _ _=>?_
 repeat'(refine yz ?_)
 refine ac7 (α:=SPiP ks.length) (fun p=>⟨[(3,.d (.int (1+(do1 (ks.take p.i):Int)))),(7,.d (.sl (ks.map dl6))),(8,.d (.int (ks.map dl6).length)),(9,.d (.int p.i))],[]⟩) (fun p=>ks.length-p.i) ⟨0,by omega⟩ (zle 0) ?_;rintro⟨i,hi⟩;dsimp only;have hpt:=ea6 ks i;rcases fj8 i ks.length with hlt|hge
 ·have g1:decide ((i:Int)<((ks.map dl6).length:Int))=true:=by rw[hle];simpa using hlt
  have hx0:=fj7 hlt;generalize ks[i]=x at hx0;have hx:=ct3 (f:=dl6) hx0;have hm:=fj9 hx0;have hsx:=do3 hm;have hc:=ih x hm Oa;have ht:=ea5 hx0;have e1:1+(do1 (ks.take i):Int)+(szP x:Int)=1+((do1 (ks.take (i+1)):Nat):Int):=by rw[ht];omega
  rw[ea7]at hx hc
  repeat'(first|refine yz ?_|refine qI (dl5 x.b (x.ks.map dl6)) rfl (ap1 rfl) rfl rfl rfl rfl rfl rfl Oh hx ?_|refine yp b13 hc ?_)
  refine ac1 ?_;refine⟨⟨i+1,by omega⟩,by dsimp only;omega,?_⟩;dsimp only;rw[←e1];exact(zle 0)
 ·have g1:decide ((i:Int)<((ks.map dl6).length:Int))=false:=by rw[hle];simp;omega
  rw[fl4 hge]
  exact Ok
abbrev oLv(l:Int):aa5:=.var 3 (.w (.d (.int l)))
theorem ea9(l:Int)(f:Pl→Bool)(ks:List Pl)(hmax:ks.length≤9223372036854775807)(hf:∀x∈ks,EvS E 35 [.d (dl6 x),.ptr 0 0] [oLv l] (.d (.bool (f x))) [oLv l]):
  EvS E 53 [.d (.sl (ks.map dl6)),.clo 35 [.ptr 0 0]] [oLv l] (.d (.int (ct5 (ks.findIdx? f)))) [oLv l]:=by
 have hle:(ks.map dl6).length=ks.length:=Oc
 refine yn func53 ntmps53 fun _ _ _ _=>?_
 repeat'(refine yz ?_)
 refine ac7 (α:=SFc ks f) (fun p=>⟨[(0,.d (.sl (ks.map dl6))),(1,.clo 35 [.ptr 0 0]),(7,.d (.int (ks.map dl6).length)),(8,.d (.int p.i))],[oLv l]⟩) (fun p=>ks.length-p.i) ⟨0,by omega,fun j hj=>absurd hj Oa⟩ (zle 1) ?_;rintro⟨i,hi,ok⟩;dsimp only;rcases fj8 i ks.length with hlt|hge
 ·have g1:decide ((i:Int)<((ks.map dl6).length:Int))=true:=by rw[hle];simpa using hlt
  have hx0:=fj7 hlt;generalize ks[i]=x at hx0;have hx:=ct3 (f:=dl6) hx0;have h1:=hf x (fj9 hx0);rw[ea7]at hx h1
  cases hc:f x with
  |true=>
   rw[hc]at h1;rw[ct6 hx0 hc ok]
   repeat'(first|refine yz ?_|refine qI (dl5 x.b (x.ks.map dl6)) rfl (ap1 rfl) rfl rfl rfl rfl rfl rfl Oh hx ?_|refine ba7 [0] rfl rfl rfl rfl (FnX.clo _ _) b35 (h1) rfl rfl rfl rfl rfl ?_|refine bb2 [0] rfl rfl rfl rfl rfl ?_)
   all_goals rfl
  |false=>
   rw[hc]at h1
   repeat'(first|refine yz ?_|refine qI (dl5 x.b (x.ks.map dl6)) rfl (ap1 rfl) rfl rfl rfl rfl rfl rfl Oh hx ?_|refine ba7 [0] rfl rfl rfl rfl (FnX.clo _ _) b35 (h1) rfl rfl rfl rfl rfl ?_)
   refine ac1 ?_;exact⟨⟨i+1,by omega,SFc.next hx0 hc ok⟩,by dsimp only;omega,(zle 1)⟩
 ·have g1:decide ((i:Int)<((ks.map dl6).length:Int))=false:=by rw[hle];simp;omega
  rw[ct7 fun j hj=>ok j Oa]
  repeat'(first|refine yz ?_|refine bb2 [0] rfl rfl rfl rfl rfl ?_)
  all_goals rfl
theorem eb0(l:Int)(f:Pl→Bool)(ks:List Pl)(hmax:ks.length≤9223372036854775807)(hf:∀x∈ks,EvS E 35 [.d (dl6 x),.ptr 0 0] [oLv l] (.d (.bool (f x))) [oLv l]):
  EvS E 34 [.d (.sl (ks.map dl6)),.clo 35 [.ptr 0 0]] [oLv l] (.d (.bool (ks.any f))) [oLv l]:=by
 have h:=ea9 l f ks hmax hf;rw[←ct8];refine yn func34 ntmps34 fun _ _ _ _=>?_
 repeat'(first|refine yz ?_|refine yc [0] b53 (h) ?_|refine bb2 [0] rfl rfl rfl rfl rfl ?_)
 all_goals rfl
def dpB(l:Int)(p:Pl):Bool:=decide ((dpP p:Int)>l)
theorem eb1{l:Int}(h:1≤l)(b:PB)(ks:List Pl):dpB l (.mk b ks)=ks.any (dpB (l-1)):=by
  unfold dpB;rw[dpP,fk9,decide_eq_true_eq,fs8]
  have key:∀ks:List Pl,((do0 ks:Int)>l-1)↔∃x∈ks,(dpP x:Int)>l-1:=by
    intro ks
    induction ks with
    |nil=>rw[do0];constructor
          · intro h';omega
          · rintro⟨x,hx,-⟩;cases hx
    |cons a r ih=>
      rw[do0];constructor
      · intro h'
        by_cases h1:(dpP a:Int)>l-1
        · exact⟨a,by simp,h1⟩
        · obtain⟨x,hx,hd⟩:=ih.1 Oa;exact⟨x,by simp[hx],hd⟩
      · rintro⟨x,hx,hd⟩;rcases fk7.1 hx with rfl|hx
        · omega
        · have:=ih.2 ⟨x,hx,hd⟩;omega
  have h1:((do0 ks+1:Nat):Int)>l↔(do0 ks:Int)>l-1:=Oa
  rw[h1,key];simp only[decide_eq_true_eq]
theorem eb2(p:Pl):szP p≤1000000→∀l:Int,-1000≤l→l≤1000→Ev E 22 [dl6 p,.int l] (.d (.bool (dpB l p))):=by
 refine dl4 (P:=fun p=>szP p≤1000000→∀l:Int,-1000≤l→l≤1000→Ev E 22 [dl6 p,.int l] (.d (.bool (dpB l p)))) (fun b ks ih hn l h0 h1=>?_) p;rw[szP]at hn;have hkl:=do5 ks
 cases c1:decide (l<1)with
 |true=>
  have hd:dpB l (.mk b ks)=true:=by
   have:=of_decide_eq_true c1;unfold dpB;rw[dpP,decide_eq_true_eq];omega
  rw[hd,dl9];refine ye2 func22 ntmps22 fun _ _ _=>?_
  exact Ok
 |false=>
  have hl:1≤l:=by have:=of_decide_eq_false c1;omega
  rw[eb1 hl]
  have hc:=eb0 l (dpB (l-1)) ks Oa fun x hx=>by
   have hsx:=do3 hx;have h:=ih x hx Oa (l-1) Oa Oa;rw[ea7]at h ⊢;refine yn func35 ntmps35 fun _ _ _ _=>?_
   repeat'(first|refine yz ?_|refine yp b22 h ?_|refine bb2 [0] rfl rfl rfl rfl rfl ?_)
   all_goals rfl
  rw[dl9];refine ye2 func22 ntmps22 fun _ _ _=>?_
  repeat'(first|refine yz ?_|refine ba6 rfl rfl rfl rfl rfl ?_|refine yc [1] b34 (hc) ?_|refine yx ?_|exact zD)
theorem eb3{C:Cx}{s:St}{r:List It}{fn:Func}{t:Nat}(hr:fn.results= #[.tmp t])(h:lk s.tm t=.zc):go C (.code .ret::r) s (an5 C fn .zc):=by
 refine ac3 ?_;intro F σ w a hi hn hm hs;have h1:=hs t;rw[h]at h1;refine⟨a.tmps.getD t undef,F,?_,fun _ h=>h,fun b hb=>⟨hi.flt b hb,hn b hb⟩,h1⟩;have h2:(an8 a (.tmp t)).run C.E.P w=.ok (a.tmps.getD t undef) w:=by simp only[an8,Sem.run_pure]
 rw[ao0,hr];simp[h2]
theorem eb4:Ev E 45 [.sl []] .zc:=by
 refine ye1 func45 ntmps45 fun _ _ _=>?_
 repeat'(first|(refine bm5 2 rfl ?_)|(refine bm2 ?_)|(refine bm3 ?_)|(refine eb3 rfl rfl)|refine yz ?_|(refine aw8 rfl (fun _=>?_) ?_))
structure SBoP(b:List ByteArray) where
 i:Nat
 hi:i≤b.length
def joi(a b:List ByteArray)(i:Nat):List ByteArray:=a++(b.take i).filter fun s=> !(bx6 a s)
theorem eb5{a b:List ByteArray}{i:Nat}{x:ByteArray}(h:b[i]? =some x):joi a b (i+1)=bif bx6 a x then joi a b i else joi a b i++ [x]:=by
 unfold joi;rw[fm8,h]
 cases hc:bx6 a x with
 |true=>simp[hc]
 |false=>simp[hc]
theorem eb6(a b:List ByteArray)(i:Nat):(joi a b i).length≤a.length+b.length:=by
 unfold joi;have h1:=fr7 (fun s=> !(bx6 a s)) (b.take i);have h2:(b.take i).length≤b.length:=by rw[fm4];omega
 rw[fk1];omega
theorem eb7(a b:List ByteArray)(ha:a.length≤1000000)(hb:b.length≤1000000):Ev E 38 [.sl (a.map .str),.sl (b.map .str)] (.d (.sl ((dm4 a b).map .str))):=by
 have hle:(b.map D.str).length=b.length:=Oc
 have hle1:(a.map D.str).length=a.length:=Oc
 have hj:dm4 a b=joi a b b.length:=by unfold dm4 joi;rw[List.take_length]
 rw[hj]
 by_cases h0:a=[]
 ·subst h0;have hz:=eb4;refine ye2 func38 ntmps38 fun _ _ _=>?_
  repeat'(first|refine yz ?_|refine yp b45 hz ?_)
  refine ac7 (α:=SBoP b) (fun p=>⟨[(0,.d (.sl [])),(5,bm7 0 ((joi [] b p.i).map .str)),(10,.d (.sl (b.map .str))),(11,.d (.int (b.map D.str).length)),(12,.d (.int p.i))],aw7 9 1 ((joi [] b p.i).map .str)⟩) (fun p=>b.length-p.i) ⟨0,by omega⟩ (zle 0) ?_;rintro⟨i,hi⟩;dsimp only;have hol:=eb6 [] b i;rcases fj8 i b.length with hlt|hge
  ·have g1:decide ((i:Int)<((b.map D.str).length:Int))=true:=by rw[hle];simpa using hlt
   have hx0:=fj7 hlt;generalize b[i]=x at hx0;have hx:=ct3 (f:=D.str) hx0;have hc:=ca3 [] x;have hat:=eb5 (a:=[]) hx0
   cases hh:bx6 [] x with
   |true=>simp[bx6]at hh
   |false=>
    rw[hh,cond_false]at hat;rw[hh]at hc;generalize joi [] b i=o at*
    match o,hol with
    |[],hol=>
     dsimp only[bm7,aw7,List.map]
     repeat'(first|refine yz ?_|refine yi (.str x) hx ?_|refine yp b60 hc ?_|(refine bm4 ?_ ?_;exact⟨by simp,fun d hd=>by(obtain rfl:=fk8.1 hd;rfl),by(show 1*16≤140737488355328;omega),by(show 1≤9223372036854775807;omega)⟩))
     refine ac1 ?_;refine⟨⟨i+1,by omega⟩,by dsimp only;omega,?_⟩;dsimp only;rw[hat];exact(bh0 [0])
    |y::q,hol=>
     dsimp only[bm7,aw7,List.map]
     repeat'(first|refine yz ?_|refine yi (.str x) hx ?_|refine yp b60 hc ?_|(refine qS rfl ⟨by simp,fun d hd=>by(obtain rfl:=fk8.1 hd;rfl),by(show _*16≤140737488355328;simp;simp only[fk0]at hol;omega),by(show _≤9223372036854775807;simp;simp only[fk0]at hol;omega)⟩ ?_))
     refine ac1 ?_;refine⟨⟨i+1,by omega⟩,by dsimp only;omega,?_⟩;dsimp only;rw[hat,dy4];exact(bh0 [1])
  ·have g1:decide ((i:Int)<((b.map D.str).length:Int))=false:=by rw[hle];simp;omega
   obtain rfl:i=b.length:=Oa
   generalize joi [] b b.length=o at*
   match o with
   |[]=>
    dsimp only[bm7,aw7,List.map];refine bm6 5 rfl ?_
    exact Ok
   |y::q=>
    dsimp only[bm7,aw7,List.map];refine au2 0 rfl ?_;dsimp only[ar6,ar5,ar8,ar7,List.map,List.set]
    exact Ok
 ·have hz:=dv2 a h0 Oa;refine ye2 func38 ntmps38 fun _ _ _=>?_
  repeat'(first|refine yz ?_|refine ax1 rfl rfl rfl rfl rfl rfl b45 (hz) ?_)
  refine ac7 (α:=SBoP b) (fun p=>⟨[(0,.d (.sl (a.map .str))),(5,bm7 0 ((joi a b p.i).map .str)),(10,.d (.sl (b.map .str))),(11,.d (.int (b.map D.str).length)),(12,.d (.int p.i))],aw7 9 1 ((joi a b p.i).map .str)⟩) (fun p=>b.length-p.i) ⟨0,by omega⟩ (by
   have e0:joi a b 0=a:=by unfold joi;simp
   dsimp only;rw[e0]
   match a,h0 with
   |x::r,_=>exact(zle 1)) ?_
  rintro⟨i,hi⟩;dsimp only;have hol:=eb6 a b i;rcases fj8 i b.length with hlt|hge
  ·have g1:decide ((i:Int)<((b.map D.str).length:Int))=true:=by rw[hle];simpa using hlt
   have hx0:=fj7 hlt;generalize b[i]=x at hx0;have hx:=ct3 (f:=D.str) hx0;have hc:=ca3 a x;have hat:=eb5 (a:=a) hx0
   cases hh:bx6 a x with
   |true=>
    rw[hh,cond_true]at hat;rw[hh]at hc;generalize joi a b i=o at*
    match o with
    |[]=>
     dsimp only[bm7,aw7,List.map]
     repeat'(first|refine yz ?_|refine yi (.str x) hx ?_|refine yp b60 hc ?_)
     refine ac1 ?_;refine⟨⟨i+1,by omega⟩,by dsimp only;omega,?_⟩;dsimp only;rw[hat];exact(zle 0)
    |y::q=>
     dsimp only[bm7,aw7,List.map]
     repeat'(first|refine yz ?_|refine yi (.str x) hx ?_|refine yp b60 hc ?_)
     refine ac1 ?_;refine⟨⟨i+1,by omega⟩,by dsimp only;omega,?_⟩;dsimp only;rw[hat];exact(zle 1)
   |false=>
    rw[hh,cond_false]at hat;rw[hh]at hc;generalize joi a b i=o at*
    match o,hol with
    |[],hol=>
     dsimp only[bm7,aw7,List.map]
     repeat'(first|refine yz ?_|refine yi (.str x) hx ?_|refine yp b60 hc ?_|(refine bm4 ?_ ?_;exact⟨by simp,fun d hd=>by(obtain rfl:=fk8.1 hd;rfl),by(show 1*16≤140737488355328;omega),by(show 1≤9223372036854775807;omega)⟩))
     refine ac1 ?_;refine⟨⟨i+1,by omega⟩,by dsimp only;omega,?_⟩;dsimp only;rw[hat];exact(bh0 [0])
    |y::q,hol=>
     dsimp only[bm7,aw7,List.map]
     repeat'(first|refine yz ?_|refine yi (.str x) hx ?_|refine yp b60 hc ?_|(refine qS rfl ⟨by simp,fun d hd=>by(obtain rfl:=fk8.1 hd;rfl),by(show _*16≤140737488355328;simp;simp only[fk0]at hol;omega),by(show _≤9223372036854775807;simp;simp only[fk0]at hol;omega)⟩ ?_))
     refine ac1 ?_;refine⟨⟨i+1,by omega⟩,by dsimp only;omega,?_⟩;dsimp only;rw[hat,dy4];exact(bh0 [1])
  ·have g1:decide ((i:Int)<((b.map D.str).length:Int))=false:=by rw[hle];simp;omega
   obtain rfl:i=b.length:=Oa
   generalize joi a b b.length=o at*
   match o with
   |[]=>
    dsimp only[bm7,aw7,List.map];refine bm6 5 rfl ?_
    exact Ok
   |y::q=>
    dsimp only[bm7,aw7,List.map];refine au2 0 rfl ?_;dsimp only[ar6,ar5,ar8,ar7,List.map,List.set]
    exact Ok
attribute [local irreducible] RGw
abbrev oPlB(b:PB)(K:List D):aa5:=.var 40 (.w (.d (dl5 b K)))
def eb8(p:Pl):D:=.sl ((dn8 p).1.map .str)
theorem eb9:∀{ks:List Pl} {i:Nat} {x:Pl},ks[i]? =some x→(∀p∈ks.take i,(dn8 p).2=0)→(dn8 x).2≠0→dn9 ks=([],(dn8 x).2)
 |[],_,_,h,_,_=>by cases h
 |p::r,0,x,h,_,hx=>by
  obtain rfl:p=x:=by simpa using h
  rw[dn9,show((dn8 p).2 !=0)=true by simpa using hx,cond_true]
 |p::r,i+1,x,h,h0,hx=>by
  have ih:=eb9 (ks:=r) (i:=i) (x:=x) (by simpa using h) (fun q hq=>h0 q (by simp[hq])) hx;rw[dn9,h0 p Oc,ih,show((dn8 x).2 !=0)=true by simpa using hx];rfl
theorem ec0:∀{ks:List Pl},(∀p∈ks,(dn8 p).2=0)→dn9 ks=(ks.map fun p=>(dn8 p).1,0)
 |[],_=>rfl
 |p::r,h=>by
  rw[dn9,h p Oc,ec0 fun q hq=>h q (by simp[hq])];rfl
structure SiC(ks:List Pl) where
 i:Nat
 hi:i≤ks.length
 ok:∀p∈ks.take i,(dn8 p).2=0
structure SmB(b:PB):Prop where
 vs:b.cj.vs.length≤1000000
 at_:b.cj.as.length≤1000000
 ln:ds8 b.cl≤1000000000000
 e:smE b.e
 it:∀x∈b.it,smE x.e
 od:∀x∈b.od,smE x.e
 nm:(dm7 b.cl.ps).length≤900000
 ne:∀p∈b.cl.ps,p.ns.length≤1000000∧p.es.length≤1000000
 ap:b.op=5→∀cols:List ByteArray,cols.length≤1000000→Ev E 40 [co6 b.cl,.sl (cols.map .str)] (.d (.int (dn1 b.cl cols).2))
theorem ec1{op:Int}{n:Nat}(h:dm0 op=n):(op=1∧n=0)∨(op=2∧n=0)∨(op=3∧n=2)∨(op=4∧n=2)∨(op=5∧n=1)∨(op=6∧n=1)∨(op=7∧n=1)∨(op=8∧n=1)∨(op=9∧n=1)∨(op=10∧n=1)∨(op=11∧n=1):=by
 unfold dm0 at h
 cases c1:op==1||op==2 with
 |true=>
  rw[c1,cond_true]at h;have hn:n=0:=Oa
  have ho:op=1∨op=2:=by simpa using c1
  subst hn;rcases ho with rfl|rfl<;>simp
 |false=>
 cases c2:op==3||op==4 with
 |true=>
  rw[c1,c2]at h;have h:(2:Int)=n:=h;have hn:n=2:=Oa
  have ho:op=3∨op=4:=by simpa using c2
  subst hn;rcases ho with rfl|rfl<;>simp
 |false=>
 cases c3:decide (op≥5) &&decide (op≤11)with
 |true=>
  rw[c1,c2,c3]at h;have h:(1:Int)=n:=h;have hn:n=1:=Oa
  have h5:op≥5∧op≤11:=by simpa using c3
  have ho:op=5∨op=6∨op=7∨op=8∨op=9∨op=10∨op=11:=Oa
  subst hn;rcases ho with rfl|rfl|rfl|rfl|rfl|rfl|rfl<;>simp
 |false=>
  rw[c1,c2,c3]at h;have h:(-1:Int)=n:=h;exact absurd h Oa
theorem ec2{b:PB}{cols:List (List ByteArray)}(h:dm2 b cols.length=true):dn7 b cols=
  bif b.op==1 then([],0)else bif b.op==2 then dm9 b.cj else bif b.op==3||b.op==4 then(dm4 (cols.getD 0 []) (cols.getD 1 []),0)else
  bif b.op==5 then dn1 b.cl (cols.getD 0 [])else bif b.op==6 then dn6 (dd3 b.e (cols.getD 0 [])) (cols.getD 0 [])else
  bif b.op==7||b.op==8 then(bif decide (b.it.length>24)then erR 4 else dn3 (b.op==8) (cols.getD 0 []) b.it [])else bif b.op==9 then(cols.getD 0 [],0)else
  bif b.op==10 then dn6 (dn4 (cols.getD 0 []) b.od) (cols.getD 0 [])else dn6 (dn5 b (cols.getD 0 [])) (cols.getD 0 []++ [b.nm]):=by
 unfold dn7;rw[h,fp8,cond_false]
theorem ec3{c:CL}{cols:List ByteArray}(h:(dn1 c cols).2=0):dn1 c cols=(dm4 cols (dm8 c.ps),0):=by
 unfold dn1 at h ⊢
 cases c1:cr0 c !=0 with
 |true=>rw[c1,cond_true]at h;rw[show cr0 c=0 from h]at c1;cases c1
 |false=>
 cases c2: !((dn0 c.ps).all fun e=>dd2 e cols)with
 |true=>rw[c1,c2]at h;exact absurd (show(6:Int)=0 from h) Od
 |false=>
 cases c3: !(c.wh.all fun e=>dd2 e (dm4 cols (dm8 c.ps)))with
 |true=>rw[c1,c2,c3]at h;exact absurd (show(6:Int)=0 from h) Od
 |false=>
 cases c4:c.wh.any co7 with
 |true=>rw[c1,c2,c3,c4]at h;exact absurd (show(9:Int)=0 from h) Od
 |false=>rfl
theorem ec4{c:CL}{cols:List ByteArray}(h:(dn1 c cols).2≠0):(dn1 c cols).1=[]:=by
 unfold dn1 at h ⊢
 cases c1:cr0 c !=0 with
 |true=>rfl
 |false=>
 cases c2: !((dn0 c.ps).all fun e=>dd2 e cols)with
 |true=>rfl
 |false=>
 cases c3: !(c.wh.all fun e=>dd2 e (dm4 cols (dm8 c.ps)))with
 |true=>rfl
 |false=>
 cases c4:c.wh.any co7 with
 |true=>rfl
 |false=>rw[c1,c2,c3,c4]at h;exact absurd rfl h
set_option maxHeartbeats 8000000 in
theorem ec5(p:Pl):alB SmB p→szP p≤1000000→cwP p≤1000000→Ev E 23 [dl6 p] (.tup [.sl ((dn8 p).1.map .str),.int (dn8 p).2]):=by
 refine dl4 (P:=fun p=>alB SmB p→szP p≤1000000→cwP p≤1000000→Ev E 23 [dl6 p] (.tup [.sl ((dn8 p).1.map .str),.int (dn8 p).2])) (fun b ks ih hs hz hw=>?_) p;rw[alB]at hs;rw[szP]at hz;rw[cwP]at hw;have hks:=dy7 hs.2;have hkl:=do5 ks;have hsb:=hs.1;have hle:(ks.map dl6).length=ks.length:=Oc
 have hf:=dt5 b (ks.map dl6) (by rw[hle];omega) (by have:=hsb.vs;have:=hsb.at_;omega) hsb.ln;rw[dl9];generalize hR:dn8 (.mk b ks)=R;refine ye1 func23 ntmps23 fun _ _ _=>?_
 repeat'(refine yz ?_)
 refine ac7 (α:=SiC ks) (fun q=>⟨[(1,.ptr 0 0),(4,bf9 1 ((ks.take q.i).map eb8)),(12,.d (.sl (ks.map dl6))),(13,.d (.int (ks.map dl6).length)),(14,.d (.int q.i))],[oPlB b (ks.map dl6)]++aw7 23 1 ((ks.take q.i).map eb8)⟩) (fun q=>ks.length-q.i) ⟨0,by omega,fun _ h=>by cases h⟩ (zle 1) ?_;rintro⟨i,hi,ok⟩;dsimp only;rcases fj8 i ks.length with hlt|hge
 ·have g1:decide ((i:Int)<((ks.map dl6).length:Int))=true:=by rw[hle];simpa using hlt
  have hx0:=fj7 hlt;generalize ks[i]=x at hx0;have hx:=ct3 (f:=dl6) hx0;have hm:=fj9 hx0;have hsx:=do3 hm;have hwx:=dz0 hm;have hc:=ih x hm (hks x hm) Oa Oa;have htk:(ks.take (i+1)).map eb8=(ks.take i).map eb8++ [eb8 x]:=by rw[fm8,hx0,fo8];rfl
  have hln:((ks.take i).map eb8).length≤1000000:=by rw[fk3,fm4];omega
  rw[ea7]at hx hc
  cases hz0:(dn8 x).2 !=0 with
  |true=>
   have hne:(dn8 x).2≠0:=by simpa using hz0
   have hR2:R=erR (dn8 x).2:=by
    rw[←hR,dn8,eb9 hx0 ok hne,show((([]:List (List ByteArray)),(dn8 x).2).2 !=0)=true from hz0];rfl
   subst hR2;generalize(dn8 x).2=z at*;clear htk
   match(ks.take i).map eb8 with
   |[]=>
    dsimp only[bf9,aw7,List.append,HAppend.hAppend,Append.append]
    repeat'(first|refine yz ?_|refine qI (dl5 x.b (x.ks.map dl6)) rfl (ap1 rfl) rfl rfl rfl rfl rfl rfl Oh hx ?_|refine yp b23 hc ?_|exact zL)
   |d::r=>
    dsimp only[bf9,aw7,List.append,HAppend.hAppend,Append.append]
    repeat'(first|refine yz ?_|refine qI (dl5 x.b (x.ks.map dl6)) rfl (ap1 rfl) rfl rfl rfl rfl rfl rfl Oh hx ?_|refine yp b23 hc ?_|exact zL)
  |false=>
   have h0:(dn8 x).2=0:=by simpa using hz0
   rw[h0]at hc
   have hok:∀p∈ks.take (i+1),(dn8 p).2=0:=by
    intro p hp;rw[fm8,hx0]at hp;rcases fm1.1 hp with hp|hp
    ·exact ok p hp
    ·obtain rfl:p=x:=by simpa using hp
     exact h0
   generalize(ks.take i).map eb8=K at*
   match K with
   |[]=>
    dsimp only[bf9,aw7,List.append,HAppend.hAppend,Append.append]
    repeat'(first|refine yz ?_|refine qI (dl5 x.b (x.ks.map dl6)) rfl (ap1 rfl) rfl rfl rfl rfl rfl rfl Oh hx ?_|refine yp b23 hc ?_|(refine qS rfl ⟨by simp,fun d hd=>by(obtain rfl:=fk8.1 hd;rfl),by(show _*24≤140737488355328;simp<;>omega),by(show _≤9223372036854775807;simp<;>omega)⟩ ?_))
    refine ac1 ?_;refine⟨⟨i+1,by omega,hok⟩,by dsimp only;omega,?_⟩;dsimp only;rw[htk];exact(bh0 [0,2])
   |d::r=>
    have hr:r.length≤999999:=by simp only[fk0]at hln;omega
    dsimp only[bf9,aw7,List.append,HAppend.hAppend,Append.append]
    repeat'(first|refine yz ?_|refine qI (dl5 x.b (x.ks.map dl6)) rfl (ap1 rfl) rfl rfl rfl rfl rfl rfl Oh hx ?_|refine yp b23 hc ?_|(refine qS rfl ⟨by simp,fun d hd=>by(obtain rfl:=fk8.1 hd;rfl),by(show _*24≤140737488355328;simp<;>omega),by(show _≤9223372036854775807;simp<;>omega)⟩ ?_))
    refine ac1 ?_;refine⟨⟨i+1,by omega,hok⟩,by dsimp only;omega,?_⟩;dsimp only;rw[htk];exact(bh0 [0,3])
 ·have g1:decide ((i:Int)<((ks.map dl6).length:Int))=false:=by rw[hle];simp;omega
  have hall:∀p∈ks,(dn8 p).2=0:=by rw[fl4 hge]at ok;exact ok
  have hsel:R=dn7 b (ks.map fun p=>(dn8 p).1):=by rw[←hR,dn8,ec0 hall];rfl
  have hcw:∀p∈ks,(dn8 p).1.length≤1000000:=fun p hp=>by have h1:=dz7 p;have h2:=dz0 hp;omega
  rw[fl4 hge];clear hge ok hR ih hks hall hi;rw[hle]at hf
  cases hfm:dm2 b ks.length with
  |false=>
   have hR:R=([],25):=by rw[hsel];unfold dn7;rw[fk3,hfm];rfl
   subst hR;rw[hfm]at hf;clear hsel hcw;generalize ks.map eb8=K at*
   match K with
   |[]=>
    dsimp only[bf9,aw7,List.append,HAppend.hAppend,Append.append]
    repeat'(first|refine yz ?_|refine yp b36 hf ?_|exact zL)
   |d::r=>
    dsimp only[bf9,aw7,List.append,HAppend.hAppend,Append.append]
    repeat'(first|refine yz ?_|refine yp b36 hf ?_|exact zL)
  |true=>
   rw[hfm]at hf;have hse:=ec2 (b:=b) (cols:=ks.map fun p=>(dn8 p).1) (by rw[fk3];exact hfm);rw[hse]at hsel;clear hse;have hko:=ec1 (do9 hfm);clear hfm;obtain⟨op,cj,cl,e,nm,it,od,sk,lm⟩:=b;dsimp only at hko hsel;rcases hko with⟨rfl,hn⟩|⟨rfl,hn⟩|⟨rfl,hn⟩|⟨rfl,hn⟩|⟨rfl,hn⟩|⟨rfl,hn⟩|⟨rfl,hn⟩|⟨rfl,hn⟩|⟨rfl,hn⟩|⟨rfl,hn⟩|⟨rfl,hn⟩
   ·-- op 1
    obtain rfl:ks=[]:=fu4.1 hn;obtain rfl:R=([],0):=hsel
    repeat'(first|refine yz ?_|refine yp b36 hf ?_|exact zL)
   ·-- op 2
    obtain rfl:ks=[]:=fu4.1 hn;have hm:=dv8 cj hsb.vs;obtain rfl:R=dm9 cj:=hsel;generalize dm9 cj=z at*
    repeat'(first|refine yz ?_|refine yp b36 hf ?_|refine yp b37 hm ?_|exact zL)
   ·-- op 3
    obtain⟨k,l,rfl⟩:∃k l,ks=[k,l]:=by(match ks,hn with|[k,l],_=>exact⟨k,l,rfl⟩)
    have hcl:=hcw k Oc;have hcl2:=hcw l Oc;dsimp only[List.map,eb8,bf9,aw7,List.append,HAppend.hAppend,Append.append,List.getD_cons_zero]at*;generalize(dn8 k).1=c at*;generalize(dn8 l).1=d at*;have hk0:([D.sl (c.map D.str),D.sl (d.map D.str)]:List D)[((0:Int)).toNat]? =some (.sl (c.map .str)):=rfl;have hk1:([D.sl (c.map D.str),D.sl (d.map D.str)]:List D)[((1:Int)).toNat]? =some (.sl (d.map .str)):=rfl;have hj:=eb7 c d hcl hcl2;obtain rfl:R=(dm4 c d,0):=hsel;generalize dm4 c d=z at*
    repeat'(first|refine yz ?_|refine yp b36 hf ?_|(refine qS rfl ?_ ?_;exact⟨by decide,by(simp<;>omega)⟩)|refine qW (.sl (c.map .str)) rfl rfl rfl rfl rfl rfl hk0 rfl ?_|refine qW (.sl (d.map .str)) rfl rfl rfl rfl rfl rfl hk1 rfl ?_|refine yp b38 hj ?_|exact zL)
   ·-- op 4
    obtain⟨k,l,rfl⟩:∃k l,ks=[k,l]:=by(match ks,hn with|[k,l],_=>exact⟨k,l,rfl⟩)
    have hcl:=hcw k Oc;have hcl2:=hcw l Oc;dsimp only[List.map,eb8,bf9,aw7,List.append,HAppend.hAppend,Append.append,List.getD_cons_zero]at*;generalize(dn8 k).1=c at*;generalize(dn8 l).1=d at*;have hk0:([D.sl (c.map D.str),D.sl (d.map D.str)]:List D)[((0:Int)).toNat]? =some (.sl (c.map .str)):=rfl;have hk1:([D.sl (c.map D.str),D.sl (d.map D.str)]:List D)[((1:Int)).toNat]? =some (.sl (d.map .str)):=rfl;have hj:=eb7 c d hcl hcl2;obtain rfl:R=(dm4 c d,0):=hsel;generalize dm4 c d=z at*
    repeat'(first|refine yz ?_|refine yp b36 hf ?_|(refine qS rfl ?_ ?_;exact⟨by decide,by(simp<;>omega)⟩)|refine qW (.sl (c.map .str)) rfl rfl rfl rfl rfl rfl hk0 rfl ?_|refine qW (.sl (d.map .str)) rfl rfl rfl rfl rfl rfl hk1 rfl ?_|refine yp b38 hj ?_|exact zL)
   all_goals(obtain⟨k,rfl⟩:=List.length_eq_one_iff.1 hn;have hcl:=hcw k Oc;dsimp only[List.map,eb8,bf9,aw7,List.append,HAppend.hAppend,Append.append,List.getD_cons_zero]at*;generalize(dn8 k).1=c at*;have hk0:([D.sl (c.map D.str)]:List D)[((0:Int)).toNat]? =some (.sl (c.map .str)):=rfl)
   ·-- op 5
    have h5:=hsb.ap rfl c hcl;have hv:=dy5 cl.ps hsb.nm hsb.ne;have hvl:=dz3 cl.ps;have hnm:=hsb.nm;have hj:=eb7 c (dm8 cl.ps) hcl (by dsimp only at hnm;omega);have hR:R=dn1 cl c:=hsel;dsimp only at h5
    cases hz0:(dn1 cl c).2 !=0 with
    |true=>
     have hR2:R=([],(dn1 cl c).2):=by rw[hR];exact Prod.ext (ec4 (by simpa using hz0)) rfl
     subst hR2;clear hR hsel;generalize(dn1 cl c).2=z at*;generalize dm4 c (dm8 cl.ps)=j at*;generalize dm8 cl.ps=v at*
     repeat'(first|refine yz ?_|refine yp b36 hf ?_|(refine qS rfl ?_ ?_;exact⟨by decide,by(simp<;>omega)⟩)|refine qW (.sl (c.map .str)) rfl rfl rfl rfl rfl rfl hk0 rfl ?_|refine yp b40 h5 ?_|refine yp b41 hv ?_|refine yp b38 hj ?_|exact zL)
    |false=>
     have hz1:(dn1 cl c).2=0:=by simpa using hz0
     rw[hz1]at h5;rw[ec3 hz1]at hR;subst hR;clear hsel;generalize dm4 c (dm8 cl.ps)=j at*;generalize dm8 cl.ps=v at*
     repeat'(first|refine yz ?_|refine yp b36 hf ?_|(refine qS rfl ?_ ?_;exact⟨by decide,by(simp<;>omega)⟩)|refine qW (.sl (c.map .str)) rfl rfl rfl rfl rfl rfl hk0 rfl ?_|refine yp b40 h5 ?_|refine yp b41 hv ?_|refine yp b38 hj ?_|exact zL)
   ·-- op 6
    have hx:=dd9 e c (dv4 hsb.e) hsb.e
    cases hz0:dd3 e c !=0 with
    |true=>
     have hR2:R=([],dd3 e c):=by rw[hsel];show dn6 (dd3 e c) c=_;unfold dn6;rw[hz0];rfl
     subst hR2;clear hsel;generalize dd3 e c=z at*
     repeat'(first|refine yz ?_|refine yp b36 hf ?_|(refine qS rfl ?_ ?_;exact⟨by decide,by(simp<;>omega)⟩)|refine qW (.sl (c.map .str)) rfl rfl rfl rfl rfl rfl hk0 rfl ?_|refine yp b42 hx ?_|exact zL)
    |false=>
     have hz1:dd3 e c=0:=by simpa using hz0
     have hR2:R=(c,0):=by rw[hsel];show dn6 (dd3 e c) c=_;unfold dn6;rw[hz0];rfl
     subst hR2;rw[hz1]at hx;clear hsel
     repeat'(first|refine yz ?_|refine yp b36 hf ?_|(refine qS rfl ?_ ?_;exact⟨by decide,by(simp<;>omega)⟩)|refine qW (.sl (c.map .str)) rfl rfl rfl rfl rfl rfl hk0 rfl ?_|refine yp b42 hx ?_|exact zL)
   ·-- op 7
    have hi:=dw1 ⟨7,cj,cl,e,nm,it,od,sk,lm⟩ [dl6 k] c hsb.it;dsimp only at hi;have hR:R=(bif decide (it.length>24)then erR 4 else dn3 ((7:Int)==8) c it []):=hsel;rw[←hR]at hi;clear hR hsel
    repeat'(first|refine yz ?_|refine yp b36 hf ?_|(refine qS rfl ?_ ?_;exact⟨by decide,by(simp<;>omega)⟩)|refine qW (.sl (c.map .str)) rfl rfl rfl rfl rfl rfl hk0 rfl ?_|refine yp b39 hi ?_|exact zL)
   ·-- op 8
    have hi:=dw1 ⟨8,cj,cl,e,nm,it,od,sk,lm⟩ [dl6 k] c hsb.it;dsimp only at hi;have hR:R=(bif decide (it.length>24)then erR 4 else dn3 ((8:Int)==8) c it []):=hsel;rw[←hR]at hi;clear hR hsel
    repeat'(first|refine yz ?_|refine yp b36 hf ?_|(refine qS rfl ?_ ?_;exact⟨by decide,by(simp<;>omega)⟩)|refine qW (.sl (c.map .str)) rfl rfl rfl rfl rfl rfl hk0 rfl ?_|refine yp b39 hi ?_|exact zL)
   ·-- op 9
    obtain rfl:R=(c,0):=hsel
    repeat'(first|refine yz ?_|refine yp b36 hf ?_|(refine qS rfl ?_ ?_;exact⟨by decide,by(simp<;>omega)⟩)|refine qW (.sl (c.map .str)) rfl rfl rfl rfl rfl rfl hk0 rfl ?_|exact zL)
   ·-- op 10
    have hx:=dv6 od c hsb.od
    cases hz0:dn4 c od !=0 with
    |true=>
     have hR2:R=([],dn4 c od):=by rw[hsel];show dn6 (dn4 c od) c=_;unfold dn6;rw[hz0];rfl
     subst hR2;clear hsel;generalize dn4 c od=z at*
     repeat'(first|refine yz ?_|refine yp b36 hf ?_|(refine qS rfl ?_ ?_;exact⟨by decide,by(simp<;>omega)⟩)|refine qW (.sl (c.map .str)) rfl rfl rfl rfl rfl rfl hk0 rfl ?_|refine yp b43 hx ?_|exact zL)
    |false=>
     have hz1:dn4 c od=0:=by simpa using hz0
     have hR2:R=(c,0):=by rw[hsel];show dn6 (dn4 c od) c=_;unfold dn6;rw[hz0];rfl
     subst hR2;rw[hz1]at hx;clear hsel
     repeat'(first|refine yz ?_|refine yp b36 hf ?_|(refine qS rfl ?_ ?_;exact⟨by decide,by(simp<;>omega)⟩)|refine qW (.sl (c.map .str)) rfl rfl rfl rfl rfl rfl hk0 rfl ?_|refine yp b43 hx ?_|exact zL)
   ·-- op 11
    have hx:=dv7 ⟨11,cj,cl,e,nm,it,od,sk,lm⟩ [dl6 k] c hsb.e
    by_cases h0:c=[]
    ·subst h0;have hcl2:=eb4
     cases hz0:dn5 ⟨11,cj,cl,e,nm,it,od,sk,lm⟩ [] !=0 with
     |true=>
      have hR2:R=([],dn5 ⟨11,cj,cl,e,nm,it,od,sk,lm⟩ []):=by rw[hsel];show dn6 (dn5 ⟨11,cj,cl,e,nm,it,od,sk,lm⟩ []) ([]++ [nm])=_;unfold dn6;rw[hz0];rfl
      subst hR2;clear hsel;generalize dn5 ⟨11,cj,cl,e,nm,it,od,sk,lm⟩ []=z at*
      repeat'(first|refine bh4 (id:=34) [5] [] Ob Ob Oj ?_|refine reF (id:=34) (i:=0) 5 Ob rfl ?_|refine reF (id:=34) (i:=6) 1 Ob rfl ?_|refine reN ?_|refine yz ?_|refine yp b36 hf ?_|(refine qS rfl ?_ ?_;exact⟨by decide,by(simp<;>omega)⟩)|refine qW (.sl (([]:List ByteArray).map .str)) rfl rfl rfl rfl rfl rfl hk0 rfl ?_|refine yp b44 hx ?_|refine yp b45 hcl2 ?_|refine reZ (id:=34) (i:=5) (⟨by simp,fun d hd=>by(obtain rfl:=fk8.1 hd;rfl),by(show 1*16≤140737488355328;omega),by(show 1≤9223372036854775807;omega)⟩) rfl rfl rfl rfl rfl rfl rfl rfl rfl rfl Oj ?_|exact zL)
     |false=>
      have hz1:dn5 ⟨11,cj,cl,e,nm,it,od,sk,lm⟩ []=0:=by simpa using hz0
      have hR2:R=([]++ [nm],0):=by rw[hsel];show dn6 (dn5 ⟨11,cj,cl,e,nm,it,od,sk,lm⟩ []) ([]++ [nm])=_;unfold dn6;rw[hz0];rfl
      subst hR2;rw[hz1]at hx;clear hsel hz0 hz1;have hmp:([]++ [nm]).map D.str=([]:List ByteArray).map D.str++ [.str nm]:=Oc
      rw[hmp]
      repeat'(first|refine bh4 (id:=34) [5] [] Ob Ob Oj ?_|refine reF (id:=34) (i:=0) 5 Ob rfl ?_|refine reF (id:=34) (i:=6) 1 Ob rfl ?_|refine reN ?_|refine yz ?_|refine yp b36 hf ?_|(refine qS rfl ?_ ?_;exact⟨by decide,by(simp<;>omega)⟩)|refine qW (.sl (([]:List ByteArray).map .str)) rfl rfl rfl rfl rfl rfl hk0 rfl ?_|refine yp b44 hx ?_|refine yp b45 hcl2 ?_|refine reZ (id:=34) (i:=5) (⟨by simp,fun d hd=>by(obtain rfl:=fk8.1 hd;rfl),by(show 1*16≤140737488355328;omega),by(show 1≤9223372036854775807;omega)⟩) rfl rfl rfl rfl rfl rfl rfl rfl rfl rfl Oj ?_)
      refine au2 2 rfl ?_;dsimp only[ar6,ar5,ar8,ar7,List.map,List.set]
      repeat'(first|refine qM rfl rfl rfl ?_|exact zL)
    ·have hcl2:=dv2 c h0 Oa
     cases hz0:dn5 ⟨11,cj,cl,e,nm,it,od,sk,lm⟩ c !=0 with
     |true=>
      have hR2:R=([],dn5 ⟨11,cj,cl,e,nm,it,od,sk,lm⟩ c):=by rw[hsel];show dn6 (dn5 ⟨11,cj,cl,e,nm,it,od,sk,lm⟩ c) (c++ [nm])=_;unfold dn6;rw[hz0];rfl
      subst hR2;clear hsel;generalize dn5 ⟨11,cj,cl,e,nm,it,od,sk,lm⟩ c=z at*
      repeat'(first|refine bh4 (id:=34) [1,5] [] Ob Ob Oj ?_|refine reF (id:=34) (i:=0) 1 Ob rfl ?_|(refine reV (id:=34) (i:=2) rfl rfl rfl rfl rfl rfl ?_ ?_;(first|exact True.intro|rfl|assumption|omega|(simp only[inR];omega)|((show _≤(9223372036854775807:Nat));(try simp only[ByteArray.size_append]);omega)|exact au6 Oa Oa|exact au7 Oa Oa|exact⟨rfl,by decide,by decide⟩))|(refine reV (id:=34) (i:=3) rfl rfl rfl rfl rfl rfl ?_ ?_;(first|exact True.intro|rfl|assumption|omega|(simp only[inR];omega)|((show _≤(9223372036854775807:Nat));(try simp only[ByteArray.size_append]);omega)|exact au6 Oa Oa|exact au7 Oa Oa|exact⟨rfl,by decide,by decide⟩))|refine reF (id:=34) (i:=6) 1 Ob rfl ?_|refine reN ?_|refine yz ?_|refine yp b36 hf ?_|(refine qS rfl ?_ ?_;exact⟨by decide,by(simp<;>omega)⟩)|refine qW (.sl (c.map .str)) rfl rfl rfl rfl rfl rfl hk0 rfl ?_|refine yp b44 hx ?_|refine bl8 (id:=34) (i:=1) rfl rfl rfl rfl rfl rfl b45 rfl (hcl2) Oj ?_|(refine reV2 (id:=34) (i:=4) rfl rfl rfl rfl rfl rfl ?_ ?_;(first|exact True.intro|rfl|assumption|omega|(simp only[inR];omega)|((show _≤(9223372036854775807:Nat));(try simp only[ByteArray.size_append]);omega)|exact au6 Oa Oa|exact au7 Oa Oa|exact⟨rfl,by decide,by decide⟩))|refine reS (id:=34) (i:=5) rfl rfl rfl rfl (⟨by simp,fun d hd=>by(obtain rfl:=fk8.1 hd;rfl),by(show((c.map D.str).length+1)*16≤140737488355328;rw[fk3];omega),by(show(c.map D.str).length+1≤9223372036854775807;rw[fk3];omega)⟩) Oj ?_|exact zL)
     |false=>
      have hz1:dn5 ⟨11,cj,cl,e,nm,it,od,sk,lm⟩ c=0:=by simpa using hz0
      have hR2:R=(c++ [nm],0):=by rw[hsel];show dn6 (dn5 ⟨11,cj,cl,e,nm,it,od,sk,lm⟩ c) (c++ [nm])=_;unfold dn6;rw[hz0];rfl
      subst hR2;rw[hz1]at hx;clear hsel hz0 hz1;have hmp:(c++ [nm]).map D.str=c.map D.str++ [.str nm]:=Oc
      rw[hmp]
      repeat'(first|refine bh4 (id:=34) [1,5] [] Ob Ob Oj ?_|refine reF (id:=34) (i:=0) 1 Ob rfl ?_|(refine reV (id:=34) (i:=2) rfl rfl rfl rfl rfl rfl ?_ ?_;(first|exact True.intro|rfl|assumption|omega|(simp only[inR];omega)|((show _≤(9223372036854775807:Nat));(try simp only[ByteArray.size_append]);omega)|exact au6 Oa Oa|exact au7 Oa Oa|exact⟨rfl,by decide,by decide⟩))|(refine reV (id:=34) (i:=3) rfl rfl rfl rfl rfl rfl ?_ ?_;(first|exact True.intro|rfl|assumption|omega|(simp only[inR];omega)|((show _≤(9223372036854775807:Nat));(try simp only[ByteArray.size_append]);omega)|exact au6 Oa Oa|exact au7 Oa Oa|exact⟨rfl,by decide,by decide⟩))|refine reF (id:=34) (i:=6) 1 Ob rfl ?_|refine reN ?_|refine yz ?_|refine yp b36 hf ?_|(refine qS rfl ?_ ?_;exact⟨by decide,by(simp<;>omega)⟩)|refine qW (.sl (c.map .str)) rfl rfl rfl rfl rfl rfl hk0 rfl ?_|refine yp b44 hx ?_|refine bl8 (id:=34) (i:=1) rfl rfl rfl rfl rfl rfl b45 rfl (hcl2) Oj ?_|(refine reV2 (id:=34) (i:=4) rfl rfl rfl rfl rfl rfl ?_ ?_;(first|exact True.intro|rfl|assumption|omega|(simp only[inR];omega)|((show _≤(9223372036854775807:Nat));(try simp only[ByteArray.size_append]);omega)|exact au6 Oa Oa|exact au7 Oa Oa|exact⟨rfl,by decide,by decide⟩))|refine reS (id:=34) (i:=5) rfl rfl rfl rfl (⟨by simp,fun d hd=>by(obtain rfl:=fk8.1 hd;rfl),by(show((c.map D.str).length+1)*16≤140737488355328;rw[fk3];omega),by(show(c.map D.str).length+1≤9223372036854775807;rw[fk3];omega)⟩) Oj ?_)
      refine au2 3 rfl ?_;dsimp only[ar6,ar5,ar8,ar7,List.map,List.set]
      repeat'(first|refine qM rfl rfl rfl ?_|exact zL)
end Go.Proofs.YtndgolmgaenlfaaGreatDoor
