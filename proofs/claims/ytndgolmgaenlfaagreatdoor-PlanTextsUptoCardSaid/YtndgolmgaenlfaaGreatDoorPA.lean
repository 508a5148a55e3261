/- As each says. -/
import Derived.Test.YtndgolmgaenlfaaGreatDoorCA
import Derived.Test.YtndgolmgaenlfaaGreatDoorGC
import Derived.Test.YtndgolmgaenlfaaGreatDoorFB
set_option linter.unusedVariables false
set_option linter.unusedSimpArgs false
namespace Go.Proofs.YtndgolmgaenlfaaGreatDoor
set_option maxRecDepth 4000
open Go Go.Abs Go.Val Go.RowKit Go.Proofs.Tryz
attribute [local irreducible] go SGo an1 Ev au8 EvO EvS RGo PGo
abbrev smE(e:Ex):Prop:=nd e≤1000000
theorem dx4{e:Ex}(h:smE e):dp e≤1000000:=by have h':nd e≤1000000:=h;have:=dd1 e;omega
structure SStP(l:List SK)(cols:List ByteArray) where
 i:Nat
 hi:i≤l.length
 ok:dp4 cols l=dp4 cols (l.drop i)
theorem dx5{cols:List ByteArray}{l:List SK}{i:Nat}{x:SK}(h:l[i]? =some x):dp4 cols (l.drop i)=bif df3 x.e cols !=0 then df3 x.e cols else dp4 cols (l.drop (i+1)):=by
 rw[cv2 h,dp4]
theorem dx6(l:List SK)(cols:List ByteArray)(hs:∀x∈l,smE x.e):Ev E 43 [.sl (l.map cp6),.sl (cols.map .str)] (.d (.int (dp4 cols l))):=Ev.fit fun hfit=>by
 have hmax:=(cv4 (hfit (.sl (l.map cp6)) Oc)).1;have hle:(l.map cp6).length=l.length:=Oc
 refine ye2 func43 ntmps43 fun _ _ _=>?_
 repeat'(refine yz ?_)
 refine ac7 (α:=SStP l cols) (fun p=>⟨[(1,.d (.sl (cols.map .str))),(8,.d (.sl (l.map cp6))),(9,.d (.int (l.map cp6).length)),(10,.d (.int p.i))],[]⟩) (fun p=>l.length-p.i) ⟨0,by omega,rfl⟩ (zle 0) ?_;rintro⟨i,hi,ok⟩;dsimp only;rcases fp2 i l.length with hlt|hge
 ·have g1:decide ((i:Int)<((l.map cp6).length:Int))=true:=by rw[hle];simpa using hlt
  have hx0:=fp1 hlt;generalize l[i]=x at hx0;have hx:=cv3 (f:=cp6) hx0;have hm:=hs x (fp3 hx0);have hc:=df9 x.e cols (dx4 hm) hm;rw[dx5 hx0]at ok
  cases hz:df3 x.e cols !=0 with
  |true=>
   rw[hz,cond_true]at ok;rw[ok];generalize df3 x.e cols=z at*
   repeat'(first|refine yz ?_|refine yi (cp6 x) hx ?_|refine bj7 rfl rfl rfl rfl rfl rfl rfl ?_|refine yp b42 hc ?_|exact zD)
  |false=>
   rw[hz,cond_false]at ok;have h0:df3 x.e cols=0:=by simpa using hz
   rw[h0]at hc
   repeat'(first|refine yz ?_|refine yi (cp6 x) hx ?_|refine bj7 rfl rfl rfl rfl rfl rfl rfl ?_|refine yp b42 hc ?_)
   refine ac1 ?_;exact⟨⟨i+1,by omega,ok⟩,by dsimp only;omega,(zle 0)⟩
 ·have g1:decide ((i:Int)<((l.map cp6).length:Int))=false:=by rw[hle];simp;omega
  rw[fp8 hge,dp4]at ok;rw[ok]
  exact Ok
theorem dx7(b:PB)(K:List D)(cols:List ByteArray)(hs:smE b.e):Ev E 44 [dn5 b K,.sl (cols.map .str)] (.d (.int (dp5 b cols))):=by
 have h1:=co9 b.e (dx4 hs) hs;have h2:=dw4 b.nm;have h3:=df8 b.e cols hs;have h4:=cx4 b.e;have h5:=ca8 cols b.nm;unfold dp5
 cases hz:co8 b.e !=0 with
 |true=>
  rw[cond_true];generalize co8 b.e=z at*;refine ye2 func44 ntmps44 fun _ _ _=>?_
  repeat'(first|refine yz ?_|refine yp b61 h1 ?_|exact zD)
 |false=>
 have h0:co8 b.e=0:=by simpa using hz
 rw[h0]at h1;rw[cond_false];clear hz h0;generalize df2 b.e cols=kn at*;generalize cp9 b.e=ha at*;generalize by1 cols b.nm=hc at*
 cases hw:cn4 b.nm with
 |false=>
  rw[hw]at h2;refine ye2 func44 ntmps44 fun _ _ _=>?_
  repeat'(first|refine yz ?_|refine yp b61 h1 ?_|refine yp b58 h2 ?_|exact zD)
 |true=>
 rw[hw]at h2
 cases kn with
 |false=>
  refine ye2 func44 ntmps44 fun _ _ _=>?_
  repeat'(first|refine yz ?_|refine yp b61 h1 ?_|refine yp b58 h2 ?_|refine yp b62 h3 ?_|exact zD)
 |true=>
 cases ha with
 |true=>
  refine ye2 func44 ntmps44 fun _ _ _=>?_
  repeat'(first|refine yz ?_|refine yp b61 h1 ?_|refine yp b58 h2 ?_|refine yp b62 h3 ?_|refine yp b63 h4 ?_|exact zD)
 |false=>
 cases hc with
 |true=>
  refine ye2 func44 ntmps44 fun _ _ _=>?_
  repeat'(first|refine yz ?_|refine yp b61 h1 ?_|refine yp b58 h2 ?_|refine yp b62 h3 ?_|refine yp b63 h4 ?_|refine yp b60 h5 ?_|exact zD)
 |false=>
  refine ye2 func44 ntmps44 fun _ _ _=>?_
  repeat'(first|refine yz ?_|refine yp b61 h1 ?_|refine yp b58 h2 ?_|refine yp b62 h3 ?_|refine yp b63 h4 ?_|refine yp b60 h5 ?_|exact zD)
structure SMuP(l:List ByteArray) where
 i:Nat
 hi:i≤l.length
 ok:l.all (fun s=>cn4 s||do3 s)=(l.drop i).all fun s=>cn4 s||do3 s
theorem dx8(c:CJ)(hl:c.vs.length≤1000000):Ev E 37 [cd9 c] (.tup [.sl ((do9 c).1.map .str),.int (do9 c).2]):=Ev.fit fun hfit=>by
 have hk:=dw9 c;have hle:(c.vs.map D.str).length=c.vs.length:=Oc
 have hcl:=dx3 c.vs Oa;unfold do9
 cases hz:dm6 c !=0 with
 |true=>
  rw[cond_true];generalize dm6 c=z at*;show Ev E 37 [cd9 c] (.tup [.sl [],.int z]);refine ye1 func37 ntmps37 fun _ _ _=>?_
  repeat'(first|refine yz ?_|refine yp b57 hk ?_|exact zL)
 |false=>
  have h0:dm6 c=0:=by simpa using hz
  rw[h0]at hk;rw[cond_false];clear hz h0;refine ye1 func37 ntmps37 fun _ _ _=>?_
  repeat'(first|refine yz ?_|refine yp b57 hk ?_)
  refine ac7 (α:=SMuP c.vs) (fun p=>⟨[(1,.ptr 0 0),(13,.d (.sl (c.vs.map .str))),(14,.d (.int (c.vs.map D.str).length)),(15,.d (.int p.i))],[oCJ c]⟩) (fun p=>c.vs.length-p.i) ⟨0,by omega,rfl⟩ (zle 1) ?_;rintro⟨i,hi,ok⟩;dsimp only;rcases fp2 i c.vs.length with hlt|hge
  ·have g1:decide ((i:Int)<((c.vs.map D.str).length:Int))=true:=by rw[hle];simpa using hlt
   have hx0:=fp1 hlt;generalize c.vs[i]=x at hx0;have hx:=cv3 (f:=D.str) hx0;have h1:=dw4 x;have h2:=dw5 x;rw[cv2 hx0,ft3]at ok
   cases hw:cn4 x with
   |true=>
    rw[hw]at h1 ok;rw[fx6,fs6]at ok
    repeat'(first|refine yz ?_|refine yi (.str x) hx ?_|refine yp b58 h1 ?_)
    refine ac1 ?_;exact⟨⟨i+1,by omega,ok⟩,by dsimp only;omega,(zle 1)⟩
   |false=>
    rw[hw]at h1 ok
    cases hu:do3 x with
    |true=>
     rw[hu]at h2 ok;rw[fs4,fs6]at ok
     repeat'(first|refine yz ?_|refine yi (.str x) hx ?_|refine yp b58 h1 ?_|refine yp b59 h2 ?_)
     refine ac1 ?_;exact⟨⟨i+1,by omega,ok⟩,by dsimp only;omega,(zle 1)⟩
    |false=>
     rw[hu]at h2 ok;rw[ok]
     repeat'(first|refine yz ?_|refine yi (.str x) hx ?_|refine yp b58 h1 ?_|refine yp b59 h2 ?_|exact zL)
  ·have g1:decide ((i:Int)<((c.vs.map D.str).length:Int))=false:=by rw[hle];simp;omega
   rw[fp8 hge,List.all_nil]at ok;rw[ok]
   repeat'(first|refine yz ?_|refine yp b45 hcl ?_|exact zL)
abbrev oPB(b:PB)(K:List D):aa5:=.var 40 (.w (.d (dn5 b K)))
theorem dx9(l:List ByteArray)(s:ByteArray):EvS E 60 [.own 0,.d (.str s)] [.row 9 1 (l.map .str)] (.d (.bool (by1 l s))) [.row 9 1 (l.map .str)]:=
 dx0 (ds:=[]) (es:=[.str s]) (ca8 l s)
structure SItP(g:Bool)(cols:List ByteArray)(l:List IT) where
 i:Nat
 out:List ByteArray
 hi:i≤l.length
 ho:out.length=i
 ok:dp3 g cols l []=dp3 g cols (l.drop i) out
theorem dy0{g:Bool}{cols out:List ByteArray}{l:List IT}{i:Nat}{x:IT}(h:l[i]? =some x):dp3 g cols (l.drop i) out=bif dp2 g x cols out !=0 then erR (dp2 g x cols out)else dp3 g cols (l.drop (i+1)) (out++ [x.asn]):=by
 rw[cv2 h,dp3]
set_option maxHeartbeats 4000000 in
theorem dy1(b:PB)(K:List D)(cols:List ByteArray)(hs:∀x∈b.it,smE x.e):Ev E 39 [dn5 b K,.sl (cols.map .str)]
  (.tup [.sl ((bif decide (b.it.length>24)then erR 4 else dp3 (b.op==8) cols b.it []).1.map .str),.int (bif decide (b.it.length>24)then erR 4 else dp3 (b.op==8) cols b.it []).2]):=by
 have hle:(b.it.map cp5).length=b.it.length:=Oc
 generalize hg8:(b.op==8)=g8
 cases hn:decide (b.it.length>24)with
 |true=>
  have g1:decide (((b.it.map cp5).length:Int)>24)=true:=by rw[hle];simp at hn ⊢;omega
  show Ev E 39 _ (.tup [.sl [],.int 4]);refine ye2 func39 ntmps39 fun _ _ _=>?_
  exact Ok
 |false=>
 have hn24:b.it.length≤24:=by have:=of_decide_eq_false hn;omega
 have g1:decide (((b.it.map cp5).length:Int)>24)=false:=by rw[hle];simp;omega
 rw[cond_false];refine ye2 func39 ntmps39 fun _ _ _=>?_
 repeat'(refine yz ?_)
 refine ac7 (α:=SItP g8 cols b.it) (fun p=>⟨[(1,.d (.sl (cols.map .str))),(2,.ptr 0 0),(6,bf9 1 (p.out.map .str)),(16,.d (.sl (b.it.map cp5))),(17,.d (.int (b.it.map cp5).length)),(18,.d (.int p.i))],[oPB b K]++aw7 9 1 (p.out.map .str)⟩) (fun p=>b.it.length-p.i) ⟨0,[],by omega,rfl,rfl⟩ (zle 1) ?_;rintro⟨i,out,hi,ho,ok⟩;dsimp only;rcases fp2 i b.it.length with hlt|hge
 ·have g2:decide ((i:Int)<((b.it.map cp5).length:Int))=true:=by rw[hle];simpa using hlt
  have hx0:=fp1 hlt;generalize b.it[i]=x at hx0;have hx:=cv3 (f:=cp5) hx0;have hm:=hs x (fp3 hx0);have h1:=co9 x.e (dx4 hm) hm;have h2:=dw4 x.asn;have h3:=df8 x.e cols hm;have h4:=cx4 x.e;have hat:=dy0 (g:=g8) (cols:=cols) (out:=out) hx0;unfold dp2 at hat;rw[ok,hat];generalize df2 x.e cols=kn at*;generalize cp9 x.e=ha at*
  match out,ho,ok with
  |[],ho,ok=>
   dsimp only[bf9,aw7,List.map,List.append,HAppend.hAppend,Append.append];have hcon:=ca8 [] x.asn;generalize hq:by1 [] x.asn=hc at*
   cases hz:co8 x.e !=0 with
   |true=>
    rw[cond_true,hz,cond_true];generalize co8 x.e=z at*;show go _ _ _ (an5 _ _ (.tup [.sl [],.int z]))
    repeat'(first|refine yz ?_|refine yi (cp5 x) hx ?_|refine bj7 rfl rfl rfl rfl rfl rfl rfl ?_|refine yp b61 h1 ?_|exact zL)
   |false=>
   have h0:co8 x.e=0:=by simpa using hz
   rw[h0]at h1;rw[cond_false];clear h0
   cases hw:cn4 x.asn with
   |false=>
    rw[hw]at h2;show go _ _ _ (an5 _ _ (.tup [.sl [],.int 6]))
    repeat'(first|refine yz ?_|refine yi (cp5 x) hx ?_|refine bj7 rfl rfl rfl rfl rfl rfl rfl ?_|refine yp b61 h1 ?_|refine yp b58 h2 ?_|(refine yy ?_ ?_<;>intro _)|exact zL)
   |true=>
   rw[hw]at h2
   cases kn with
   |false=>
    show go _ _ _ (an5 _ _ (.tup [.sl [],.int 6]))
    repeat'(first|refine yz ?_|refine yi (cp5 x) hx ?_|refine bj7 rfl rfl rfl rfl rfl rfl rfl ?_|refine yp b61 h1 ?_|refine yp b58 h2 ?_|refine yp b62 h3 ?_|(refine yy ?_ ?_<;>intro _)|exact zL)
   |true=>
   cases ha with
   |false=>
    cases g8 with
    |false=>
     cases hc with
     |true=>
      simp[by1]at hq
     |false=>
      show go _ _ _ (an5 _ _ (.tup [.sl ((dp3 false cols (b.it.drop (i+1)) ([]++ [x.asn])).1.map .str),.int (dp3 false cols (b.it.drop (i+1)) ([]++ [x.asn])).2]));have hnew:dp3 false cols b.it []=dp3 false cols (b.it.drop (i+1)) ([]++ [x.asn]):=by rw[ok,hat,hz,hw];rfl
      rw[←hnew]
      repeat'(first|refine yz ?_|refine yi (cp5 x) hx ?_|refine bj7 rfl rfl rfl rfl rfl rfl rfl ?_|refine yp b61 h1 ?_|refine yp b58 h2 ?_|refine yp b62 h3 ?_|refine yp b63 h4 ?_|refine yp b60 hcon ?_|(refine qS rfl ⟨by simp,fun d hd=>by(obtain rfl:=fq2.1 hd;rfl),by(show _*16≤140737488355328;simp;try omega),by(show _≤9223372036854775807;simp;try omega)⟩ ?_)|refine yx ?_)
      refine ac1 ?_;exact⟨⟨i+1,[]++ [x.asn],by omega,by simp only[fp4,fp5,fq0]at*;omega,hnew⟩,by dsimp only;omega,(bh0 [0,2])⟩
    |true=>
     cases hc with
     |true=>
      simp[by1]at hq
     |false=>
      show go _ _ _ (an5 _ _ (.tup [.sl ((dp3 true cols (b.it.drop (i+1)) ([]++ [x.asn])).1.map .str),.int (dp3 true cols (b.it.drop (i+1)) ([]++ [x.asn])).2]));have hnew:dp3 true cols b.it []=dp3 true cols (b.it.drop (i+1)) ([]++ [x.asn]):=by rw[ok,hat,hz,hw];rfl
      rw[←hnew]
      repeat'(first|refine yz ?_|refine yi (cp5 x) hx ?_|refine bj7 rfl rfl rfl rfl rfl rfl rfl ?_|refine yp b61 h1 ?_|refine yp b58 h2 ?_|refine yp b62 h3 ?_|refine yp b63 h4 ?_|refine yp b60 hcon ?_|(refine qS rfl ⟨by simp,fun d hd=>by(obtain rfl:=fq2.1 hd;rfl),by(show _*16≤140737488355328;simp;try omega),by(show _≤9223372036854775807;simp;try omega)⟩ ?_)|refine yx ?_)
      refine ac1 ?_;exact⟨⟨i+1,[]++ [x.asn],by omega,by simp only[fp4,fp5,fq0]at*;omega,hnew⟩,by dsimp only;omega,(bh0 [0,2])⟩
   |true=>
    cases g8 with
    |false=>
     show go _ _ _ (an5 _ _ (.tup [.sl [],.int 9]))
     repeat'(first|refine yz ?_|refine yi (cp5 x) hx ?_|refine bj7 rfl rfl rfl rfl rfl rfl rfl ?_|refine yp b61 h1 ?_|refine yp b58 h2 ?_|refine yp b62 h3 ?_|refine yp b63 h4 ?_|refine yx ?_|exact zL)
    |true=>
     cases c2:x.e.op==24 with
     |false=>
      have c3:(!(x.e.op==24))=true:=by rw[c2];rfl
      show go _ _ _ (an5 _ _ (.tup [.sl [],.int 9]))
      repeat'(first|refine yz ?_|refine yi (cp5 x) hx ?_|refine bj7 rfl rfl rfl rfl rfl rfl rfl ?_|refine yp b61 h1 ?_|refine yp b58 h2 ?_|refine yp b62 h3 ?_|refine yp b63 h4 ?_|refine yx ?_|exact zL)
     |true=>
      rw[c2]at hat;have c3:(!(x.e.op==24))=false:=by rw[c2];rfl
      cases hc with
      |true=>
       simp[by1]at hq
      |false=>
       show go _ _ _ (an5 _ _ (.tup [.sl ((dp3 true cols (b.it.drop (i+1)) ([]++ [x.asn])).1.map .str),.int (dp3 true cols (b.it.drop (i+1)) ([]++ [x.asn])).2]));have hnew:dp3 true cols b.it []=dp3 true cols (b.it.drop (i+1)) ([]++ [x.asn]):=by rw[ok,hat,hz,hw];rfl
       rw[←hnew]
       repeat'(first|refine yz ?_|refine yi (cp5 x) hx ?_|refine bj7 rfl rfl rfl rfl rfl rfl rfl ?_|refine yp b61 h1 ?_|refine yp b58 h2 ?_|refine yp b62 h3 ?_|refine yp b63 h4 ?_|refine yp b60 hcon ?_|(refine qS rfl ⟨by simp,fun d hd=>by(obtain rfl:=fq2.1 hd;rfl),by(show _*16≤140737488355328;simp;try omega),by(show _≤9223372036854775807;simp;try omega)⟩ ?_)|refine yx ?_)
       refine ac1 ?_;exact⟨⟨i+1,[]++ [x.asn],by omega,by simp only[fp4,fp5,fq0]at*;omega,hnew⟩,by dsimp only;omega,(bh0 [0,2])⟩
  |a::q,ho,ok=>
   dsimp only[bf9,aw7,List.map,List.append,HAppend.hAppend,Append.append];have hcon:=dx9 (a::q) x.asn;generalize hq:by1 (a::q) x.asn=hc at*
   cases hz:co8 x.e !=0 with
   |true=>
    rw[cond_true,hz,cond_true];generalize co8 x.e=z at*;show go _ _ _ (an5 _ _ (.tup [.sl [],.int z]))
    repeat'(first|refine yz ?_|refine yi (cp5 x) hx ?_|refine bj7 rfl rfl rfl rfl rfl rfl rfl ?_|refine yp b61 h1 ?_|exact zL)
   |false=>
   have h0:co8 x.e=0:=by simpa using hz
   rw[h0]at h1;rw[cond_false];clear h0
   cases hw:cn4 x.asn with
   |false=>
    rw[hw]at h2;show go _ _ _ (an5 _ _ (.tup [.sl [],.int 6]))
    repeat'(first|refine yz ?_|refine yi (cp5 x) hx ?_|refine bj7 rfl rfl rfl rfl rfl rfl rfl ?_|refine yp b61 h1 ?_|refine yp b58 h2 ?_|(refine yy ?_ ?_<;>intro _)|exact zL)
   |true=>
   rw[hw]at h2
   cases kn with
   |false=>
    show go _ _ _ (an5 _ _ (.tup [.sl [],.int 6]))
    repeat'(first|refine yz ?_|refine yi (cp5 x) hx ?_|refine bj7 rfl rfl rfl rfl rfl rfl rfl ?_|refine yp b61 h1 ?_|refine yp b58 h2 ?_|refine yp b62 h3 ?_|(refine yy ?_ ?_<;>intro _)|exact zL)
   |true=>
   cases ha with
   |false=>
    cases g8 with
    |false=>
     cases hc with
     |true=>
      show go _ _ _ (an5 _ _ (.tup [.sl [],.int 7]))
      repeat'(first|refine yz ?_|refine yi (cp5 x) hx ?_|refine bj7 rfl rfl rfl rfl rfl rfl rfl ?_|refine yp b61 h1 ?_|refine yp b58 h2 ?_|refine yp b62 h3 ?_|refine yp b63 h4 ?_|refine yc [1] b60 (hcon) ?_|refine yx ?_|exact zL)
     |false=>
      show go _ _ _ (an5 _ _ (.tup [.sl ((dp3 false cols (b.it.drop (i+1)) ((a::q)++ [x.asn])).1.map .str),.int (dp3 false cols (b.it.drop (i+1)) ((a::q)++ [x.asn])).2]));have hnl:q.length≤24:=by simp only[fp5]at ho;omega
      have hnew:dp3 false cols b.it []=dp3 false cols (b.it.drop (i+1)) ((a::q)++ [x.asn]):=by rw[ok,hat,hz,hw];rfl
      rw[←hnew]
      repeat'(first|refine yz ?_|refine yi (cp5 x) hx ?_|refine bj7 rfl rfl rfl rfl rfl rfl rfl ?_|refine yp b61 h1 ?_|refine yp b58 h2 ?_|refine yp b62 h3 ?_|refine yp b63 h4 ?_|refine yc [1] b60 (hcon) ?_|(refine qS rfl ⟨by simp,fun d hd=>by(obtain rfl:=fq2.1 hd;rfl),by(show _*16≤140737488355328;simp;try omega),by(show _≤9223372036854775807;simp;try omega)⟩ ?_)|refine yx ?_)
      refine ac1 ?_;have hmap:(a::q++ [x.asn]).map D.str=(D.str a::List.map D.str q)++ [D.str x.asn]:=Oc
      refine⟨⟨i+1,a::q++ [x.asn],by omega,by simp only[fp4,fp5,fq0]at*;omega,hnew⟩,by dsimp only;omega,?_⟩;dsimp only;rw[hmap];exact(bh0 [0,3])
    |true=>
     cases hc with
     |true=>
      show go _ _ _ (an5 _ _ (.tup [.sl [],.int 7]))
      repeat'(first|refine yz ?_|refine yi (cp5 x) hx ?_|refine bj7 rfl rfl rfl rfl rfl rfl rfl ?_|refine yp b61 h1 ?_|refine yp b58 h2 ?_|refine yp b62 h3 ?_|refine yp b63 h4 ?_|refine yc [1] b60 (hcon) ?_|refine yx ?_|exact zL)
     |false=>
      show go _ _ _ (an5 _ _ (.tup [.sl ((dp3 true cols (b.it.drop (i+1)) ((a::q)++ [x.asn])).1.map .str),.int (dp3 true cols (b.it.drop (i+1)) ((a::q)++ [x.asn])).2]));have hnl:q.length≤24:=by simp only[fp5]at ho;omega
      have hnew:dp3 true cols b.it []=dp3 true cols (b.it.drop (i+1)) ((a::q)++ [x.asn]):=by rw[ok,hat,hz,hw];rfl
      rw[←hnew]
      repeat'(first|refine yz ?_|refine yi (cp5 x) hx ?_|refine bj7 rfl rfl rfl rfl rfl rfl rfl ?_|refine yp b61 h1 ?_|refine yp b58 h2 ?_|refine yp b62 h3 ?_|refine yp b63 h4 ?_|refine yc [1] b60 (hcon) ?_|(refine qS rfl ⟨by simp,fun d hd=>by(obtain rfl:=fq2.1 hd;rfl),by(show _*16≤140737488355328;simp;try omega),by(show _≤9223372036854775807;simp;try omega)⟩ ?_)|refine yx ?_)
      refine ac1 ?_;have hmap:(a::q++ [x.asn]).map D.str=(D.str a::List.map D.str q)++ [D.str x.asn]:=Oc
      refine⟨⟨i+1,a::q++ [x.asn],by omega,by simp only[fp4,fp5,fq0]at*;omega,hnew⟩,by dsimp only;omega,?_⟩;dsimp only;rw[hmap];exact(bh0 [0,3])
   |true=>
    cases g8 with
    |false=>
     show go _ _ _ (an5 _ _ (.tup [.sl [],.int 9]))
     repeat'(first|refine yz ?_|refine yi (cp5 x) hx ?_|refine bj7 rfl rfl rfl rfl rfl rfl rfl ?_|refine yp b61 h1 ?_|refine yp b58 h2 ?_|refine yp b62 h3 ?_|refine yp b63 h4 ?_|refine yx ?_|exact zL)
    |true=>
     cases c2:x.e.op==24 with
     |false=>
      have c3:(!(x.e.op==24))=true:=by rw[c2];rfl
      show go _ _ _ (an5 _ _ (.tup [.sl [],.int 9]))
      repeat'(first|refine yz ?_|refine yi (cp5 x) hx ?_|refine bj7 rfl rfl rfl rfl rfl rfl rfl ?_|refine yp b61 h1 ?_|refine yp b58 h2 ?_|refine yp b62 h3 ?_|refine yp b63 h4 ?_|refine yx ?_|exact zL)
     |true=>
      rw[c2]at hat;have c3:(!(x.e.op==24))=false:=by rw[c2];rfl
      cases hc with
      |true=>
       show go _ _ _ (an5 _ _ (.tup [.sl [],.int 7]))
       repeat'(first|refine yz ?_|refine yi (cp5 x) hx ?_|refine bj7 rfl rfl rfl rfl rfl rfl rfl ?_|refine yp b61 h1 ?_|refine yp b58 h2 ?_|refine yp b62 h3 ?_|refine yp b63 h4 ?_|refine yc [1] b60 (hcon) ?_|refine yx ?_|exact zL)
      |false=>
       show go _ _ _ (an5 _ _ (.tup [.sl ((dp3 true cols (b.it.drop (i+1)) ((a::q)++ [x.asn])).1.map .str),.int (dp3 true cols (b.it.drop (i+1)) ((a::q)++ [x.asn])).2]));have hnl:q.length≤24:=by simp only[fp5]at ho;omega
       have hnew:dp3 true cols b.it []=dp3 true cols (b.it.drop (i+1)) ((a::q)++ [x.asn]):=by rw[ok,hat,hz,hw];rfl
       rw[←hnew]
       repeat'(first|refine yz ?_|refine yi (cp5 x) hx ?_|refine bj7 rfl rfl rfl rfl rfl rfl rfl ?_|refine yp b61 h1 ?_|refine yp b58 h2 ?_|refine yp b62 h3 ?_|refine yp b63 h4 ?_|refine yc [1] b60 (hcon) ?_|(refine qS rfl ⟨by simp,fun d hd=>by(obtain rfl:=fq2.1 hd;rfl),by(show _*16≤140737488355328;simp;try omega),by(show _≤9223372036854775807;simp;try omega)⟩ ?_)|refine yx ?_)
       refine ac1 ?_;have hmap:(a::q++ [x.asn]).map D.str=(D.str a::List.map D.str q)++ [D.str x.asn]:=Oc
       refine⟨⟨i+1,a::q++ [x.asn],by omega,by simp only[fp4,fp5,fq0]at*;omega,hnew⟩,by dsimp only;omega,?_⟩;dsimp only;rw[hmap];exact(bh0 [0,3])
 ·have g2:decide ((i:Int)<((b.it.map cp5).length:Int))=false:=by rw[hle];simp;omega
  rw[ok,fp8 hge,dp3]
  match out with
  |[]=>
   dsimp only[bf9,aw7,List.map]
   exact Ok
  |a::q=>
   dsimp only[bf9,aw7,List.map];refine au2 1 rfl ?_;dsimp only[ar6,ar5,ar8,ar7,List.map,List.set]
   exact Ok
abbrev rS(l:List ByteArray):aa5:=.row 9 1 (l.map .str)
def fS(k:Nat):List ByteArray→X
 |[]=>.nilS
 |_::_=>.own k
def gS:List ByteArray→aa5
 |[]=>.dead
 |x::r=>rS (x::r)
structure dy2(P:Prop):Prop where
 h:P
theorem dy3{C:Cx}{r:List It}{s:St}{Q:Exit→St→Prop}{α:Type}(id t:Nat){l:Array Oper}{d:Bool}{a b:Code}{c:Code}(S:α→St)(b0:α)(h1:dy2 (go C (.code (.seq (.region id l d) (.cond (.tmp t) a b)):: .stop (fun s'=>∃b,b=b0∧Le C s' (S b)):: .code c::r) s Q))
  (h2:dy2 (go C (.code c::r) (S b0) Q)):go C (.code (.seq (.region id l d) (.cond (.tmp t) a b)):: .code c::r) s Q:=by
 refine bd2 _ h1.h ?_;rintro s' ⟨b,rfl,hl⟩;exact ac6 hl h2.h
theorem dy4{s:ByteArray}(h:s0B s=true):EvS E 69 [.nilS,.d (.str s)] [] .nilS []:=by
 have g0:(s.toList==(⟨#[]⟩:ByteArray).toList)=true:=h;refine yn func69 ntmps69 fun _ _ _ _=>?_
 repeat'(first|refine yz ?_|refine bb2 [] rfl rfl rfl rfl rfl ?_|refine yx ?_)
 all_goals rfl
theorem dy5{s:ByteArray}(h:s0B s=false):EvS E 69 [.nilS,.d (.str s)] [] (.own 0) [rS [s]]:=by
 have g0:(s.toList==(⟨#[]⟩:ByteArray).toList)=false:=h;have hc:=ca8 [] s;have hc:Ev E 60 [.sl [],.str s] (.d (.bool false)):=hc;refine yn func69 ntmps69 fun _ _ _ _=>?_
 repeat'(first|refine yz ?_|refine yp b60 hc ?_|(refine qS rfl ⟨by simp,fun d hd=>by(obtain rfl:=fq2.1 hd;rfl),by(show(0+1)*16≤140737488355328;omega),by(show 0+1≤9223372036854775807;omega)⟩ ?_)|refine bb2 [0] rfl rfl rfl rfl rfl ?_|refine yx ?_)
 all_goals rfl
theorem dy6{s:ByteArray}{l:List ByteArray}(h:(s0B s||by1 l s)=true):EvS E 69 [.own 0,.d (.str s)] [rS l] (.own 0) [rS l]:=by
 have hc:=dx9 l s
 cases h0:s0B s with
 |true=>
  have g0:(s.toList==(⟨#[]⟩:ByteArray).toList)=true:=h0;refine yn func69 ntmps69 fun _ _ _ _=>?_
  repeat'(first|refine yz ?_|refine bb2 [0] rfl rfl rfl rfl rfl ?_|refine yx ?_)
  all_goals rfl
 |false=>
  have g0:(s.toList==(⟨#[]⟩:ByteArray).toList)=false:=h0;rw[h0,fs4]at h;rw[h]at hc;refine yn func69 ntmps69 fun _ _ _ _=>?_
  repeat'(first|refine yz ?_|refine yc [0] b60 (hc) ?_|refine bb2 [0] rfl rfl rfl rfl rfl ?_|refine yx ?_)
  all_goals rfl
theorem dy7{s:ByteArray}{l:List ByteArray}(h:(s0B s||by1 l s)=false)(hl:l.length≤1000000):EvS E 69 [.own 0,.d (.str s)] [rS l] (.own 1) [.dead,rS (l++ [s])]:=by
 have hc:=dx9 l s;rw[ft4]at h;have g0:(s.toList==(⟨#[]⟩:ByteArray).toList)=false:=h.1;rw[h.2]at hc;have hle:(l.map D.str).length=l.length:=Oc
 have hm:(l++ [s]).map D.str=l.map D.str++ [.str s]:=Oc
 unfold rS;rw[hm];refine yn func69 ntmps69 fun _ _ _ _=>?_
 repeat'(first|refine yz ?_|refine yc [0] b60 (hc) ?_|(refine qS rfl ⟨by simp,fun d hd=>by(obtain rfl:=fq2.1 hd;rfl),by(show((l.map D.str).length+1)*16≤140737488355328;omega),by(show(l.map D.str).length+1≤9223372036854775807;omega)⟩ ?_)|refine bb2 [0,1] rfl rfl rfl rfl rfl ?_|refine yx ?_)
 all_goals rfl
def nE(es:List EP)(i:Nat):List ByteArray:=(es[i]?).toList.map EP.vr
def nN(ns:List NP)(i:Nat):List ByteArray:=(ns[i]?).toList.map NP.vr
def nB(es:List EP):Nat→List ByteArray
 |0=>[]
 |j+1=>nE es j
def rnd(ns:List NP)(es:List EP)(i:Nat):List ByteArray:=nB es i++nN ns i
def dy8(ns:List NP)(es:List EP)(i:Nat):List ByteArray:=nN ns i++nE es i
theorem dy9{f:Nat→List ByteArray}(n:Nat):(List.range (n+1)).flatMap f=(List.range n).flatMap f++f n:=by rw[List.range_succ,fw7];simp
theorem dz0(ns:List NP)(es:List EP):∀n,(List.range (n+1)).flatMap (rnd ns es)=(List.range n).flatMap (dy8 ns es)++nN ns n
 |0=>by simp[rnd,nB]
 |n+1=>by rw[dy9,dz0 ns es n,dy9];simp[rnd,dy8,nB]
theorem dz1{f:Nat→List ByteArray}(h:∀i,f i=[])(n:Nat):(List.range n).flatMap f=[]:=by
 rw[List.flatMap_eq_nil_iff];intro i _;exact h i
theorem dz2{f g:Nat→List ByteArray}(h:∀i,f (i+1)=g i):∀n,(List.range (n+1)).flatMap f=f 0++(List.range n).flatMap g
 |0=>by simp
 |n+1=>by rw[dy9,dz2 h n,dy9,h];simp
theorem dz3:∀(ns:List NP) (es:List EP) (n:Nat),ns.length≤n→es.length≤n→(List.range n).flatMap (dy8 ns es)=do6 ns es
 |[],[],n,_,_=>by rw[do6,fv9];exact dz1 (fun i=>by simp[dy8,nN,nE]) n
 |[],e::q,n,_,h=>by
  match n,h with
  |n+1,h=>
   rw[do6,fs1,dz2 (g:=dy8 [] q) (fun i=>by simp[dy8,nN,nE]),dz3 [] q n Oc (by simpa using h)];simp[dy8,nN,nE,do6]
 |a::r,[],n,h,_=>by
  match n,h with
  |n+1,h=>
   rw[do6,dz2 (g:=dy8 r []) (fun i=>by simp[dy8,nN,nE]),dz3 r [] n (by simpa using h) Oc]
   cases r<;>simp[dy8,nN,nE,do6]
 |a::r,e::q,n,h1,h2=>by
  match n,h1,h2 with
  |n+1,h1,h2=>
   rw[do6,dz2 (g:=dy8 r q) (fun i=>by simp[dy8,nN,nE]),dz3 r q n (by simpa using h1) (by simpa using h2)];simp[dy8,nN,nE]
theorem dz4(ns:List NP)(es:List EP){n:Nat}(hn:n=max ns.length (es.length+1)):(List.range n).flatMap (rnd ns es)=do6 ns es:=by
 obtain⟨m,rfl⟩:∃m,n=m+1:=⟨n-1,by omega⟩;rw[dz0,←dz3 ns es (m+1) Oa Oa,dy9];have:nE es m=[]:=by unfold nE;rw[ft2 Oa];rfl
 rw[dy8,this,fv3]
def dz5(l:List ByteArray)(ns:List ByteArray):List ByteArray:=ns.foldl do5 l
theorem dz6(l a b:List ByteArray):dz5 l (a++b)=dz5 (dz5 l a) b:=by unfold dz5;rw[List.foldl_append]
theorem dz7:∀(ns l:List ByteArray),(dz5 l ns).length≤l.length+ns.length
 |[],l=>by simp[dz5]
 |s::r,l=>by
  have h1:=dz7 r (do5 l s);have h2:(do5 l s).length≤l.length+1:=by unfold do5;cases s0B s||by1 l s<;>simp
  show(dz5 (do5 l s) r).length≤_;simp only[fp5];omega
theorem dz8{l:List ByteArray}{s:ByteArray}(h:(s0B s||by1 l s)=true):do5 l s=l:=by unfold do5;rw[h];rfl
theorem dz9{l:List ByteArray}{s:ByteArray}(h:(s0B s||by1 l s)=false):do5 l s=l++ [s]:=by unfold do5;rw[h];rfl
abbrev oPAp(p:PA):aa5:=.var 69 (.w (.d (cp4 p)))
structure SVi(M:Nat) where
 j:Nat
 hj:j≤M
structure SVo(l:List PA) where
 i:Nat
 hi:i≤l.length
theorem ea0{ns:List NP}{i:Nat}{x:NP}(h:ns[i]? =some x):nN ns i=[x.vr]:=by unfold nN;rw[h];rfl
theorem ea1{ns:List NP}{i:Nat}(h:ns.length≤i):nN ns i=[]:=by unfold nN;rw[ft2 h];rfl
theorem ea2{es:List EP}{i:Nat}{x:EP}(h:es[i]? =some x):nE es i=[x.vr]:=by unfold nE;rw[h];rfl
theorem ea3{es:List EP}{i:Nat}(h:es.length≤i):nE es i=[]:=by unfold nE;rw[ft2 h];rfl
theorem ea4(l:List ByteArray)(s:ByteArray):(l++ [s]).map D.str=l.map D.str++ [.str s]:=Oc
set_option maxHeartbeats 4000000 in
theorem ea5(l:List PA)(hsm:(do7 l).length≤900000)(hn:∀p∈l,p.ns.length≤1000000∧p.es.length≤1000000):Ev E 41 [.sl (l.map cp4)] (.d (.sl ((do8 l).map .str))):=Ev.fit fun hfit=>by
 have hmax:=(cv4 (hfit (.sl (l.map cp4)) Oc)).1;have hle:(l.map cp4).length=l.length:=Oc
 refine ye1 func41 ntmps41 fun _ _ _=>?_
 repeat'(refine yz ?_)
 refine bk1 ?_;refine ac7 (α:=SVo l) (fun p=>⟨[(3,fS 0 (dz5 [] (do7 (l.take p.i)))),(7,.d (.sl (l.map cp4))),(8,.d (.int (l.map cp4).length)),(9,.d (.int p.i))],[gS (dz5 [] (do7 (l.take p.i)))]⟩) (fun p=>l.length-p.i) ⟨0,by omega⟩ (zle 1) ?_;rintro⟨i,hi⟩;dsimp only;rcases fp2 i l.length with hlt|hge
 ·have g1:decide ((i:Int)<((l.map cp4).length:Int))=true:=by rw[hle];simpa using hlt
  have hx0:=fp1 hlt;generalize l[i]=p at hx0;have hx:=cv3 (f:=cp4) hx0;have hpm:=fp3 hx0;obtain⟨hns,hes⟩:=hn p hpm;have hln:(p.ns.map cp2).length=p.ns.length:=Oc
  have hlee:(p.es.map cp3).length=p.es.length:=Oc
  have htk:do7 (l.take (i+1))=do7 (l.take i)++(do6 p.ns p.es++ [p.vr]):=by unfold do7;rw[fs5,hx0,fw7];simp
  have hbnd:(do7 (l.take (i+1))).length≤900000:=by
   have h:do7 l=do7 (l.take (i+1))++do7 (l.drop (i+1)):=by unfold do7;rw[←fw7,fv5]
   have:=congrArg List.length h;rw[fp4]at this;omega
  rw[htk,fp4,fp4]at hbnd;simp only[fp5,fq0]at hbnd;obtain⟨L0,hL0⟩:∃L0,L0=dz5 [] (do7 (l.take i)):=⟨_,rfl⟩;have hL0l:L0.length≤(do7 (l.take i)).length:=by rw[hL0];have:=dz7 (do7 (l.take i)) [];simpa using this
  have hend:dz5 [] (do7 (l.take (i+1)))=do5 (dz5 L0 (do6 p.ns p.es)) p.vr:=by rw[htk,dz6,dz6,←hL0];rfl
  rw[←hL0];clear hL0;obtain⟨M,hM⟩:∃M,M=max p.ns.length (p.es.length+1):=⟨_,rfl⟩;have hMx:(max ((p.ns.map cp2).length:Int) (((p.es.map cp3).length:Int)+1))=(M:Int):=by rw[hln,hlee,hM];omega
  have hin:∀j,j≤M→(dz5 L0 ((List.range j).flatMap (rnd p.ns p.es))).length≤900000:=fun j hj=>by
   have h1:=dz7 ((List.range j).flatMap (rnd p.ns p.es)) L0
   have h2:((List.range j).flatMap (rnd p.ns p.es)).length≤(do6 p.ns p.es).length:=by
    have h3:=dz4 p.ns p.es hM
    have h4:List.range M=List.range j++(List.range M).drop j:=by
     have h5:=fv5 j (List.range M);rw[List.take_range,Nat.min_eq_left hj]at h5;exact h5.symm
    rw[h4,fw7]at h3;have:=congrArg List.length h3;rw[fp4]at this;omega
   omega
  repeat'(first|refine yz ?_|refine yi (cp4 p) hx ?_)
  refine ac7 (α:=SVi M) (fun q=>⟨[(3,fS 0 (dz5 L0 ((List.range q.j).flatMap (rnd p.ns p.es)))),(5,.ptr 1 0),(7,.d (.sl (l.map cp4))),(8,.d (.int (l.map cp4).length)),(9,.d (.int i)),(20,.d (.int (max ((p.ns.map cp2).length:Int) (((p.es.map cp3).length:Int)+1)))),(21,.d (.int q.j))],[gS (dz5 L0 ((List.range q.j).flatMap (rnd p.ns p.es))),oPAp p]⟩) (fun q=>M-q.j) ⟨0,by omega⟩ (by
   dsimp only;show Le _ _ ⟨[(3,fS 0 L0),_,_,_,_,_,_],[gS L0,_]⟩;rcases L0 with _|⟨a0,q0⟩<;>exact(zle 2)) ?_
  rintro⟨j,hj⟩;dsimp only;have hL1b:=hin j hj;have hnext:dz5 L0 ((List.range (j+1)).flatMap (rnd p.ns p.es))=dz5 (dz5 (dz5 L0 ((List.range j).flatMap (rnd p.ns p.es))) (nB p.es j)) (nN p.ns j):=by rw[dy9,dz6,rnd,dz6]
  have hlast:j=M→dz5 L0 ((List.range j).flatMap (rnd p.ns p.es))=dz5 L0 (do6 p.ns p.es):=fun h=>by rw[h,dz4 p.ns p.es hM]
  clear hin;generalize dz5 L0 ((List.range j).flatMap (rnd p.ns p.es))=L1 at*
  have hL2b:(dz5 L1 (nB p.es j)).length≤900001:=by
   have h1:=dz7 (nB p.es j) L1
   have h2:(nB p.es j).length≤1:=by
    cases j with
    |zero=>simp[nB]
    |succ j=>simp only[nB,nE,fp6];cases p.es[j]? <;>simp
   omega
  have hnode:(∃n,decide ((j:Int)<((p.ns.map cp2).length:Int))=true∧(p.ns.map cp2)[((j:Nat):Int).toNat]? =some (cp2 n)∧nN p.ns j=[n.vr])∨(decide ((j:Int)<((p.ns.map cp2).length:Int))=false∧nN p.ns j=[]):=by
   rcases fp2 j p.ns.length with h|h
   ·have h0:=fp1 h;exact .inl ⟨_,by rw[hln];simpa using h,cv3 (f:=cp2) h0,ea0 h0⟩
   ·exact .inr ⟨by rw[hln];simp;omega,ea1 h⟩
  have hedge:(decide ((j:Int)>0)=false∧nB p.es j=[])∨(decide ((j:Int)>0)=true∧decide ((j:Int)≤((p.es.map cp3).length:Int))=false∧nB p.es j=[])∨(∃e,decide ((j:Int)>0)=true∧decide ((j:Int)≤((p.es.map cp3).length:Int))=true∧(p.es.map cp3)[((j:Int) -1).toNat]? =some (cp3 e)∧nB p.es j=[e.vr]):=by
   match j with
   |0=>exact .inl ⟨rfl,rfl⟩
   |k+1=>
    rcases fp2 k p.es.length with h|h
    ·have h0:=fp1 h;refine .inr (.inr ⟨_,decide_eq_true Oa,by rw[hlee];exact decide_eq_true Oa,?_,ea2 h0⟩);have e1:(((k+1:Nat):Int) -1).toNat=k:=by omega
     rw[e1,fp9,h0];rfl
    ·exact .inr (.inl ⟨decide_eq_true Oa,by rw[hlee];exact decide_eq_false Oa,ea3 h⟩)
  rcases fp2 j M with hlj|hgj
  ·have g2:decide ((j:Int)<(max ((p.ns.map cp2).length:Int) (((p.es.map cp3).length:Int)+1)))=true:=by rw[hMx];simpa using hlj
   repeat'(first|(refine dy3 8 32 (fun(_:Unit)=>⟨[(3,fS 0 (dz5 L1 (nB p.es j))),(5,.ptr 1 0),(6,.d (.int j)),(7,.d (.sl (l.map cp4))),(8,.d (.int (l.map cp4).length)),(9,.d (.int i)),(20,.d (.int (max ((p.ns.map cp2).length:Int) (((p.es.map cp3).length:Int)+1)))),(21,.d (.int j))],[gS (dz5 L1 (nB p.es j)),oPAp p]⟩) () ?_ ?_)|refine yz ?_)
   ·refine⟨?_⟩;rcases hedge with⟨e1,hnB⟩|⟨e1,e2,hnB⟩|⟨e,e1,e2,hxe,hnB⟩
    ·have hE:dz5 L1 (nB p.es j)=L1:=by rw[hnB];rfl
     rcases L1 with _|⟨a,q⟩
     ·dsimp only[fS,gS]
      repeat'(first|refine yz ?_|refine yx ?_)
      refine ac1 ?_;refine⟨(),rfl,?_⟩;rw[hE];exact(zle 2)
     ·dsimp only[fS,gS]
      repeat'(first|refine yz ?_|refine yx ?_)
      refine ac1 ?_;refine⟨(),rfl,?_⟩;rw[hE];exact(zle 2)
    ·have hE:dz5 L1 (nB p.es j)=L1:=by rw[hnB];rfl
     rcases L1 with _|⟨a,q⟩
     ·dsimp only[fS,gS]
      repeat'(first|refine yz ?_|refine yx ?_)
      refine ac1 ?_;refine⟨(),rfl,?_⟩;rw[hE];exact(zle 2)
     ·dsimp only[fS,gS]
      repeat'(first|refine yz ?_|refine yx ?_)
      refine ac1 ?_;refine⟨(),rfl,?_⟩;rw[hE];exact(zle 2)
    ·have hE:dz5 L1 (nB p.es j)=do5 L1 e.vr:=by rw[hnB];rfl
     have f1:=of_decide_eq_true e1;have f2:=of_decide_eq_true e2;clear hnext hL2b hlast
     cases hsk:s0B e.vr||by1 L1 e.vr with
     |true=>
      have hL2:=dz8 hsk
      match L1,hsk,hL2,hL1b with
      |[],hsk,hL2,hL1b=>
       dsimp only[fS,gS];have hs0:s0B e.vr=true:=by simpa[by1]using hsk
       repeat'(first|refine yz ?_|refine yi (cp3 e) hxe ?_|refine bm9 [] rfl rfl rfl rfl (FnX.plain _) b69 ((dy4 (s:=e.vr) hs0)) rfl rfl rfl rfl rfl ?_|refine yx ?_)
       refine ac1 ?_;refine⟨(),rfl,?_⟩;rw[hE,hL2];exact(zle 2)
      |a::q,hsk,hL2,hL1b=>
       dsimp only[fS,gS]
       repeat'(first|refine yz ?_|refine yi (cp3 e) hxe ?_|refine yc [0] b69 (dy6 (l:=a::q) (s:=e.vr) hsk) ?_|refine yx ?_)
       refine ac1 ?_;refine⟨(),rfl,?_⟩;rw[hE,hL2];exact(zle 2)
     |false=>
      have hL2:=dz9 hsk
      match L1,hsk,hL2,hL1b with
      |[],hsk,hL2,hL1b=>
       dsimp only[fS,gS];have hs0:s0B e.vr=false:=by simpa[by1]using hsk
       repeat'(first|refine yz ?_|refine yi (cp3 e) hxe ?_|refine bm9 [] rfl rfl rfl rfl (FnX.plain _) b69 ((dy5 (s:=e.vr) hs0)) rfl rfl rfl rfl rfl ?_|refine yx ?_)
       refine ac1 ?_;refine⟨(),rfl,?_⟩;rw[hE,hL2];exact(bh0 [2,1])
      |a::q,hsk,hL2,hL1b=>
       dsimp only[fS,gS]
       repeat'(first|refine yz ?_|refine yi (cp3 e) hxe ?_|refine ba7 [0] rfl rfl rfl rfl (FnX.plain _) b69 ((dy7 (l:=a::q) (s:=e.vr) hsk (by simp only[fp5]at*;omega))) rfl rfl rfl rfl rfl ?_|refine yx ?_)
       refine ac1 ?_;refine⟨(),rfl,?_⟩;rw[hE,hL2];exact(bh0 [2,1])
   ·refine⟨?_⟩;generalize dz5 L1 (nB p.es j)=L2 at*;rcases hnode with⟨n,gn,hxn,hnN⟩|⟨gn,hnN⟩
    ·rw[hnN]at hnext;have hnext:dz5 L0 ((List.range (j+1)).flatMap (rnd p.ns p.es))=do5 L2 n.vr:=hnext
     cases hsk:s0B n.vr||by1 L2 n.vr with
     |true=>
      have hL2:=dz8 hsk
      match L2,hsk,hL2,hL2b with
      |[],hsk,hL2,hL2b=>
       dsimp only[fS,gS];have hs0:s0B n.vr=true:=by simpa[by1]using hsk
       repeat'(first|refine yz ?_|refine yi (cp2 n) hxn ?_|refine bm9 [] rfl rfl rfl rfl (FnX.plain _) b69 ((dy4 (s:=n.vr) hs0)) rfl rfl rfl rfl rfl ?_)
       refine ac1 ?_;refine⟨⟨j+1,by omega⟩,by dsimp only;omega,?_⟩;dsimp only;rw[hnext,hL2];exact(zle 2)
      |a::q,hsk,hL2,hL2b=>
       dsimp only[fS,gS]
       repeat'(first|refine yz ?_|refine yi (cp2 n) hxn ?_|refine yc [0] b69 (dy6 (l:=a::q) (s:=n.vr) hsk) ?_)
       refine ac1 ?_;refine⟨⟨j+1,by omega⟩,by dsimp only;omega,?_⟩;dsimp only;rw[hnext,hL2];exact(zle 2)
     |false=>
      have hL2:=dz9 hsk
      match L2,hsk,hL2,hL2b with
      |[],hsk,hL2,hL2b=>
       dsimp only[fS,gS];have hs0:s0B n.vr=false:=by simpa[by1]using hsk
       repeat'(first|refine yz ?_|refine yi (cp2 n) hxn ?_|refine bm9 [] rfl rfl rfl rfl (FnX.plain _) b69 ((dy5 (s:=n.vr) hs0)) rfl rfl rfl rfl rfl ?_)
       refine ac1 ?_;refine⟨⟨j+1,by omega⟩,by dsimp only;omega,?_⟩;dsimp only;rw[hnext,hL2];exact(bh0 [2,1])
      |a::q,hsk,hL2,hL2b=>
       dsimp only[fS,gS]
       repeat'(first|refine yz ?_|refine yi (cp2 n) hxn ?_|refine ba7 [0] rfl rfl rfl rfl (FnX.plain _) b69 ((dy7 (l:=a::q) (s:=n.vr) hsk (by simp only[fp5]at*;omega))) rfl rfl rfl rfl rfl ?_)
       refine ac1 ?_;refine⟨⟨j+1,by omega⟩,by dsimp only;omega,?_⟩;dsimp only;rw[hnext,hL2];exact(bh0 [2,1])
    ·rw[hnN]at hnext;have hnext:dz5 L0 ((List.range (j+1)).flatMap (rnd p.ns p.es))=L2:=hnext;rcases L2 with _|⟨a,q⟩
     ·dsimp only[fS,gS]
      repeat'(refine yz ?_)
      refine ac1 ?_;refine⟨⟨j+1,by omega⟩,by dsimp only;omega,?_⟩;dsimp only;rw[hnext];exact(zle 2)
     ·dsimp only[fS,gS]
      repeat'(refine yz ?_)
      refine ac1 ?_;refine⟨⟨j+1,by omega⟩,by dsimp only;omega,?_⟩;dsimp only;rw[hnext];exact(zle 2)
  ·have g2:decide ((j:Int)<(max ((p.ns.map cp2).length:Int) (((p.es.map cp3).length:Int)+1)))=false:=by rw[hMx];simp;omega
   rw[←hlast Oa]at hend;clear hnode hedge hnext hlast hL2b
   cases hsk:s0B p.vr||by1 L1 p.vr with
   |true=>
    have hL2:=dz8 hsk
    match L1,hsk,hL2,hL1b with
    |[],hsk,hL2,hL1b=>
     dsimp only[fS,gS];have hs0:s0B p.vr=true:=by simpa[by1]using hsk
     repeat'(first|refine yz ?_|refine bm9 [] rfl rfl rfl rfl (FnX.plain _) b69 ((dy4 (s:=p.vr) hs0)) rfl rfl rfl rfl rfl ?_)
     refine ac1 ?_;refine⟨⟨i+1,by omega⟩,by dsimp only;omega,?_⟩;dsimp only;rw[hend,hL2];exact(zle 1)
    |a::q,hsk,hL2,hL1b=>
     dsimp only[fS,gS]
     repeat'(first|refine yz ?_|refine yc [0] b69 (dy6 (l:=a::q) (s:=p.vr) hsk) ?_)
     refine ac1 ?_;refine⟨⟨i+1,by omega⟩,by dsimp only;omega,?_⟩;dsimp only;rw[hend,hL2];exact(zle 1)
   |false=>
    have hL2:=dz9 hsk
    match L1,hsk,hL2,hL1b with
    |[],hsk,hL2,hL1b=>
     dsimp only[fS,gS];have hs0:s0B p.vr=false:=by simpa[by1]using hsk
     repeat'(first|refine yz ?_|refine bm9 [] rfl rfl rfl rfl (FnX.plain _) b69 ((dy5 (s:=p.vr) hs0)) rfl rfl rfl rfl rfl ?_)
     refine ac1 ?_;refine⟨⟨i+1,by omega⟩,by dsimp only;omega,?_⟩;dsimp only;rw[hend,hL2];exact(bh0 [2])
    |a::q,hsk,hL2,hL1b=>
     dsimp only[fS,gS]
     repeat'(first|refine yz ?_|refine ba7 [0] rfl rfl rfl rfl (FnX.plain _) b69 ((dy7 (l:=a::q) (s:=p.vr) hsk (by simp only[fp5]at*;omega))) rfl rfl rfl rfl rfl ?_)
     refine ac1 ?_;refine⟨⟨i+1,by omega⟩,by dsimp only;omega,?_⟩;dsimp only;rw[hend,hL2];exact(bh0 [2])
 ·have g1:decide ((i:Int)<((l.map cp4).length:Int))=false:=by rw[hle];simp;omega
  rw[fq6 hge];show go _ _ _ (an5 _ _ (.d (.sl ((dz5 [] (do7 l)).map .str))));generalize dz5 [] (do7 l)=o at*
  match o with
  |[]=>
   dsimp only[fS,gS];refine bh7 3 rfl ?_
   exact Ok
  |a::q=>
   dsimp only[fS,gS];refine au2 0 rfl ?_;dsimp only[ar6,ar5,ar8,ar7,List.map,List.set]
   exact Ok
end Go.Proofs.YtndgolmgaenlfaaGreatDoor
namespace Go.Proofs.YtndgolmgaenlfaaGreatDoor
set_option maxRecDepth 4000
open Go Go.Abs Go.Val Go.RowKit Go.Proofs.Tryz
mutual
def alB(Q:PB→Prop):Pl→Prop
 |.mk b ks=>Q b∧ea6 Q ks
def ea6(Q:PB→Prop):List Pl→Prop
 |[]=>True
 |p::r=>alB Q p∧ea6 Q r
end
theorem ea7{Q:PB→Prop}:∀{l:List Pl},ea6 Q l→∀p∈l,alB Q p
 |[],_,_,h=>by cases h
 |a::r,h,p,hp=>by
  rw[ea6]at h;rcases fq1.1 hp with rfl|hp
  ·exact h.1
  ·exact ea7 h.2 p hp
theorem ea8(g:Bool)(cols:List ByteArray):∀(l:List IT) (out:List ByteArray),(dp3 g cols l out).2=0→(dp3 g cols l out).1=out++l.map IT.asn
 |[],out,_=>(fv3 out).symm
 |x::r,out,h0=>by
  rw[dp3]at h0 ⊢
  cases c:dp2 g x cols out !=0 with
  |true=>rw[c,cond_true]at h0;rw[show dp2 g x cols out=0 from h0]at c;cases c
  |false=>
   rw[c,cond_false]at h0;rw[cond_false,ea8 g cols r _ h0,fs1,fs0];rfl
def cwB(b:PB):Nat:=b.cj.vs.length+(do7 b.cl.ps).length+b.it.length+1
mutual
def cwP:Pl→Nat
 |.mk b ks=>cwB b+ea9 ks
def ea9:List Pl→Nat
 |[]=>0
 |p::r=>cwP p+ea9 r
end
theorem eb0:∀{l:List Pl} {p:Pl},p∈l→cwP p≤ea9 l
 |[],_,h=>by cases h
 |a::r,p,h=>by
  rw[ea9];rcases fq1.1 h with rfl|h
  ·omega
  ·have:=eb0 h;omega
def lnS:List (List ByteArray)→Nat
 |[]=>0
 |c::r=>c.length+lnS r
theorem eb1(a b:List ByteArray):(do4 a b).length≤a.length+b.length:=by
 unfold do4;have:=fx2 (fun s=> !(by1 a s)) b;rw[fp4];omega
theorem eb2:∀cols:List (List ByteArray),(cols.getD 0 []).length+(cols.getD 1 []).length≤lnS cols
 |[]=>fq7 _
 |[c]=>by show c.length+0≤c.length+0;omega
 |c::d::r=>by show c.length+d.length≤c.length+(d.length+lnS r);omega
theorem eb3(l:List PA):(do8 l).length≤(do7 l).length:=by
 have h:=dz7 (do7 l) [];unfold dz5 at h;simp only[fq0]at h;unfold do8;omega
theorem eb4(g:Bool)(cols:List ByteArray)(l:List IT):(dp3 g cols l []).1.length≤l.length:=by
 by_cases h:(dp3 g cols l []).2=0
 ·rw[ea8 g cols l [] h,fr8,fp6];exact fq7 _
 ·rw[dr3 g cols l [] h];exact fr4 _
theorem eb5(e:Int)(c:List ByteArray):(dp6 e c).1.length≤c.length:=by
 unfold dp6
 cases e !=0 with
 |true=>exact fr4 _
 |false=>exact fq7 _
theorem eb6(b:PB)(cols:List (List ByteArray)):(dp7 b cols).1.length≤cwB b+lnS cols:=by
 have h2:=eb2 cols;have hv:=eb3 b.cl.ps;unfold cwB;unfold dp7
 cases do2 b cols.length with
 |false=>exact fr4 _
 |true=>
 rw[fu7,cond_false]
 cases b.op==1 with
 |true=>exact fr4 _
 |false=>
 rw[cond_false]
 cases b.op==2 with
 |true=>
  rw[cond_true];unfold do9
  cases dm6 b.cj !=0 with
  |true=>exact fr4 _
  |false=>
   cases b.cj.vs.all fun s=>cn4 s||do3 s with
   |true=>show b.cj.vs.length≤_;omega
   |false=>exact fr4 _
 |false=>
 rw[cond_false]
 cases b.op==3||b.op==4 with
 |true=>have:=eb1 (cols.getD 0 []) (cols.getD 1 []);show(do4 _ _).length≤_;omega
 |false=>
 rw[cond_false]
 cases b.op==5 with
 |true=>
  rw[cond_true];have:=eb1 (cols.getD 0 []) (do8 b.cl.ps);unfold dp1
  cases cs2 b.cl !=0 with
  |true=>exact fr4 _
  |false=>
  cases !((dp0 b.cl.ps).all fun e=>df2 e (cols.getD 0 []))with
  |true=>exact fr4 _
  |false=>
  cases !(b.cl.wh.all fun e=>df2 e (do4 (cols.getD 0 []) (do8 b.cl.ps)))with
  |true=>exact fr4 _
  |false=>
  cases b.cl.wh.any cp9 with
  |true=>exact fr4 _
  |false=>show(do4 _ _).length≤_;omega
 |false=>
 rw[cond_false]
 cases b.op==6 with
 |true=>have:=eb5 (df3 b.e (cols.getD 0 [])) (cols.getD 0 []);rw[cond_true];omega
 |false=>
 rw[cond_false]
 cases b.op==7||b.op==8 with
 |true=>
  rw[cond_true];have:=eb4 (b.op==8) (cols.getD 0 []) b.it
  cases decide (b.it.length>24)with
  |true=>exact fr4 _
  |false=>rw[cond_false];omega
 |false=>
 rw[cond_false]
 cases b.op==9 with
 |true=>show(cols.getD 0 []).length≤_;omega
 |false=>
 rw[cond_false]
 cases b.op==10 with
 |true=>have:=eb5 (dp4 (cols.getD 0 []) b.od) (cols.getD 0 []);rw[cond_true];omega
 |false=>
  have:=eb5 (dp5 b (cols.getD 0 [])) (cols.getD 0 []++ [b.nm]);rw[fp4,fp5,fq0]at this;rw[cond_false];omega
theorem eb7(p:Pl):(dp8 p).1.length≤cwP p:=by
 refine dn4 (P:=fun p=>(dp8 p).1.length≤cwP p) (fun b ks ih=>?_) p
 have key:∀l:List Pl,(∀x∈l,(dp8 x).1.length≤cwP x)→lnS (dp9 l).1≤ea9 l:=by
  intro l
  induction l with
  |nil=>intro _;exact fq7 _
  |cons a r ihr=>
   intro h;have h1:=h a Oc;have h2:=ihr fun x hx=>h x (by simp[hx])
   rw[dp9,ea9]
   cases(dp8 a).2 !=0 with
   |true=>exact fr4 _
   |false=>
    cases(dp9 r).2 !=0 with
    |true=>exact fr4 _
    |false=>show(dp8 a).1.length+lnS (dp9 r).1≤_;omega
 have hk:=key ks ih;rw[dp8,cwP]
 cases(dp9 ks).2 !=0 with
 |true=>exact fr4 _
 |false=>
  have:=eb6 b (dp9 ks).1;rw[cond_false];omega
end Go.Proofs.YtndgolmgaenlfaaGreatDoor
namespace Go.Proofs.YtndgolmgaenlfaaGreatDoor
set_option maxRecDepth 4000
open Go Go.Abs Go.Val Go.RowKit Go.Proofs.Tryz
attribute [local irreducible] go SGo an1 Ev au8 EvO EvS RGo PGo
theorem eb8(cols:List ByteArray)(x:PP)(hx:smE x.e):EvS E 66 [.d (cp1 x),.ptr 0 0] [cf6 cols] (.d (.bool (!df2 x.e cols))) [cf6 cols]:=by
 have h:=df8 x.e cols hx;refine yn func66 ntmps66 fun _ _ _ _=>?_
 repeat'(first|refine yz ?_|refine yp b62 h ?_|refine bb2 [0] rfl rfl rfl rfl rfl ?_)
 all_goals rfl
theorem eb9(cols:List ByteArray)(l:List PP)(hs:∀x∈l,smE x.e)(hmax:l.length≤9223372036854775807):EvS E 129 [.d (.sl (l.map cp1)),.clo 66 [.ptr 0 0]] [cf6 cols] (.d (.int (cv5 (l.findIdx? fun x=> !df2 x.e cols)))) [cf6 cols]:=by
 have hle:(l.map cp1).length=l.length:=Oc
 refine yn func129 ntmps129 fun _ _ _ _=>?_
 repeat'(refine yz ?_)
 refine ac7 (α:=SFc l fun x=> !df2 x.e cols) (fun p=>⟨[(0,.d (.sl (l.map cp1))),(1,.clo 66 [.ptr 0 0]),(7,.d (.int (l.map cp1).length)),(8,.d (.int p.i))],[cf6 cols]⟩) (fun p=>l.length-p.i) ⟨0,by omega,fun j hj=>absurd hj Oa⟩ (zle 1) ?_;rintro⟨i,hi,ok⟩;dsimp only;rcases fp2 i l.length with hlt|hge
 ·have g1:decide ((i:Int)<((l.map cp1).length:Int))=true:=by rw[hle];simpa using hlt
  have hx0:=fp1 hlt;generalize l[i]=x at hx0;have hx:=cv3 (f:=cp1) hx0;have h1:=eb8 cols x (hs x (fp3 hx0))
  cases hc:df2 x.e cols with
  |false=>
   rw[hc]at h1;rw[cv6 hx0 (show(!df2 x.e cols)=true by rw[hc];rfl) ok]
   repeat'(first|refine yz ?_|refine yi (cp1 x) hx ?_|refine ba7 [0] rfl rfl rfl rfl (FnX.clo _ _) b66 (h1) rfl rfl rfl rfl rfl ?_|refine bb2 [0] rfl rfl rfl rfl rfl ?_)
   all_goals rfl
  |true=>
   rw[hc]at h1
   repeat'(first|refine yz ?_|refine yi (cp1 x) hx ?_|refine ba7 [0] rfl rfl rfl rfl (FnX.clo _ _) b66 (h1) rfl rfl rfl rfl rfl ?_)
   refine ac1 ?_;exact⟨⟨i+1,by omega,SFc.next hx0 (show(!df2 x.e cols)=false by rw[hc];rfl) ok⟩,by dsimp only;omega,(zle 1)⟩
 ·have g1:decide ((i:Int)<((l.map cp1).length:Int))=false:=by rw[hle];simp;omega
  rw[cv7 fun j hj=>ok j Oa]
  repeat'(first|refine yz ?_|refine bb2 [0] rfl rfl rfl rfl rfl ?_)
  all_goals rfl
theorem ec0(cols:List ByteArray)(l:List PP)(hs:∀x∈l,smE x.e)(hmax:l.length≤9223372036854775807):EvS E 65 [.d (.sl (l.map cp1)),.clo 66 [.ptr 0 0]] [cf6 cols] (.d (.bool (l.any fun x=> !df2 x.e cols))) [cf6 cols]:=by
 have h:=eb9 cols l hs hmax;rw[←cv8];refine yn func65 ntmps65 fun _ _ _ _=>?_
 repeat'(first|refine yz ?_|refine yc [0] b129 (h) ?_|refine bb2 [0] rfl rfl rfl rfl rfl ?_)
 all_goals rfl
theorem ec1(cols:List ByteArray)(x:Ex)(hx:smE x):EvS E 68 [.d (by6 x),.ptr 0 0] [cf6 cols] (.d (.bool (!df2 x cols))) [cf6 cols]:=by
 have h:=df8 x cols hx;refine yn func68 ntmps68 fun _ _ _ _=>?_
 repeat'(first|refine yz ?_|refine yp b62 h ?_|refine bb2 [0] rfl rfl rfl rfl rfl ?_)
 all_goals rfl
theorem ec2(cols:List ByteArray)(l:List Ex)(hs:∀x∈l,smE x)(hmax:l.length≤9223372036854775807):EvS E 130 [.d (.sl (l.map by6)),.clo 68 [.ptr 0 0]] [cf6 cols] (.d (.int (cv5 (l.findIdx? fun x=> !df2 x cols)))) [cf6 cols]:=by
 have hle:(l.map by6).length=l.length:=Oc
 refine yn func130 ntmps130 fun _ _ _ _=>?_
 repeat'(refine yz ?_)
 refine ac7 (α:=SFc l fun x=> !df2 x cols) (fun p=>⟨[(0,.d (.sl (l.map by6))),(1,.clo 68 [.ptr 0 0]),(7,.d (.int (l.map by6).length)),(8,.d (.int p.i))],[cf6 cols]⟩) (fun p=>l.length-p.i) ⟨0,by omega,fun j hj=>absurd hj Oa⟩ (zle 1) ?_;rintro⟨i,hi,ok⟩;dsimp only;rcases fp2 i l.length with hlt|hge
 ·have g1:decide ((i:Int)<((l.map by6).length:Int))=true:=by rw[hle];simpa using hlt
  have hx0:=fp1 hlt;generalize l[i]=x at hx0;have hx:=cv3 (f:=by6) hx0;have h1:=ec1 cols x (hs x (fp3 hx0))
  cases hc:df2 x cols with
  |false=>
   rw[hc]at h1;rw[cv6 hx0 (show(!df2 x cols)=true by rw[hc];rfl) ok]
   repeat'(first|refine yz ?_|refine yi (by6 x) hx ?_|refine ba7 [0] rfl rfl rfl rfl (FnX.clo _ _) b68 (h1) rfl rfl rfl rfl rfl ?_|refine bb2 [0] rfl rfl rfl rfl rfl ?_)
   all_goals rfl
  |true=>
   rw[hc]at h1
   repeat'(first|refine yz ?_|refine yi (by6 x) hx ?_|refine ba7 [0] rfl rfl rfl rfl (FnX.clo _ _) b68 (h1) rfl rfl rfl rfl rfl ?_)
   refine ac1 ?_;exact⟨⟨i+1,by omega,SFc.next hx0 (show(!df2 x cols)=false by rw[hc];rfl) ok⟩,by dsimp only;omega,(zle 1)⟩
 ·have g1:decide ((i:Int)<((l.map by6).length:Int))=false:=by rw[hle];simp;omega
  rw[cv7 fun j hj=>ok j Oa]
  repeat'(first|refine yz ?_|refine bb2 [0] rfl rfl rfl rfl rfl ?_)
  all_goals rfl
theorem ec3(cols:List ByteArray)(l:List Ex)(hs:∀x∈l,smE x)(hmax:l.length≤9223372036854775807):EvS E 67 [.d (.sl (l.map by6)),.clo 68 [.ptr 0 0]] [cf6 cols] (.d (.bool (l.any fun x=> !df2 x cols))) [cf6 cols]:=by
 have h:=ec2 cols l hs hmax;rw[←cv8];refine yn func67 ntmps67 fun _ _ _ _=>?_
 repeat'(first|refine yz ?_|refine yc [0] b130 (h) ?_|refine bb2 [0] rfl rfl rfl rfl rfl ?_)
 all_goals rfl
theorem ec4:∀a b:List Pl,dq1 (a++b)=dq1 a+dq1 b
 |[],b=>by rw[fr8,dq1];omega
 |x::r,b=>by rw[fs9,dq1,dq1,ec4 r b];omega
theorem ec5{l:List Pl}{i:Nat}{x:Pl}(h:l[i]? =some x):dq1 (l.take (i+1))=dq1 (l.take i)+szP x:=by
 rw[fs5,h,ec4];show _+dq1 [x]=_;rw[dq1,dq1];omega
theorem ec6(l:List Pl)(i:Nat):dq1 (l.take i)≤dq1 l:=by
 have h:=ec4 (l.take i) (l.drop i);rw[fv5]at h;omega
structure ec7(n:Nat) where
 i:Nat
 hi:i≤n
theorem ec8(p:Pl):dn6 p=dn5 p.b (p.ks.map dn6):=by obtain⟨b,ks⟩:=p;exact dn9 b ks
theorem ec9(p:Pl):szP p≤1000000→Ev E 13 [dn6 p] (.d (.int (szP p))):=by
 refine dn4 (P:=fun p=>szP p≤1000000→Ev E 13 [dn6 p] (.d (.int (szP p)))) (fun b ks ih hn=>?_) p;rw[szP]at hn;have hle:(ks.map dn6).length=ks.length:=Oc
 have hkl:=dq5 ks;rw[dn9,szP];have hrt:((dq1 ks+1:Nat):Int)=1+(dq1 ks:Int):=Oa
 rw[hrt];refine ye1 func13 ntmps13 fun _ _ _=>?_
 repeat'(refine yz ?_)
 refine ac7 (α:=ec7 ks.length) (fun p=>⟨[(3,.d (.int (1+(dq1 (ks.take p.i):Int)))),(7,.d (.sl (ks.map dn6))),(8,.d (.int (ks.map dn6).length)),(9,.d (.int p.i))],[]⟩) (fun p=>ks.length-p.i) ⟨0,by omega⟩ (zle 0) ?_;rintro⟨i,hi⟩;dsimp only;have hpt:=ec6 ks i;rcases fp2 i ks.length with hlt|hge
 ·have g1:decide ((i:Int)<((ks.map dn6).length:Int))=true:=by rw[hle];simpa using hlt
  have hx0:=fp1 hlt;generalize ks[i]=x at hx0;have hx:=cv3 (f:=dn6) hx0;have hm:=fp3 hx0;have hsx:=dq3 hm;have hc:=ih x hm Oa;have ht:=ec5 hx0;have e1:1+(dq1 (ks.take i):Int)+(szP x:Int)=1+((dq1 (ks.take (i+1)):Nat):Int):=by rw[ht];omega
  rw[ec8]at hx hc
  repeat'(first|refine yz ?_|refine qI (dn5 x.b (x.ks.map dn6)) rfl (ap1 rfl) rfl rfl rfl rfl rfl rfl Oh hx ?_|refine yp b13 hc ?_)
  refine ac1 ?_;refine⟨⟨i+1,by omega⟩,by dsimp only;omega,?_⟩;dsimp only;rw[←e1];exact(zle 0)
 ·have g1:decide ((i:Int)<((ks.map dn6).length:Int))=false:=by rw[hle];simp;omega
  rw[fq6 hge]
  exact Ok
abbrev oLv(l:Int):aa5:=.var 3 (.w (.d (.int l)))
theorem ed0(l:Int)(f:Pl→Bool)(ks:List Pl)(hmax:ks.length≤9223372036854775807)(hf:∀x∈ks,EvS E 35 [.d (dn6 x),.ptr 0 0] [oLv l] (.d (.bool (f x))) [oLv l]):
  EvS E 53 [.d (.sl (ks.map dn6)),.clo 35 [.ptr 0 0]] [oLv l] (.d (.int (cv5 (ks.findIdx? f)))) [oLv l]:=by
 have hle:(ks.map dn6).length=ks.length:=Oc
 refine yn func53 ntmps53 fun _ _ _ _=>?_
 repeat'(refine yz ?_)
 refine ac7 (α:=SFc ks f) (fun p=>⟨[(0,.d (.sl (ks.map dn6))),(1,.clo 35 [.ptr 0 0]),(7,.d (.int (ks.map dn6).length)),(8,.d (.int p.i))],[oLv l]⟩) (fun p=>ks.length-p.i) ⟨0,by omega,fun j hj=>absurd hj Oa⟩ (zle 1) ?_;rintro⟨i,hi,ok⟩;dsimp only;rcases fp2 i ks.length with hlt|hge
 ·have g1:decide ((i:Int)<((ks.map dn6).length:Int))=true:=by rw[hle];simpa using hlt
  have hx0:=fp1 hlt;generalize ks[i]=x at hx0;have hx:=cv3 (f:=dn6) hx0;have h1:=hf x (fp3 hx0);rw[ec8]at hx h1
  cases hc:f x with
  |true=>
   rw[hc]at h1;rw[cv6 hx0 hc ok]
   repeat'(first|refine yz ?_|refine qI (dn5 x.b (x.ks.map dn6)) rfl (ap1 rfl) rfl rfl rfl rfl rfl rfl Oh hx ?_|refine ba7 [0] rfl rfl rfl rfl (FnX.clo _ _) b35 (h1) rfl rfl rfl rfl rfl ?_|refine bb2 [0] rfl rfl rfl rfl rfl ?_)
   all_goals rfl
  |false=>
   rw[hc]at h1
   repeat'(first|refine yz ?_|refine qI (dn5 x.b (x.ks.map dn6)) rfl (ap1 rfl) rfl rfl rfl rfl rfl rfl Oh hx ?_|refine ba7 [0] rfl rfl rfl rfl (FnX.clo _ _) b35 (h1) rfl rfl rfl rfl rfl ?_)
   refine ac1 ?_;exact⟨⟨i+1,by omega,SFc.next hx0 hc ok⟩,by dsimp only;omega,(zle 1)⟩
 ·have g1:decide ((i:Int)<((ks.map dn6).length:Int))=false:=by rw[hle];simp;omega
  rw[cv7 fun j hj=>ok j Oa]
  repeat'(first|refine yz ?_|refine bb2 [0] rfl rfl rfl rfl rfl ?_)
  all_goals rfl
theorem ed1(l:Int)(f:Pl→Bool)(ks:List Pl)(hmax:ks.length≤9223372036854775807)(hf:∀x∈ks,EvS E 35 [.d (dn6 x),.ptr 0 0] [oLv l] (.d (.bool (f x))) [oLv l]):
  EvS E 34 [.d (.sl (ks.map dn6)),.clo 35 [.ptr 0 0]] [oLv l] (.d (.bool (ks.any f))) [oLv l]:=by
 have h:=ed0 l f ks hmax hf;rw[←cv8];refine yn func34 ntmps34 fun _ _ _ _=>?_
 repeat'(first|refine yz ?_|refine yc [0] b53 (h) ?_|refine bb2 [0] rfl rfl rfl rfl rfl ?_)
 all_goals rfl
def dpB(l:Int)(p:Pl):Bool:=decide ((dpP p:Int)>l)
theorem ed2{l:Int}(h:1≤l)(b:PB)(ks:List Pl):dpB l (.mk b ks)=ks.any (dpB (l-1)):=by
  unfold dpB;rw[dpP,fq3,decide_eq_true_eq,fy5]
  have key:∀ks:List Pl,((dq0 ks:Int)>l-1)↔∃x∈ks,(dpP x:Int)>l-1:=by
    intro ks
    induction ks with
    |nil=>rw[dq0];constructor
          · intro h';omega
          · rintro⟨x,hx,-⟩;cases hx
    |cons a r ih=>
      rw[dq0];constructor
      · intro h'
        by_cases h1:(dpP a:Int)>l-1
        · exact⟨a,by simp,h1⟩
        · obtain⟨x,hx,hd⟩:=ih.1 Oa;exact⟨x,by simp[hx],hd⟩
      · rintro⟨x,hx,hd⟩;rcases fq1.1 hx with rfl|hx
        · omega
        · have:=ih.2 ⟨x,hx,hd⟩;omega
  have h1:((dq0 ks+1:Nat):Int)>l↔(dq0 ks:Int)>l-1:=Oa
  rw[h1,key];simp only[decide_eq_true_eq]
theorem ed3(p:Pl):szP p≤1000000→∀l:Int,-1000≤l→l≤1000→Ev E 22 [dn6 p,.int l] (.d (.bool (dpB l p))):=by
 refine dn4 (P:=fun p=>szP p≤1000000→∀l:Int,-1000≤l→l≤1000→Ev E 22 [dn6 p,.int l] (.d (.bool (dpB l p)))) (fun b ks ih hn l h0 h1=>?_) p;rw[szP]at hn;have hkl:=dq5 ks
 cases c1:decide (l<1)with
 |true=>
  have hd:dpB l (.mk b ks)=true:=by
   have:=of_decide_eq_true c1;unfold dpB;rw[dpP,decide_eq_true_eq];omega
  rw[hd,dn9];refine ye2 func22 ntmps22 fun _ _ _=>?_
  exact Ok
 |false=>
  have hl:1≤l:=by have:=of_decide_eq_false c1;omega
  rw[ed2 hl]
  have hc:=ed1 l (dpB (l-1)) ks Oa fun x hx=>by
   have hsx:=dq3 hx;have h:=ih x hx Oa (l-1) Oa Oa;rw[ec8]at h ⊢;refine yn func35 ntmps35 fun _ _ _ _=>?_
   repeat'(first|refine yz ?_|refine yp b22 h ?_|refine bb2 [0] rfl rfl rfl rfl rfl ?_)
   all_goals rfl
  rw[dn9];refine ye2 func22 ntmps22 fun _ _ _=>?_
  repeat'(first|refine yz ?_|refine ba6 rfl rfl rfl rfl rfl ?_|refine yc [1] b34 (hc) ?_|refine yx ?_|exact zD)
theorem ed4{C:Cx}{s:St}{r:List It}{fn:Func}{t:Nat}(hr:fn.results= #[.tmp t])(h:lk s.tm t=.zc):go C (.code .ret::r) s (an5 C fn .zc):=by
 refine ac3 ?_;intro F σ w a hi hn hm hs;have h1:=hs t;rw[h]at h1;refine⟨a.tmps.getD t undef,F,?_,fun _ h=>h,fun b hb=>⟨hi.flt b hb,hn b hb⟩,h1⟩;have h2:(an8 a (.tmp t)).run C.E.P w=.ok (a.tmps.getD t undef) w:=by simp only[an8,Sem.run_pure]
 rw[ao0,hr];simp[h2]
theorem ed5:Ev E 45 [.sl []] .zc:=by
 refine ye1 func45 ntmps45 fun _ _ _=>?_
 repeat'(first|(refine bm5 2 rfl ?_)|(refine bm2 ?_)|(refine bm3 ?_)|(refine ed4 rfl rfl)|refine yz ?_|(refine aw8 rfl (fun _=>?_) ?_))
structure SBoP(b:List ByteArray) where
 i:Nat
 hi:i≤b.length
def joi(a b:List ByteArray)(i:Nat):List ByteArray:=a++(b.take i).filter fun s=> !(by1 a s)
theorem ed6{a b:List ByteArray}{i:Nat}{x:ByteArray}(h:b[i]? =some x):joi a b (i+1)=bif by1 a x then joi a b i else joi a b i++ [x]:=by
 unfold joi;rw[fs5,h]
 cases hc:by1 a x with
 |true=>simp[hc]
 |false=>simp[hc]
theorem ed7(a b:List ByteArray)(i:Nat):(joi a b i).length≤a.length+b.length:=by
 unfold joi;have h1:=fx2 (fun s=> !(by1 a s)) (b.take i);have h2:(b.take i).length≤b.length:=by rw[fr9];omega
 rw[fp4];omega
theorem ed8(a b:List ByteArray)(ha:a.length≤1000000)(hb:b.length≤1000000):Ev E 38 [.sl (a.map .str),.sl (b.map .str)] (.d (.sl ((do4 a b).map .str))):=by
 have hle:(b.map D.str).length=b.length:=Oc
 have hle1:(a.map D.str).length=a.length:=Oc
 have hj:do4 a b=joi a b b.length:=by unfold do4 joi;rw[List.take_length]
 rw[hj]
 by_cases h0:a=[]
 ·subst h0;have hz:=ed5;refine ye2 func38 ntmps38 fun _ _ _=>?_
  repeat'(first|refine yz ?_|refine yp b45 hz ?_)
  refine ac7 (α:=SBoP b) (fun p=>⟨[(0,.d (.sl [])),(5,bm7 0 ((joi [] b p.i).map .str)),(10,.d (.sl (b.map .str))),(11,.d (.int (b.map D.str).length)),(12,.d (.int p.i))],aw7 9 1 ((joi [] b p.i).map .str)⟩) (fun p=>b.length-p.i) ⟨0,by omega⟩ (zle 0) ?_;rintro⟨i,hi⟩;dsimp only;have hol:=ed7 [] b i;rcases fp2 i b.length with hlt|hge
  ·have g1:decide ((i:Int)<((b.map D.str).length:Int))=true:=by rw[hle];simpa using hlt
   have hx0:=fp1 hlt;generalize b[i]=x at hx0;have hx:=cv3 (f:=D.str) hx0;have hc:=ca8 [] x;have hat:=ed6 (a:=[]) hx0
   cases hh:by1 [] x with
   |true=>simp[by1]at hh
   |false=>
    rw[hh,cond_false]at hat;rw[hh]at hc;generalize joi [] b i=o at*
    match o,hol with
    |[],hol=>
     dsimp only[bm7,aw7,List.map]
     repeat'(first|refine yz ?_|refine yi (.str x) hx ?_|refine yp b60 hc ?_|(refine bm4 ?_ ?_;exact⟨by simp,fun d hd=>by(obtain rfl:=fq2.1 hd;rfl),by(show 1*16≤140737488355328;omega),by(show 1≤9223372036854775807;omega)⟩))
     refine ac1 ?_;refine⟨⟨i+1,by omega⟩,by dsimp only;omega,?_⟩;dsimp only;rw[hat];exact(bh0 [0])
    |y::q,hol=>
     dsimp only[bm7,aw7,List.map]
     repeat'(first|refine yz ?_|refine yi (.str x) hx ?_|refine yp b60 hc ?_|(refine qS rfl ⟨by simp,fun d hd=>by(obtain rfl:=fq2.1 hd;rfl),by(show _*16≤140737488355328;simp;simp only[fp5]at hol;omega),by(show _≤9223372036854775807;simp;simp only[fp5]at hol;omega)⟩ ?_))
     refine ac1 ?_;refine⟨⟨i+1,by omega⟩,by dsimp only;omega,?_⟩;dsimp only;rw[hat,ea4];exact(bh0 [1])
  ·have g1:decide ((i:Int)<((b.map D.str).length:Int))=false:=by rw[hle];simp;omega
   obtain rfl:i=b.length:=Oa
   generalize joi [] b b.length=o at*
   match o with
   |[]=>
    dsimp only[bm7,aw7,List.map];refine bm6 5 rfl ?_
    exact Ok
   |y::q=>
    dsimp only[bm7,aw7,List.map];refine au2 0 rfl ?_;dsimp only[ar6,ar5,ar8,ar7,List.map,List.set]
    exact Ok
 ·have hz:=dx2 a h0 Oa;refine ye2 func38 ntmps38 fun _ _ _=>?_
  repeat'(first|refine yz ?_|refine ax1 rfl rfl rfl rfl rfl rfl b45 (hz) ?_)
  refine ac7 (α:=SBoP b) (fun p=>⟨[(0,.d (.sl (a.map .str))),(5,bm7 0 ((joi a b p.i).map .str)),(10,.d (.sl (b.map .str))),(11,.d (.int (b.map D.str).length)),(12,.d (.int p.i))],aw7 9 1 ((joi a b p.i).map .str)⟩) (fun p=>b.length-p.i) ⟨0,by omega⟩ (by
   have e0:joi a b 0=a:=by unfold joi;simp
   dsimp only;rw[e0]
   match a,h0 with
   |x::r,_=>exact(zle 1)) ?_
  rintro⟨i,hi⟩;dsimp only;have hol:=ed7 a b i;rcases fp2 i b.length with hlt|hge
  ·have g1:decide ((i:Int)<((b.map D.str).length:Int))=true:=by rw[hle];simpa using hlt
   have hx0:=fp1 hlt;generalize b[i]=x at hx0;have hx:=cv3 (f:=D.str) hx0;have hc:=ca8 a x;have hat:=ed6 (a:=a) hx0
   cases hh:by1 a x with
   |true=>
    rw[hh,cond_true]at hat;rw[hh]at hc;generalize joi a b i=o at*
    match o with
    |[]=>
     dsimp only[bm7,aw7,List.map]
     repeat'(first|refine yz ?_|refine yi (.str x) hx ?_|refine yp b60 hc ?_)
     refine ac1 ?_;refine⟨⟨i+1,by omega⟩,by dsimp only;omega,?_⟩;dsimp only;rw[hat];exact(zle 0)
    |y::q=>
     dsimp only[bm7,aw7,List.map]
     repeat'(first|refine yz ?_|refine yi (.str x) hx ?_|refine yp b60 hc ?_)
     refine ac1 ?_;refine⟨⟨i+1,by omega⟩,by dsimp only;omega,?_⟩;dsimp only;rw[hat];exact(zle 1)
   |false=>
    rw[hh,cond_false]at hat;rw[hh]at hc;generalize joi a b i=o at*
    match o,hol with
    |[],hol=>
     dsimp only[bm7,aw7,List.map]
     repeat'(first|refine yz ?_|refine yi (.str x) hx ?_|refine yp b60 hc ?_|(refine bm4 ?_ ?_;exact⟨by simp,fun d hd=>by(obtain rfl:=fq2.1 hd;rfl),by(show 1*16≤140737488355328;omega),by(show 1≤9223372036854775807;omega)⟩))
     refine ac1 ?_;refine⟨⟨i+1,by omega⟩,by dsimp only;omega,?_⟩;dsimp only;rw[hat];exact(bh0 [0])
    |y::q,hol=>
     dsimp only[bm7,aw7,List.map]
     repeat'(first|refine yz ?_|refine yi (.str x) hx ?_|refine yp b60 hc ?_|(refine qS rfl ⟨by simp,fun d hd=>by(obtain rfl:=fq2.1 hd;rfl),by(show _*16≤140737488355328;simp;simp only[fp5]at hol;omega),by(show _≤9223372036854775807;simp;simp only[fp5]at hol;omega)⟩ ?_))
     refine ac1 ?_;refine⟨⟨i+1,by omega⟩,by dsimp only;omega,?_⟩;dsimp only;rw[hat,ea4];exact(bh0 [1])
  ·have g1:decide ((i:Int)<((b.map D.str).length:Int))=false:=by rw[hle];simp;omega
   obtain rfl:i=b.length:=Oa
   generalize joi a b b.length=o at*
   match o with
   |[]=>
    dsimp only[bm7,aw7,List.map];refine bm6 5 rfl ?_
    exact Ok
   |y::q=>
    dsimp only[bm7,aw7,List.map];refine au2 0 rfl ?_;dsimp only[ar6,ar5,ar8,ar7,List.map,List.set]
    exact Ok
attribute [local irreducible] RGw
abbrev ed9(b:PB)(K:List D):aa5:=.var 40 (.w (.d (dn5 b K)))
def ee0(p:Pl):D:=.sl ((dp8 p).1.map .str)
theorem ee1:∀{ks:List Pl} {i:Nat} {x:Pl},ks[i]? =some x→(∀p∈ks.take i,(dp8 p).2=0)→(dp8 x).2≠0→dp9 ks=([],(dp8 x).2)
 |[],_,_,h,_,_=>by cases h
 |p::r,0,x,h,_,hx=>by
  obtain rfl:p=x:=by simpa using h
  rw[dp9,show((dp8 p).2 !=0)=true by simpa using hx,cond_true]
 |p::r,i+1,x,h,h0,hx=>by
  have ih:=ee1 (ks:=r) (i:=i) (x:=x) (by simpa using h) (fun q hq=>h0 q (by simp[hq])) hx;rw[dp9,h0 p Oc,ih,show((dp8 x).2 !=0)=true by simpa using hx];rfl
theorem ee2:∀{ks:List Pl},(∀p∈ks,(dp8 p).2=0)→dp9 ks=(ks.map fun p=>(dp8 p).1,0)
 |[],_=>rfl
 |p::r,h=>by
  rw[dp9,h p Oc,ee2 fun q hq=>h q (by simp[hq])];rfl
structure SiC(ks:List Pl) where
 i:Nat
 hi:i≤ks.length
 ok:∀p∈ks.take i,(dp8 p).2=0
structure SmB(b:PB):Prop where
 vs:b.cj.vs.length≤1000000
 at_:b.cj.as.length≤1000000
 ln:du8 b.cl≤1000000000000
 e:smE b.e
 it:∀x∈b.it,smE x.e
 od:∀x∈b.od,smE x.e
 nm:(do7 b.cl.ps).length≤900000
 ne:∀p∈b.cl.ps,p.ns.length≤1000000∧p.es.length≤1000000
 ap:b.op=5→∀cols:List ByteArray,cols.length≤1000000→Ev E 40 [cp8 b.cl,.sl (cols.map .str)] (.d (.int (dp1 b.cl cols).2))
theorem ee3{op:Int}{n:Nat}(h:do0 op=n):(op=1∧n=0)∨(op=2∧n=0)∨(op=3∧n=2)∨(op=4∧n=2)∨(op=5∧n=1)∨(op=6∧n=1)∨(op=7∧n=1)∨(op=8∧n=1)∨(op=9∧n=1)∨(op=10∧n=1)∨(op=11∧n=1):=by
 unfold do0 at h
 cases c1:op==1||op==2 with
 |true=>
  rw[c1,cond_true]at h;have hn:n=0:=Oa
  have ho:op=1∨op=2:=by simpa using c1
  subst hn;rcases ho with rfl|rfl<;>simp
 |false=>
 cases c2:op==3||op==4 with
 |true=>
  rw[c1,c2]at h;have h:(2:Int)=n:=h;have hn:n=2:=Oa
  have ho:op=3∨op=4:=by simpa using c2
  subst hn;rcases ho with rfl|rfl<;>simp
 |false=>
 cases c3:decide (op≥5) &&decide (op≤11)with
 |true=>
  rw[c1,c2,c3]at h;have h:(1:Int)=n:=h;have hn:n=1:=Oa
  have h5:op≥5∧op≤11:=by simpa using c3
  have ho:op=5∨op=6∨op=7∨op=8∨op=9∨op=10∨op=11:=Oa
  subst hn;rcases ho with rfl|rfl|rfl|rfl|rfl|rfl|rfl<;>simp
 |false=>
  rw[c1,c2,c3]at h;have h:(-1:Int)=n:=h;exact absurd h Oa
theorem ee4{b:PB}{cols:List (List ByteArray)}(h:do2 b cols.length=true):dp7 b cols=
  bif b.op==1 then([],0)else bif b.op==2 then do9 b.cj else bif b.op==3||b.op==4 then(do4 (cols.getD 0 []) (cols.getD 1 []),0)else
  bif b.op==5 then dp1 b.cl (cols.getD 0 [])else bif b.op==6 then dp6 (df3 b.e (cols.getD 0 [])) (cols.getD 0 [])else
  bif b.op==7||b.op==8 then(bif decide (b.it.length>24)then erR 4 else dp3 (b.op==8) (cols.getD 0 []) b.it [])else bif b.op==9 then(cols.getD 0 [],0)else
  bif b.op==10 then dp6 (dp4 (cols.getD 0 []) b.od) (cols.getD 0 [])else dp6 (dp5 b (cols.getD 0 [])) (cols.getD 0 []++ [b.nm]):=by
 unfold dp7;rw[h,fu7,cond_false]
theorem ee5{c:CL}{cols:List ByteArray}(h:(dp1 c cols).2=0):dp1 c cols=(do4 cols (do8 c.ps),0):=by
 unfold dp1 at h ⊢
 cases c1:cs2 c !=0 with
 |true=>rw[c1,cond_true]at h;rw[show cs2 c=0 from h]at c1;cases c1
 |false=>
 cases c2: !((dp0 c.ps).all fun e=>df2 e cols)with
 |true=>rw[c1,c2]at h;exact absurd (show(6:Int)=0 from h) Od
 |false=>
 cases c3: !(c.wh.all fun e=>df2 e (do4 cols (do8 c.ps)))with
 |true=>rw[c1,c2,c3]at h;exact absurd (show(6:Int)=0 from h) Od
 |false=>
 cases c4:c.wh.any cp9 with
 |true=>rw[c1,c2,c3,c4]at h;exact absurd (show(9:Int)=0 from h) Od
 |false=>rfl
theorem ee6{c:CL}{cols:List ByteArray}(h:(dp1 c cols).2≠0):(dp1 c cols).1=[]:=by
 unfold dp1 at h ⊢
 cases c1:cs2 c !=0 with
 |true=>rfl
 |false=>
 cases c2: !((dp0 c.ps).all fun e=>df2 e cols)with
 |true=>rfl
 |false=>
 cases c3: !(c.wh.all fun e=>df2 e (do4 cols (do8 c.ps)))with
 |true=>rfl
 |false=>
 cases c4:c.wh.any cp9 with
 |true=>rfl
 |false=>rw[c1,c2,c3,c4]at h;exact absurd rfl h
set_option maxHeartbeats 8000000 in
theorem ee7(p:Pl):alB SmB p→szP p≤1000000→cwP p≤1000000→Ev E 23 [dn6 p] (.tup [.sl ((dp8 p).1.map .str),.int (dp8 p).2]):=by
 refine dn4 (P:=fun p=>alB SmB p→szP p≤1000000→cwP p≤1000000→Ev E 23 [dn6 p] (.tup [.sl ((dp8 p).1.map .str),.int (dp8 p).2])) (fun b ks ih hs hz hw=>?_) p;rw[alB]at hs;rw[szP]at hz;rw[cwP]at hw;have hks:=ea7 hs.2;have hkl:=dq5 ks;have hsb:=hs.1;have hle:(ks.map dn6).length=ks.length:=Oc
 have hf:=dv5 b (ks.map dn6) (by rw[hle];omega) (by have:=hsb.vs;have:=hsb.at_;omega) hsb.ln;rw[dn9];generalize hR:dp8 (.mk b ks)=R;refine ye1 func23 ntmps23 fun _ _ _=>?_
 repeat'(refine yz ?_)
 refine ac7 (α:=SiC ks) (fun q=>⟨[(1,.ptr 0 0),(4,bf9 1 ((ks.take q.i).map ee0)),(12,.d (.sl (ks.map dn6))),(13,.d (.int (ks.map dn6).length)),(14,.d (.int q.i))],[ed9 b (ks.map dn6)]++aw7 23 1 ((ks.take q.i).map ee0)⟩) (fun q=>ks.length-q.i) ⟨0,by omega,fun _ h=>by cases h⟩ (zle 1) ?_;rintro⟨i,hi,ok⟩;dsimp only;rcases fp2 i ks.length with hlt|hge
 ·have g1:decide ((i:Int)<((ks.map dn6).length:Int))=true:=by rw[hle];simpa using hlt
  have hx0:=fp1 hlt;generalize ks[i]=x at hx0;have hx:=cv3 (f:=dn6) hx0;have hm:=fp3 hx0;have hsx:=dq3 hm;have hwx:=eb0 hm;have hc:=ih x hm (hks x hm) Oa Oa;have htk:(ks.take (i+1)).map ee0=(ks.take i).map ee0++ [ee0 x]:=by rw[fs5,hx0,fu3];rfl
  have hln:((ks.take i).map ee0).length≤1000000:=by rw[fp6,fr9];omega
  rw[ec8]at hx hc
  cases hz0:(dp8 x).2 !=0 with
  |true=>
   have hne:(dp8 x).2≠0:=by simpa using hz0
   have hR2:R=erR (dp8 x).2:=by
    rw[←hR,dp8,ee1 hx0 ok hne,show((([]:List (List ByteArray)),(dp8 x).2).2 !=0)=true from hz0];rfl
   subst hR2;generalize(dp8 x).2=z at*;clear htk
   match(ks.take i).map ee0 with
   |[]=>
    dsimp only[bf9,aw7,List.append,HAppend.hAppend,Append.append]
    repeat'(first|refine yz ?_|refine qI (dn5 x.b (x.ks.map dn6)) rfl (ap1 rfl) rfl rfl rfl rfl rfl rfl Oh hx ?_|refine yp b23 hc ?_|exact zL)
   |d::r=>
    dsimp only[bf9,aw7,List.append,HAppend.hAppend,Append.append]
    repeat'(first|refine yz ?_|refine qI (dn5 x.b (x.ks.map dn6)) rfl (ap1 rfl) rfl rfl rfl rfl rfl rfl Oh hx ?_|refine yp b23 hc ?_|exact zL)
  |false=>
   have h0:(dp8 x).2=0:=by simpa using hz0
   rw[h0]at hc
   have hok:∀p∈ks.take (i+1),(dp8 p).2=0:=by
    intro p hp;rw[fs5,hx0]at hp;rcases fr6.1 hp with hp|hp
    ·exact ok p hp
    ·obtain rfl:p=x:=by simpa using hp
     exact h0
   generalize(ks.take i).map ee0=K at*
   match K with
   |[]=>
    dsimp only[bf9,aw7,List.append,HAppend.hAppend,Append.append]
    repeat'(first|refine yz ?_|refine qI (dn5 x.b (x.ks.map dn6)) rfl (ap1 rfl) rfl rfl rfl rfl rfl rfl Oh hx ?_|refine yp b23 hc ?_|(refine qS rfl ⟨by simp,fun d hd=>by(obtain rfl:=fq2.1 hd;rfl),by(show _*24≤140737488355328;simp<;>omega),by(show _≤9223372036854775807;simp<;>omega)⟩ ?_))
    refine ac1 ?_;refine⟨⟨i+1,by omega,hok⟩,by dsimp only;omega,?_⟩;dsimp only;rw[htk];exact(bh0 [0,2])
   |d::r=>
    have hr:r.length≤999999:=by simp only[fp5]at hln;omega
    dsimp only[bf9,aw7,List.append,HAppend.hAppend,Append.append]
    repeat'(first|refine yz ?_|refine qI (dn5 x.b (x.ks.map dn6)) rfl (ap1 rfl) rfl rfl rfl rfl rfl rfl Oh hx ?_|refine yp b23 hc ?_|(refine qS rfl ⟨by simp,fun d hd=>by(obtain rfl:=fq2.1 hd;rfl),by(show _*24≤140737488355328;simp<;>omega),by(show _≤9223372036854775807;simp<;>omega)⟩ ?_))
    refine ac1 ?_;refine⟨⟨i+1,by omega,hok⟩,by dsimp only;omega,?_⟩;dsimp only;rw[htk];exact(bh0 [0,3])
 ·have g1:decide ((i:Int)<((ks.map dn6).length:Int))=false:=by rw[hle];simp;omega
  have hall:∀p∈ks,(dp8 p).2=0:=by rw[fq6 hge]at ok;exact ok
  have hsel:R=dp7 b (ks.map fun p=>(dp8 p).1):=by rw[←hR,dp8,ee2 hall];rfl
  have hcw:∀p∈ks,(dp8 p).1.length≤1000000:=fun p hp=>by have h1:=eb7 p;have h2:=eb0 hp;omega
  rw[fq6 hge];clear hge ok hR ih hks hall hi;rw[hle]at hf
  cases hfm:do2 b ks.length with
  |false=>
   have hR:R=([],25):=by rw[hsel];unfold dp7;rw[fp6,hfm];rfl
   subst hR;rw[hfm]at hf;clear hsel hcw;generalize ks.map ee0=K at*
   match K with
   |[]=>
    dsimp only[bf9,aw7,List.append,HAppend.hAppend,Append.append]
    repeat'(first|refine yz ?_|refine yp b36 hf ?_|exact zL)
   |d::r=>
    dsimp only[bf9,aw7,List.append,HAppend.hAppend,Append.append]
    repeat'(first|refine yz ?_|refine yp b36 hf ?_|exact zL)
  |true=>
   rw[hfm]at hf;have hse:=ee4 (b:=b) (cols:=ks.map fun p=>(dp8 p).1) (by rw[fp6];exact hfm);rw[hse]at hsel;clear hse;have hko:=ee3 (dq9 hfm);clear hfm;obtain⟨op,cj,cl,e,nm,it,od,sk,lm⟩:=b;dsimp only at hko hsel;rcases hko with⟨rfl,hn⟩|⟨rfl,hn⟩|⟨rfl,hn⟩|⟨rfl,hn⟩|⟨rfl,hn⟩|⟨rfl,hn⟩|⟨rfl,hn⟩|⟨rfl,hn⟩|⟨rfl,hn⟩|⟨rfl,hn⟩|⟨rfl,hn⟩
   ·-- op 1
    obtain rfl:ks=[]:=fz7.1 hn;obtain rfl:R=([],0):=hsel
    repeat'(first|refine yz ?_|refine yp b36 hf ?_|exact zL)
   ·-- op 2
    obtain rfl:ks=[]:=fz7.1 hn;have hm:=dx8 cj hsb.vs;obtain rfl:R=do9 cj:=hsel;generalize do9 cj=z at*
    repeat'(first|refine yz ?_|refine yp b36 hf ?_|refine yp b37 hm ?_|exact zL)
   ·-- op 3
    obtain⟨k,l,rfl⟩:∃k l,ks=[k,l]:=by(match ks,hn with|[k,l],_=>exact⟨k,l,rfl⟩)
    have hcl:=hcw k Oc;have hcl2:=hcw l Oc;dsimp only[List.map,ee0,bf9,aw7,List.append,HAppend.hAppend,Append.append,List.getD_cons_zero]at*;generalize(dp8 k).1=c at*;generalize(dp8 l).1=d at*;have hk0:([D.sl (c.map D.str),D.sl (d.map D.str)]:List D)[((0:Int)).toNat]? =some (.sl (c.map .str)):=rfl;have hk1:([D.sl (c.map D.str),D.sl (d.map D.str)]:List D)[((1:Int)).toNat]? =some (.sl (d.map .str)):=rfl;have hj:=ed8 c d hcl hcl2;obtain rfl:R=(do4 c d,0):=hsel;generalize do4 c d=z at*
    repeat'(first|refine yz ?_|refine yp b36 hf ?_|(refine qS rfl ?_ ?_;exact⟨by decide,by(simp<;>omega)⟩)|refine qW (.sl (c.map .str)) rfl rfl rfl rfl rfl rfl hk0 rfl ?_|refine qW (.sl (d.map .str)) rfl rfl rfl rfl rfl rfl hk1 rfl ?_|refine yp b38 hj ?_|exact zL)
   ·-- op 4
    obtain⟨k,l,rfl⟩:∃k l,ks=[k,l]:=by(match ks,hn with|[k,l],_=>exact⟨k,l,rfl⟩)
    have hcl:=hcw k Oc;have hcl2:=hcw l Oc;dsimp only[List.map,ee0,bf9,aw7,List.append,HAppend.hAppend,Append.append,List.getD_cons_zero]at*;generalize(dp8 k).1=c at*;generalize(dp8 l).1=d at*;have hk0:([D.sl (c.map D.str),D.sl (d.map D.str)]:List D)[((0:Int)).toNat]? =some (.sl (c.map .str)):=rfl;have hk1:([D.sl (c.map D.str),D.sl (d.map D.str)]:List D)[((1:Int)).toNat]? =some (.sl (d.map .str)):=rfl;have hj:=ed8 c d hcl hcl2;obtain rfl:R=(do4 c d,0):=hsel;generalize do4 c d=z at*
    repeat'(first|refine yz ?_|refine yp b36 hf ?_|(refine qS rfl ?_ ?_;exact⟨by decide,by(simp<;>omega)⟩)|refine qW (.sl (c.map .str)) rfl rfl rfl rfl rfl rfl hk0 rfl ?_|refine qW (.sl (d.map .str)) rfl rfl rfl rfl rfl rfl hk1 rfl ?_|refine yp b38 hj ?_|exact zL)
   all_goals(obtain⟨k,rfl⟩:=List.length_eq_one_iff.1 hn;have hcl:=hcw k Oc;dsimp only[List.map,ee0,bf9,aw7,List.append,HAppend.hAppend,Append.append,List.getD_cons_zero]at*;generalize(dp8 k).1=c at*;have hk0:([D.sl (c.map D.str)]:List D)[((0:Int)).toNat]? =some (.sl (c.map .str)):=rfl)
   ·-- op 5
    have h5:=hsb.ap rfl c hcl;have hv:=ea5 cl.ps hsb.nm hsb.ne;have hvl:=eb3 cl.ps;have hnm:=hsb.nm;have hj:=ed8 c (do8 cl.ps) hcl (by dsimp only at hnm;omega);have hR:R=dp1 cl c:=hsel;dsimp only at h5
    cases hz0:(dp1 cl c).2 !=0 with
    |true=>
     have hR2:R=([],(dp1 cl c).2):=by rw[hR];exact Prod.ext (ee6 (by simpa using hz0)) rfl
     subst hR2;clear hR hsel;generalize(dp1 cl c).2=z at*;generalize do4 c (do8 cl.ps)=j at*;generalize do8 cl.ps=v at*
     repeat'(first|refine yz ?_|refine yp b36 hf ?_|(refine qS rfl ?_ ?_;exact⟨by decide,by(simp<;>omega)⟩)|refine qW (.sl (c.map .str)) rfl rfl rfl rfl rfl rfl hk0 rfl ?_|refine yp b40 h5 ?_|refine yp b41 hv ?_|refine yp b38 hj ?_|exact zL)
    |false=>
     have hz1:(dp1 cl c).2=0:=by simpa using hz0
     rw[hz1]at h5;rw[ee5 hz1]at hR;subst hR;clear hsel;generalize do4 c (do8 cl.ps)=j at*;generalize do8 cl.ps=v at*
     repeat'(first|refine yz ?_|refine yp b36 hf ?_|(refine qS rfl ?_ ?_;exact⟨by decide,by(simp<;>omega)⟩)|refine qW (.sl (c.map .str)) rfl rfl rfl rfl rfl rfl hk0 rfl ?_|refine yp b40 h5 ?_|refine yp b41 hv ?_|refine yp b38 hj ?_|exact zL)
   ·-- op 6
    have hx:=df9 e c (dx4 hsb.e) hsb.e
    cases hz0:df3 e c !=0 with
    |true=>
     have hR2:R=([],df3 e c):=by rw[hsel];show dp6 (df3 e c) c=_;unfold dp6;rw[hz0];rfl
     subst hR2;clear hsel;generalize df3 e c=z at*
     repeat'(first|refine yz ?_|refine yp b36 hf ?_|(refine qS rfl ?_ ?_;exact⟨by decide,by(simp<;>omega)⟩)|refine qW (.sl (c.map .str)) rfl rfl rfl rfl rfl rfl hk0 rfl ?_|refine yp b42 hx ?_|exact zL)
    |false=>
     have hz1:df3 e c=0:=by simpa using hz0
     have hR2:R=(c,0):=by rw[hsel];show dp6 (df3 e c) c=_;unfold dp6;rw[hz0];rfl
     subst hR2;rw[hz1]at hx;clear hsel
     repeat'(first|refine yz ?_|refine yp b36 hf ?_|(refine qS rfl ?_ ?_;exact⟨by decide,by(simp<;>omega)⟩)|refine qW (.sl (c.map .str)) rfl rfl rfl rfl rfl rfl hk0 rfl ?_|refine yp b42 hx ?_|exact zL)
   ·-- op 7
    have hi:=dy1 ⟨7,cj,cl,e,nm,it,od,sk,lm⟩ [dn6 k] c hsb.it;dsimp only at hi;have hR:R=(bif decide (it.length>24)then erR 4 else dp3 ((7:Int)==8) c it []):=hsel;rw[←hR]at hi;clear hR hsel
    repeat'(first|refine yz ?_|refine yp b36 hf ?_|(refine qS rfl ?_ ?_;exact⟨by decide,by(simp<;>omega)⟩)|refine qW (.sl (c.map .str)) rfl rfl rfl rfl rfl rfl hk0 rfl ?_|refine yp b39 hi ?_|exact zL)
   ·-- op 8
    have hi:=dy1 ⟨8,cj,cl,e,nm,it,od,sk,lm⟩ [dn6 k] c hsb.it;dsimp only at hi;have hR:R=(bif decide (it.length>24)then erR 4 else dp3 ((8:Int)==8) c it []):=hsel;rw[←hR]at hi;clear hR hsel
    repeat'(first|refine yz ?_|refine yp b36 hf ?_|(refine qS rfl ?_ ?_;exact⟨by decide,by(simp<;>omega)⟩)|refine qW (.sl (c.map .str)) rfl rfl rfl rfl rfl rfl hk0 rfl ?_|refine yp b39 hi ?_|exact zL)
   ·-- op 9
    obtain rfl:R=(c,0):=hsel
    repeat'(first|refine yz ?_|refine yp b36 hf ?_|(refine qS rfl ?_ ?_;exact⟨by decide,by(simp<;>omega)⟩)|refine qW (.sl (c.map .str)) rfl rfl rfl rfl rfl rfl hk0 rfl ?_|exact zL)
   ·-- op 10
    have hx:=dx6 od c hsb.od
    cases hz0:dp4 c od !=0 with
    |true=>
     have hR2:R=([],dp4 c od):=by rw[hsel];show dp6 (dp4 c od) c=_;unfold dp6;rw[hz0];rfl
     subst hR2;clear hsel;generalize dp4 c od=z at*
     repeat'(first|refine yz ?_|refine yp b36 hf ?_|(refine qS rfl ?_ ?_;exact⟨by decide,by(simp<;>omega)⟩)|refine qW (.sl (c.map .str)) rfl rfl rfl rfl rfl rfl hk0 rfl ?_|refine yp b43 hx ?_|exact zL)
    |false=>
     have hz1:dp4 c od=0:=by simpa using hz0
     have hR2:R=(c,0):=by rw[hsel];show dp6 (dp4 c od) c=_;unfold dp6;rw[hz0];rfl
     subst hR2;rw[hz1]at hx;clear hsel
     repeat'(first|refine yz ?_|refine yp b36 hf ?_|(refine qS rfl ?_ ?_;exact⟨by decide,by(simp<;>omega)⟩)|refine qW (.sl (c.map .str)) rfl rfl rfl rfl rfl rfl hk0 rfl ?_|refine yp b43 hx ?_|exact zL)
   ·-- op 11
    have hx:=dx7 ⟨11,cj,cl,e,nm,it,od,sk,lm⟩ [dn6 k] c hsb.e
    by_cases h0:c=[]
    ·subst h0;have hcl2:=ed5
     cases hz0:dp5 ⟨11,cj,cl,e,nm,it,od,sk,lm⟩ [] !=0 with
     |true=>
      have hR2:R=([],dp5 ⟨11,cj,cl,e,nm,it,od,sk,lm⟩ []):=by rw[hsel];show dp6 (dp5 ⟨11,cj,cl,e,nm,it,od,sk,lm⟩ []) ([]++ [nm])=_;unfold dp6;rw[hz0];rfl
      subst hR2;clear hsel;generalize dp5 ⟨11,cj,cl,e,nm,it,od,sk,lm⟩ []=z at*
      repeat'(first|refine bh4 (id:=34) [5] [] Ob Ob Oj ?_|refine reF (id:=34) (i:=0) 5 Ob rfl ?_|refine reF (id:=34) (i:=6) 1 Ob rfl ?_|refine reN ?_|refine yz ?_|refine yp b36 hf ?_|(refine qS rfl ?_ ?_;exact⟨by decide,by(simp<;>omega)⟩)|refine qW (.sl (([]:List ByteArray).map .str)) rfl rfl rfl rfl rfl rfl hk0 rfl ?_|refine yp b44 hx ?_|refine yp b45 hcl2 ?_|refine reZ (id:=34) (i:=5) (⟨by simp,fun d hd=>by(obtain rfl:=fq2.1 hd;rfl),by(show 1*16≤140737488355328;omega),by(show 1≤9223372036854775807;omega)⟩) rfl rfl rfl rfl rfl rfl rfl rfl rfl rfl Oj ?_|exact zL)
     |false=>
      have hz1:dp5 ⟨11,cj,cl,e,nm,it,od,sk,lm⟩ []=0:=by simpa using hz0
      have hR2:R=([]++ [nm],0):=by rw[hsel];show dp6 (dp5 ⟨11,cj,cl,e,nm,it,od,sk,lm⟩ []) ([]++ [nm])=_;unfold dp6;rw[hz0];rfl
      subst hR2;rw[hz1]at hx;clear hsel hz0 hz1;have hmp:([]++ [nm]).map D.str=([]:List ByteArray).map D.str++ [.str nm]:=Oc
      rw[hmp]
      repeat'(first|refine bh4 (id:=34) [5] [] Ob Ob Oj ?_|refine reF (id:=34) (i:=0) 5 Ob rfl ?_|refine reF (id:=34) (i:=6) 1 Ob rfl ?_|refine reN ?_|refine yz ?_|refine yp b36 hf ?_|(refine qS rfl ?_ ?_;exact⟨by decide,by(simp<;>omega)⟩)|refine qW (.sl (([]:List ByteArray).map .str)) rfl rfl rfl rfl rfl rfl hk0 rfl ?_|refine yp b44 hx ?_|refine yp b45 hcl2 ?_|refine reZ (id:=34) (i:=5) (⟨by simp,fun d hd=>by(obtain rfl:=fq2.1 hd;rfl),by(show 1*16≤140737488355328;omega),by(show 1≤9223372036854775807;omega)⟩) rfl rfl rfl rfl rfl rfl rfl rfl rfl rfl Oj ?_)
      refine au2 2 rfl ?_;dsimp only[ar6,ar5,ar8,ar7,List.map,List.set]
      repeat'(first|refine qM rfl rfl rfl ?_|exact zL)
    ·have hcl2:=dx2 c h0 Oa
     cases hz0:dp5 ⟨11,cj,cl,e,nm,it,od,sk,lm⟩ c !=0 with
     |true=>
      have hR2:R=([],dp5 ⟨11,cj,cl,e,nm,it,od,sk,lm⟩ c):=by rw[hsel];show dp6 (dp5 ⟨11,cj,cl,e,nm,it,od,sk,lm⟩ c) (c++ [nm])=_;unfold dp6;rw[hz0];rfl
      subst hR2;clear hsel;generalize dp5 ⟨11,cj,cl,e,nm,it,od,sk,lm⟩ c=z at*
      repeat'(first|refine bh4 (id:=34) [1,5] [] Ob Ob Oj ?_|refine reF (id:=34) (i:=0) 1 Ob rfl ?_|(refine reV (id:=34) (i:=2) rfl rfl rfl rfl rfl rfl ?_ ?_;(first|exact True.intro|rfl|assumption|omega|(simp only[inR];omega)|((show _≤(9223372036854775807:Nat));(try simp only[ByteArray.size_append]);omega)|exact au6 Oa Oa|exact au7 Oa Oa|exact⟨rfl,by decide,by decide⟩))|(refine reV (id:=34) (i:=3) rfl rfl rfl rfl rfl rfl ?_ ?_;(first|exact True.intro|rfl|assumption|omega|(simp only[inR];omega)|((show _≤(9223372036854775807:Nat));(try simp only[ByteArray.size_append]);omega)|exact au6 Oa Oa|exact au7 Oa Oa|exact⟨rfl,by decide,by decide⟩))|refine reF (id:=34) (i:=6) 1 Ob rfl ?_|refine reN ?_|refine yz ?_|refine yp b36 hf ?_|(refine qS rfl ?_ ?_;exact⟨by decide,by(simp<;>omega)⟩)|refine qW (.sl (c.map .str)) rfl rfl rfl rfl rfl rfl hk0 rfl ?_|refine yp b44 hx ?_|refine bl8 (id:=34) (i:=1) rfl rfl rfl rfl rfl rfl b45 rfl (hcl2) Oj ?_|(refine reV2 (id:=34) (i:=4) rfl rfl rfl rfl rfl rfl ?_ ?_;(first|exact True.intro|rfl|assumption|omega|(simp only[inR];omega)|((show _≤(9223372036854775807:Nat));(try simp only[ByteArray.size_append]);omega)|exact au6 Oa Oa|exact au7 Oa Oa|exact⟨rfl,by decide,by decide⟩))|refine reS (id:=34) (i:=5) rfl rfl rfl rfl (⟨by simp,fun d hd=>by(obtain rfl:=fq2.1 hd;rfl),by(show((c.map D.str).length+1)*16≤140737488355328;rw[fp6];omega),by(show(c.map D.str).length+1≤9223372036854775807;rw[fp6];omega)⟩) Oj ?_|exact zL)
     |false=>
      have hz1:dp5 ⟨11,cj,cl,e,nm,it,od,sk,lm⟩ c=0:=by simpa using hz0
      have hR2:R=(c++ [nm],0):=by rw[hsel];show dp6 (dp5 ⟨11,cj,cl,e,nm,it,od,sk,lm⟩ c) (c++ [nm])=_;unfold dp6;rw[hz0];rfl
      subst hR2;rw[hz1]at hx;clear hsel hz0 hz1;have hmp:(c++ [nm]).map D.str=c.map D.str++ [.str nm]:=Oc
      rw[hmp]
      repeat'(first|refine bh4 (id:=34) [1,5] [] Ob Ob Oj ?_|refine reF (id:=34) (i:=0) 1 Ob rfl ?_|(refine reV (id:=34) (i:=2) rfl rfl rfl rfl rfl rfl ?_ ?_;(first|exact True.intro|rfl|assumption|omega|(simp only[inR];omega)|((show _≤(9223372036854775807:Nat));(try simp only[ByteArray.size_append]);omega)|exact au6 Oa Oa|exact au7 Oa Oa|exact⟨rfl,by decide,by decide⟩))|(refine reV (id:=34) (i:=3) rfl rfl rfl rfl rfl rfl ?_ ?_;(first|exact True.intro|rfl|assumption|omega|(simp only[inR];omega)|((show _≤(9223372036854775807:Nat));(try simp only[ByteArray.size_append]);omega)|exact au6 Oa Oa|exact au7 Oa Oa|exact⟨rfl,by decide,by decide⟩))|refine reF (id:=34) (i:=6) 1 Ob rfl ?_|refine reN ?_|refine yz ?_|refine yp b36 hf ?_|(refine qS rfl ?_ ?_;exact⟨by decide,by(simp<;>omega)⟩)|refine qW (.sl (c.map .str)) rfl rfl rfl rfl rfl rfl hk0 rfl ?_|refine yp b44 hx ?_|refine bl8 (id:=34) (i:=1) rfl rfl rfl rfl rfl rfl b45 rfl (hcl2) Oj ?_|(refine reV2 (id:=34) (i:=4) rfl rfl rfl rfl rfl rfl ?_ ?_;(first|exact True.intro|rfl|assumption|omega|(simp only[inR];omega)|((show _≤(9223372036854775807:Nat));(try simp only[ByteArray.size_append]);omega)|exact au6 Oa Oa|exact au7 Oa Oa|exact⟨rfl,by decide,by decide⟩))|refine reS (id:=34) (i:=5) rfl rfl rfl rfl (⟨by simp,fun d hd=>by(obtain rfl:=fq2.1 hd;rfl),by(show((c.map D.str).length+1)*16≤140737488355328;rw[fp6];omega),by(show(c.map D.str).length+1≤9223372036854775807;rw[fp6];omega)⟩) Oj ?_)
      refine au2 3 rfl ?_;dsimp only[ar6,ar5,ar8,ar7,List.map,List.set]
      repeat'(first|refine qM rfl rfl rfl ?_|exact zL)
end Go.Proofs.YtndgolmgaenlfaaGreatDoor
