/- Operators by the specification. Conditions: as each says. -/
import Derived.Test.YtndgolmgaenlfaaGreatDoorKA
import Derived.Test.YtndgolmgaenlfaaGreatDoorKD
set_option linter.unusedVariables false
set_option linter.unusedSimpArgs false
namespace Go.Proofs.YtndgolmgaenlfaaGreatDoor
set_option maxRecDepth 4000
open Go Go.Abs Go.Val Go.RowKit Go.Proofs.Tryz
attribute [local irreducible] go SGo an1 Ev au8 EvO EvS RGo
attribute [local irreducible] PGo RGw
abbrev oCLk(c:CL):aa5:=.var 38 (.w (.d (co6 c)))
theorem eo0(l:List Ex):l.any co7= !(l.all fun e=> !co7 e):=by
 rw[fk9];simp
set_option maxHeartbeats 4000000 in
theorem eo1(c:CL)(cols:List ByteArray)(hs:SmC c)(hcl:cols.length≤1000000):Ev E 73 [co6 c,.sl (cols.map .str)] (.tup [.sl ((dn1 c cols).1.map .str),.int (dn1 c cols).2]):=Ev.fit fun hfit=>by
 have hk:=en9 c hs.ok;have hfc:=(hfit (co6 c) Oc).aggs;have hmp:c.ps.length≤9223372036854775807:=(ct4 (hfc (.sl (c.ps.map co2)) (by simp[co6]))).1;have hmw:c.wh.length≤9223372036854775807:=(by9 (hfc (.sl (by0 c.wh)) (by simp[co6]))).1;have hVars:=en2 c.ps hs.nm hs.ne;have hvl:(dm8 c.ps).length≤900000:=by have h:=dx7 (dm7 c.ps) [];have h2:=hs.nm;unfold dm8;unfold dx5 at h;simp only[fk4]at h;omega
 have hj:=el7 cols (dm8 c.ps) hcl Oa;have hpr:∀p∈c.ps,Ev E 138 [co2 p,.sl (cols.map .str)] (.d (.bool (prA cols p))):=fun p hp=>em5 p cols fun q hq=>hs.pr q (fq7.2 ⟨p,hp,hq⟩)
 have hsw:∀e∈c.wh,nd e≤1000000:=fun e he=>hs.wh e he
 have hle:(c.ps.map co2).length=c.ps.length:=Oc
 have hlw:(by0 c.wh).length=c.wh.length:=by7 _;unfold dn1;rw[prx_A,eo0];clear hs hfit hfc;generalize cr0 c=z at*;generalize dm8 c.ps=vp at*
 cases hz:z !=0 with
 |true=>
  rw[cond_true];unfold erR;refine ye2 func73 ntmps73 fun _ _ _=>?_
  repeat'(first|refine yz ?_|refine yp b136 hk ?_|exact zL)
 |false=>
 have hz0:z=0:=by simpa using hz
 subst hz0;rw[cond_false];clear hz;generalize dm4 cols vp=out at*;refine ye2 func73 ntmps73 fun _ _ _=>?_
 repeat'(first|refine yz ?_|refine yp b136 hk ?_|refine yp b137 hVars ?_|refine yp b72 hj ?_)
 refine ac7 (α:=SKp c.ps (prA cols)) (fun s=>⟨[(1,.d (.sl (cols.map .str))),(2,.ptr 0 0),(7,.d (.sl (out.map .str))),(8,.d (.int s.i))],[oCLk c]⟩) (fun s=>c.ps.length-s.i) ⟨0,by omega,rfl⟩ (zle 1) ?_;rintro⟨i,hi,ok⟩;dsimp only;rcases fj8 i c.ps.length with hlt|hge
 ·have g1:decide ((i:Int)<((c.ps.map co2).length:Int))=true:=by rw[hle];simpa using hlt
  have hx0:=fj7 hlt;generalize c.ps[i]=x at hx0;have hx:=ct3 (f:=co2) hx0;have hm:=fj9 hx0;have hp:=hpr x hm
  cases hc:prA cols x with
  |true=>
   rw[hc]at hp
   repeat'(first|refine yz ?_|refine yi (co2 x) hx ?_|refine yp b138 hp ?_)
   refine ac1 ?_;exact⟨⟨i+1,by omega,SKp.next hx0 ok hc⟩,by dsimp only;omega,(zle 1)⟩
  |false=>
   rw[hc]at hp;rw[em1 hm hc,fp5,cond_true];unfold erR
   repeat'(first|refine yz ?_|refine yi (co2 x) hx ?_|refine yp b138 hp ?_|exact zL)
 ·have g1:decide ((i:Int)<((c.ps.map co2).length:Int))=false:=by rw[hle];simp;omega
  rw[fl4 hge]at ok;rw[ok,fp8,cond_false]
  repeat'(refine yz ?_)
  refine ac7 (α:=SKp c.wh fun e=>dd2 e out) (fun s=>⟨[(1,.d (.sl (cols.map .str))),(2,.ptr 0 0),(7,.d (.sl (out.map .str))),(9,.d (.int s.i))],[oCLk c]⟩) (fun s=>c.wh.length-s.i) ⟨0,by omega,rfl⟩ (zle 1) ?_;rintro⟨k,hk2,ok2⟩;dsimp only;rcases fj8 k c.wh.length with hlt2|hge2
  ·have g2:decide ((k:Int)<((by0 c.wh).length:Int))=true:=by rw[hlw];simpa using hlt2
   have hy0:=fj7 hlt2;generalize c.wh[k]=y at hy0;have hy:(by0 c.wh)[(k:Int).toNat]? =some (by1 y):=by5 (by rw[fm2];exact hy0);have hm:=fj9 hy0;have hp:=el5 y out (hsw y hm)
   cases hc:dd2 y out with
   |true=>
    rw[hc]at hp
    repeat'(first|refine yz ?_|refine yi (by1 y) hy ?_|refine yp bp8 hp ?_)
    refine ac1 ?_;exact⟨⟨k+1,by omega,SKp.next hy0 ok2 hc⟩,by dsimp only;omega,(zle 1)⟩
   |false=>
    rw[hc]at hp;rw[em1 (f:=fun e=>dd2 e out) hm hc,fp5,cond_true];unfold erR
    repeat'(first|refine yz ?_|refine yi (by1 y) hy ?_|refine yp bp8 hp ?_|exact zL)
  ·have g2:decide ((k:Int)<((by0 c.wh).length:Int))=false:=by rw[hlw];simp;omega
   rw[fl4 hge2]at ok2;rw[ok2,fp8,cond_false]
   repeat'(refine yz ?_)
   refine ac7 (α:=SKp c.wh fun e=> !co7 e) (fun s=>⟨[(1,.d (.sl (cols.map .str))),(2,.ptr 0 0),(7,.d (.sl (out.map .str))),(10,.d (.int s.i))],[oCLk c]⟩) (fun s=>c.wh.length-s.i) ⟨0,by omega,rfl⟩ (zle 1) ?_;rintro⟨m,hm3,ok3⟩;dsimp only;rcases fj8 m c.wh.length with hlt3|hge3
   ·have g3:decide ((m:Int)<((by0 c.wh).length:Int))=true:=by rw[hlw];simpa using hlt3
    have hy0:=fj7 hlt3;generalize c.wh[m]=y at hy0;have hy:(by0 c.wh)[(m:Int).toNat]? =some (by1 y):=by5 (by rw[fm2];exact hy0);have hm:=fj9 hy0;have hp:=dq6 y
    cases hc:co7 y with
    |false=>
     rw[hc]at hp
     repeat'(first|refine yz ?_|refine yi (by1 y) hy ?_|refine yp bp9 hp ?_)
     refine ac1 ?_;exact⟨⟨m+1,by omega,SKp.next hy0 ok3 (by rw[hc];rfl)⟩,by dsimp only;omega,(zle 1)⟩
    |true=>
     rw[hc]at hp;rw[em1 (f:=fun e=> !co7 e) hm (by rw[hc];rfl),fp5,cond_true];unfold erR
     repeat'(first|refine yz ?_|refine yi (by1 y) hy ?_|refine yp bp9 hp ?_|exact zL)
   ·have g3:decide ((m:Int)<((by0 c.wh).length:Int))=false:=by rw[hlw];simp;omega
    rw[fl4 hge3]at ok3;rw[ok3,fp8,cond_false]
    exact Ok
def eo2(e:Ex)(cols:List ByteArray)(w:Bool):Int:=bif cn6 e !=0 then cn6 e else bif !(dd2 e cols)then 6 else bif co7 e&& !(w&&e.op==24)then 9 else 0
theorem eo3(e:Ex)(cols:List ByteArray)(w:Bool)(hn:nd e≤1000000):Ev E 74 [by1 e,.sl (cols.map .str),.bool w] (.d (.int (eo2 e cols w))):=by
 have hd:=db1 e;have hk:=cn8 e Oa Oa;have h1:=el5 e cols hn;have h2:=dq6 e;unfold eo2;generalize dd2 e cols=kn at*;generalize co7 e=ha at*
 cases hc:cn6 e !=0 with
 |true=>
  rw[cond_true];generalize cn6 e=z at*;refine ye3 func74 ntmps74 fun _ _ _=>?_
  repeat'(first|refine yz ?_|refine yp b76 hk ?_|exact zD)
 |false=>
  rw[cond_false];have h0:cn6 e=0:=by simpa using hc
  rw[h0]at hk;clear h0 hc
  cases kn with
  |false=>
   refine ye3 func74 ntmps74 fun _ _ _=>?_
   repeat'(first|refine yz ?_|refine yp b76 hk ?_|refine yp bp8 h1 ?_|exact zD)
  |true=>
   cases ha with
   |false=>
    refine ye3 func74 ntmps74 fun _ _ _=>?_
    repeat'(first|refine yz ?_|refine yp b76 hk ?_|refine yp bp8 h1 ?_|refine yp bp9 h2 ?_|exact zD)
   |true=>
    cases w with
    |false=>
     refine ye3 func74 ntmps74 fun _ _ _=>?_
     repeat'(first|refine yz ?_|refine yp b76 hk ?_|refine yp bp8 h1 ?_|refine yp bp9 h2 ?_|exact zD)
    |true=>
     cases h24:e.op==24 with
     |true=>
      have h25:(!(e.op==24))=false:=by rw[h24];rfl
      refine ye3 func74 ntmps74 fun _ _ _=>?_
      repeat'(first|refine yz ?_|refine yp b76 hk ?_|refine yp bp8 h1 ?_|refine yp bp9 h2 ?_|exact zD)
     |false=>
      have h25:(!(e.op==24))=true:=by rw[h24];rfl
      refine ye3 func74 ntmps74 fun _ _ _=>?_
      repeat'(first|refine yz ?_|refine yp b76 hk ?_|refine yp bp8 h1 ?_|refine yp bp9 h2 ?_|exact zD)
theorem itm_W(g:Bool)(x:IT)(cols out:List ByteArray):dn2 g x cols out=bif cn6 x.e !=0 then cn6 x.e else bif !(cm2 x.asn)then 6 else bif eo2 x.e cols g !=0 then eo2 x.e cols g else bif bx6 out x.asn then 7 else 0:=by
 unfold dn2 eo2
 cases cn6 x.e !=0<;>cases cm2 x.asn<;>cases dd2 x.e cols<;>cases co7 x.e<;>cases g<;>cases x.e.op==24<;>cases bx6 out x.asn<;>rfl
abbrev oPBk(b:PB)(K:List D):aa5:=.var 40 (.w (.d (dl5 b K)))
set_option maxHeartbeats 4000000 in
theorem eo4(b:PB)(K:List D)(cols:List ByteArray)(hs:∀x∈b.it,nd x.e≤1000000):Ev E 75 [dl5 b K,.sl (cols.map .str)]
  (.tup [.sl ((bif decide (b.it.length>24)then erR 4 else dn3 (b.op==8) cols b.it []).1.map .str),.int (bif decide (b.it.length>24)then erR 4 else dn3 (b.op==8) cols b.it []).2]):=by
 have hle:(b.it.map co3).length=b.it.length:=Oc
 obtain⟨g8,hg8⟩:∃g,g=(b.op==8):=⟨_,rfl⟩;rw[←hg8]
 cases hn:decide (b.it.length>24)with
 |true=>
  have g1:decide (((b.it.map co3).length:Int)>24)=true:=by rw[hle];simp at hn ⊢;omega
  show Ev E 75 _ (.tup [.sl [],.int 4]);refine ye2 func75 ntmps75 fun _ _ _=>?_
  exact Ok
 |false=>
 have hn24:b.it.length≤24:=by have:=of_decide_eq_false hn;omega
 have g1:decide (((b.it.map co3).length:Int)>24)=false:=by rw[hle];simp;omega
 rw[cond_false];refine ye2 func75 ntmps75 fun _ _ _=>?_
 repeat'(refine yz ?_)
 refine bk1 ?_;refine ac7 (α:=SItP g8 cols b.it) (fun p=>⟨[(1,.d (.sl (cols.map .str))),(2,.ptr 0 0),(6,fS 1 p.out),(7,.d (.int p.i))],[oPBk b K,gS p.out]⟩) (fun p=>b.it.length-p.i) ⟨0,[],by omega,rfl,rfl⟩ (zle 2) ?_;rintro⟨i,out,hi,ho,ok⟩;dsimp only;rcases fj8 i b.it.length with hlt|hge
 ·have g2:decide ((i:Int)<((b.it.map co3).length:Int))=true:=by rw[hle];simpa using hlt
  have hx0:=fj7 hlt;generalize b.it[i]=x at hx0;have hx:=ct3 (f:=co3) hx0;have hm:=hs x (fj9 hx0);have hd:=db1 x.e;have h1:=cn8 x.e Oa Oa;have h2:=cm5 x.asn;have h3:Ev E 74 [by1 x.e,.sl (cols.map .str),.bool (b.op==8)] (.d (.int (eo2 x.e cols g8))):=by rw[hg8];exact eo3 x.e cols _ hm
  have hat:=dw0 (g:=g8) (cols:=cols) (out:=out) hx0;rw[itm_W]at hat;rw[ok,hat];generalize hq:bx6 out x.asn=hc at*;generalize eo2 x.e cols g8=w at*
  cases hz:cn6 x.e !=0 with
  |true=>
   rw[cond_true,hz,cond_true];generalize cn6 x.e=z at*;show go _ _ _ (an5 _ _ (.tup [.sl [],.int z]));rcases out with _|⟨a,q⟩
   ·dsimp only[fS,gS]
    repeat'(first|refine yz ?_|refine yi (co3 x) hx ?_|refine bj7 rfl rfl rfl rfl rfl rfl rfl ?_|refine yp b76 h1 ?_|exact zL)
   ·dsimp only[fS,gS]
    repeat'(first|refine yz ?_|refine yi (co3 x) hx ?_|refine bj7 rfl rfl rfl rfl rfl rfl rfl ?_|refine yp b76 h1 ?_|exact zL)
  |false=>
  have h0:cn6 x.e=0:=by simpa using hz
  rw[h0]at h1;rw[cond_false];clear h0
  cases hw:cm2 x.asn with
  |false=>
   rw[hw]at h2;show go _ _ _ (an5 _ _ (.tup [.sl [],.int 6]));rcases out with _|⟨a,q⟩
   ·dsimp only[fS,gS]
    repeat'(first|refine yz ?_|refine yi (co3 x) hx ?_|refine bj7 rfl rfl rfl rfl rfl rfl rfl ?_|refine yp b76 h1 ?_|refine yp b77 h2 ?_|exact zL)
   ·dsimp only[fS,gS]
    repeat'(first|refine yz ?_|refine yi (co3 x) hx ?_|refine bj7 rfl rfl rfl rfl rfl rfl rfl ?_|refine yp b76 h1 ?_|refine yp b77 h2 ?_|exact zL)
  |true=>
  rw[hw]at h2
  cases hw0:w !=0 with
  |true=>
   rw[fp8,cond_false,cond_true,hw0];show go _ _ _ (an5 _ _ (.tup [.sl [],.int w]));rcases out with _|⟨a,q⟩
   ·dsimp only[fS,gS]
    repeat'(first|refine yz ?_|refine yi (co3 x) hx ?_|refine bj7 rfl rfl rfl rfl rfl rfl rfl ?_|refine yp b76 h1 ?_|refine yp b77 h2 ?_|refine yp b74 h3 ?_|exact zL)
   ·dsimp only[fS,gS]
    repeat'(first|refine yz ?_|refine yi (co3 x) hx ?_|refine bj7 rfl rfl rfl rfl rfl rfl rfl ?_|refine yp b76 h1 ?_|refine yp b77 h2 ?_|refine yp b74 h3 ?_|exact zL)
  |false=>
  have hw1:w=0:=by simpa using hw0
  subst hw1
  cases hc with
  |true=>
   show go _ _ _ (an5 _ _ (.tup [.sl [],.int 7]));rcases out with _|⟨a,q⟩
   ·simp[bx6]at hq
   ·have hcon:=em6 (a::q) x.asn;rw[hq]at hcon;dsimp only[fS,gS]
    repeat'(first|refine yz ?_|refine yi (co3 x) hx ?_|refine bj7 rfl rfl rfl rfl rfl rfl rfl ?_|refine yp b76 h1 ?_|refine yp b77 h2 ?_|refine yp b74 h3 ?_|refine yc [1] b17 (hcon) ?_|exact zL)
  |false=>
   have hnew:dn3 g8 cols b.it []=dn3 g8 cols (b.it.drop (i+1)) (out++ [x.asn]):=by rw[ok,hat,hz,hw];rfl
   show go _ _ _ (an5 _ _ (.tup [.sl ((dn3 g8 cols (b.it.drop (i+1)) (out++ [x.asn])).1.map .str),.int (dn3 g8 cols (b.it.drop (i+1)) (out++ [x.asn])).2]));rw[←hnew];rcases out with _|⟨a,q⟩
   ·have hcon:=bx8 [] x.asn;rw[hq]at hcon;have hcon:Ev E 17 [.sl [],.str x.asn] (.d (.bool false)):=hcon;dsimp only[fS,gS]
    repeat'(first|refine yz ?_|refine yi (co3 x) hx ?_|refine bj7 rfl rfl rfl rfl rfl rfl rfl ?_|refine yp b76 h1 ?_|refine yp b77 h2 ?_|refine yp b74 h3 ?_|refine yp b17 hcon ?_|(refine qS rfl ⟨by simp,fun d hd=>by(obtain rfl:=fk8.1 hd;rfl),by(show _*16≤140737488355328;simp<;>(simp only[fk0]at*;omega)),by(show _≤9223372036854775807;simp<;>(simp only[fk0]at*;omega))⟩ ?_))
    refine ac1 ?_;exact⟨⟨i+1,[]++ [x.asn],by omega,by simp only[fk1,fk0,fk4]at*;omega,hnew⟩,by dsimp only;omega,(bh0 [0,3])⟩
   ·have hcon:=em6 (a::q) x.asn;rw[hq]at hcon;have hap:(a::q++ [x.asn]).map D.str=(a::q).map D.str++ [.str x.asn]:=by simp
    dsimp only[fS,gS]
    repeat'(first|refine yz ?_|refine yi (co3 x) hx ?_|refine bj7 rfl rfl rfl rfl rfl rfl rfl ?_|refine yp b76 h1 ?_|refine yp b77 h2 ?_|refine yp b74 h3 ?_|refine yc [1] b17 (hcon) ?_|(refine qS rfl ⟨by simp,fun d hd=>by(obtain rfl:=fk8.1 hd;rfl),by(show _*16≤140737488355328;simp<;>(simp only[fk0]at*;omega)),by(show _≤9223372036854775807;simp<;>(simp only[fk0]at*;omega))⟩ ?_))
    refine ac1 ?_;refine⟨⟨i+1,a::q++ [x.asn],by omega,by simp only[fk1,fk0,fk4]at*;omega,hnew⟩,by dsimp only;omega,?_⟩;show Le _ _ ⟨[_,_,(6,.own 1),_],[_,.row _ _ ((a::q++ [x.asn]).map D.str)]⟩;rw[hap];exact(bh0 [0,3])
 ·have g2:decide ((i:Int)<((b.it.map co3).length:Int))=false:=by rw[hle];simp;omega
  have hend:dn3 g8 cols b.it []=(out,0):=by rw[ok,fk5 hge];rfl
  rw[hend];rcases out with _|⟨a,q⟩
  ·dsimp only[fS,gS];refine bh7 6 rfl ?_
   exact Ok
  ·dsimp only[fS,gS];refine au2 1 rfl ?_;dsimp only[ar6,ar5,ar8,ar7,List.map,List.set]
   exact Ok
theorem eo5:Ev E 131 [.int 2] (.d (.int 0)):=by
 refine ye1 func131 ntmps131 fun _ _ _=>?_
 exact Ok
theorem eo6:Ev E 131 [.int 4] (.d (.int 2)):=by
 refine ye1 func131 ntmps131 fun _ _ _=>?_
 exact Ok
theorem eo7:Ev E 131 [.int 5] (.d (.int 1)):=by
 refine ye1 func131 ntmps131 fun _ _ _=>?_
 exact Ok
theorem eo8:Ev E 131 [.int 7] (.d (.int 1)):=by
 refine ye1 func131 ntmps131 fun _ _ _=>?_
 exact Ok
theorem eo9:Ev E 131 [.int 8] (.d (.int 1)):=by
 refine ye1 func131 ntmps131 fun _ _ _=>?_
 exact Ok
theorem ep0:Ev E 131 [.int 9] (.d (.int 1)):=by
 refine ye1 func131 ntmps131 fun _ _ _=>?_
 exact Ok
theorem ep1:Ev E 131 [.int 10] (.d (.int 1)):=by
 refine ye1 func131 ntmps131 fun _ _ _=>?_
 exact Ok
theorem ep2{op:Int}(q1:(op==1)=false)(q2:(op==2)=false)(q3:(op==3)=false)(q4:(op==4)=false)(q5:(op==5)=false)(q6:(op==6)=false)(q7:(op==7)=false)(q8:(op==8)=false)(q9:(op==9)=false)(q10:(op==10)=false)(q11:(op==11)=false):Ev E 131 [.int op] (.d (.int (-1))):=by
 refine ye1 func131 ntmps131 fun _ _ _=>?_
 exact Ok
end Go.Proofs.YtndgolmgaenlfaaGreatDoor
