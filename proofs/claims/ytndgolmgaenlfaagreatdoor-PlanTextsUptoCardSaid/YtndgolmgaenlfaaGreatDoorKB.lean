/- As each says. -/
import Derived.Test.YtndgolmgaenlfaaGreatDoorKA
import Derived.Test.YtndgolmgaenlfaaGreatDoorKD
set_option linter.unusedVariables false
set_option linter.unusedSimpArgs false
namespace Go.Proofs.YtndgolmgaenlfaaGreatDoor
set_option maxRecDepth 4000
open Go Go.Abs Go.Val Go.RowKit Go.Proofs.Tryz
attribute [local irreducible] go SGo an1 Ev au8 EvO EvS RGo
attribute [local irreducible] PGo RGw
abbrev oCLk(c:CL):aa5:=.var 38 (.w (.d (cp8 c)))
theorem eq2(l:List Ex):l.any cp9= !(l.all fun e=> !cp9 e):=by
 rw[fq3];simp
set_option maxHeartbeats 4000000 in
theorem eq3(c:CL)(cols:List ByteArray)(hs:SmC c)(hcl:cols.length≤1000000):Ev E 73 [cp8 c,.sl (cols.map .str)] (.tup [.sl ((dp1 c cols).1.map .str),.int (dp1 c cols).2]):=Ev.fit fun hfit=>by
 have hk:=eq1 c hs.ok;have hfc:=(hfit (cp8 c) Oc).aggs;have hmp:c.ps.length≤9223372036854775807:=(cv4 (hfc (.sl (c.ps.map cp4)) (by simp[cp8]))).1;have hmw:c.wh.length≤9223372036854775807:=(bz4 (hfc (.sl (by5 c.wh)) (by simp[cp8]))).1;have hVars:=ep4 c.ps hs.nm hs.ne;have hvl:(do8 c.ps).length≤900000:=by have h:=dz7 (do7 c.ps) [];have h2:=hs.nm;unfold do8;unfold dz5 at h;simp only[fq0]at h;omega
 have hj:=en9 cols (do8 c.ps) hcl Oa;have hpr:∀p∈c.ps,Ev E 138 [cp4 p,.sl (cols.map .str)] (.d (.bool (prA cols p))):=fun p hp=>eo7 p cols fun q hq=>hs.pr q (fw3.2 ⟨p,hp,hq⟩)
 have hsw:∀e∈c.wh,nd e≤1000000:=fun e he=>hs.wh e he
 have hle:(c.ps.map cp4).length=c.ps.length:=Oc
 have hlw:(by5 c.wh).length=c.wh.length:=bz2 _;unfold dp1;rw[prx_A,eq2];clear hs hfit hfc;generalize cs2 c=z at*;generalize do8 c.ps=vp at*
 cases hz:z !=0 with
 |true=>
  rw[cond_true];unfold erR;refine ye2 func73 ntmps73 fun _ _ _=>?_
  repeat'(first|refine yz ?_|refine yp b136 hk ?_|exact zL)
 |false=>
 have hz0:z=0:=by simpa using hz
 subst hz0;rw[cond_false];clear hz;generalize do4 cols vp=out at*;refine ye2 func73 ntmps73 fun _ _ _=>?_
 repeat'(first|refine yz ?_|refine yp b136 hk ?_|refine yp b137 hVars ?_|refine yp b72 hj ?_)
 refine ac7 (α:=SKp c.ps (prA cols)) (fun s=>⟨[(1,.d (.sl (cols.map .str))),(2,.ptr 0 0),(7,.d (.sl (out.map .str))),(8,.d (.int s.i))],[oCLk c]⟩) (fun s=>c.ps.length-s.i) ⟨0,by omega,rfl⟩ (zle 1) ?_;rintro⟨i,hi,ok⟩;dsimp only;rcases fp2 i c.ps.length with hlt|hge
 ·have g1:decide ((i:Int)<((c.ps.map cp4).length:Int))=true:=by rw[hle];simpa using hlt
  have hx0:=fp1 hlt;generalize c.ps[i]=x at hx0;have hx:=cv3 (f:=cp4) hx0;have hm:=fp3 hx0;have hp:=hpr x hm
  cases hc:prA cols x with
  |true=>
   rw[hc]at hp
   repeat'(first|refine yz ?_|refine yi (cp4 x) hx ?_|refine yp b138 hp ?_)
   refine ac1 ?_;exact⟨⟨i+1,by omega,SKp.next hx0 ok hc⟩,by dsimp only;omega,(zle 1)⟩
  |false=>
   rw[hc]at hp;rw[eo3 hm hc,fu4,cond_true];unfold erR
   repeat'(first|refine yz ?_|refine yi (cp4 x) hx ?_|refine yp b138 hp ?_|exact zL)
 ·have g1:decide ((i:Int)<((c.ps.map cp4).length:Int))=false:=by rw[hle];simp;omega
  rw[fq6 hge]at ok;rw[ok,fu7,cond_false]
  repeat'(refine yz ?_)
  refine ac7 (α:=SKp c.wh fun e=>df2 e out) (fun s=>⟨[(1,.d (.sl (cols.map .str))),(2,.ptr 0 0),(7,.d (.sl (out.map .str))),(9,.d (.int s.i))],[oCLk c]⟩) (fun s=>c.wh.length-s.i) ⟨0,by omega,rfl⟩ (zle 1) ?_;rintro⟨k,hk2,ok2⟩;dsimp only;rcases fp2 k c.wh.length with hlt2|hge2
  ·have g2:decide ((k:Int)<((by5 c.wh).length:Int))=true:=by rw[hlw];simpa using hlt2
   have hy0:=fp1 hlt2;generalize c.wh[k]=y at hy0;have hy:(by5 c.wh)[(k:Int).toNat]? =some (by6 y):=bz0 (by rw[fr2];exact hy0);have hm:=fp3 hy0;have hp:=en7 y out (hsw y hm)
   cases hc:df2 y out with
   |true=>
    rw[hc]at hp
    repeat'(first|refine yz ?_|refine yi (by6 y) hy ?_|refine yp bp8 hp ?_)
    refine ac1 ?_;exact⟨⟨k+1,by omega,SKp.next hy0 ok2 hc⟩,by dsimp only;omega,(zle 1)⟩
   |false=>
    rw[hc]at hp;rw[eo3 (f:=fun e=>df2 e out) hm hc,fu4,cond_true];unfold erR
    repeat'(first|refine yz ?_|refine yi (by6 y) hy ?_|refine yp bp8 hp ?_|exact zL)
  ·have g2:decide ((k:Int)<((by5 c.wh).length:Int))=false:=by rw[hlw];simp;omega
   rw[fq6 hge2]at ok2;rw[ok2,fu7,cond_false]
   repeat'(refine yz ?_)
   refine ac7 (α:=SKp c.wh fun e=> !cp9 e) (fun s=>⟨[(1,.d (.sl (cols.map .str))),(2,.ptr 0 0),(7,.d (.sl (out.map .str))),(10,.d (.int s.i))],[oCLk c]⟩) (fun s=>c.wh.length-s.i) ⟨0,by omega,rfl⟩ (zle 1) ?_;rintro⟨m,hm3,ok3⟩;dsimp only;rcases fp2 m c.wh.length with hlt3|hge3
   ·have g3:decide ((m:Int)<((by5 c.wh).length:Int))=true:=by rw[hlw];simpa using hlt3
    have hy0:=fp1 hlt3;generalize c.wh[m]=y at hy0;have hy:(by5 c.wh)[(m:Int).toNat]? =some (by6 y):=bz0 (by rw[fr2];exact hy0);have hm:=fp3 hy0;have hp:=ds6 y
    cases hc:cp9 y with
    |false=>
     rw[hc]at hp
     repeat'(first|refine yz ?_|refine yi (by6 y) hy ?_|refine yp bp9 hp ?_)
     refine ac1 ?_;exact⟨⟨m+1,by omega,SKp.next hy0 ok3 (by rw[hc];rfl)⟩,by dsimp only;omega,(zle 1)⟩
    |true=>
     rw[hc]at hp;rw[eo3 (f:=fun e=> !cp9 e) hm (by rw[hc];rfl),fu4,cond_true];unfold erR
     repeat'(first|refine yz ?_|refine yi (by6 y) hy ?_|refine yp bp9 hp ?_|exact zL)
   ·have g3:decide ((m:Int)<((by5 c.wh).length:Int))=false:=by rw[hlw];simp;omega
    rw[fq6 hge3]at ok3;rw[ok3,fu7,cond_false]
    exact Ok
def eq4(e:Ex)(cols:List ByteArray)(w:Bool):Int:=bif co8 e !=0 then co8 e else bif !(df2 e cols)then 6 else bif cp9 e&& !(w&&e.op==24)then 9 else 0
theorem eq5(e:Ex)(cols:List ByteArray)(w:Bool)(hn:nd e≤1000000):Ev E 74 [by6 e,.sl (cols.map .str),.bool w] (.d (.int (eq4 e cols w))):=by
 have hd:=dd1 e;have hk:=cp0 e Oa Oa;have h1:=en7 e cols hn;have h2:=ds6 e;unfold eq4;generalize df2 e cols=kn at*;generalize cp9 e=ha at*
 cases hc:co8 e !=0 with
 |true=>
  rw[cond_true];generalize co8 e=z at*;refine ye3 func74 ntmps74 fun _ _ _=>?_
  repeat'(first|refine yz ?_|refine yp b76 hk ?_|exact zD)
 |false=>
  rw[cond_false];have h0:co8 e=0:=by simpa using hc
  rw[h0]at hk;clear h0 hc
  cases kn with
  |false=>
   refine ye3 func74 ntmps74 fun _ _ _=>?_
   repeat'(first|refine yz ?_|refine yp b76 hk ?_|refine yp bp8 h1 ?_|exact zD)
  |true=>
   cases ha with
   |false=>
    refine ye3 func74 ntmps74 fun _ _ _=>?_
    repeat'(first|refine yz ?_|refine yp b76 hk ?_|refine yp bp8 h1 ?_|refine yp bp9 h2 ?_|exact zD)
   |true=>
    cases w with
    |false=>
     refine ye3 func74 ntmps74 fun _ _ _=>?_
     repeat'(first|refine yz ?_|refine yp b76 hk ?_|refine yp bp8 h1 ?_|refine yp bp9 h2 ?_|exact zD)
    |true=>
     cases h24:e.op==24 with
     |true=>
      have h25:(!(e.op==24))=false:=by rw[h24];rfl
      refine ye3 func74 ntmps74 fun _ _ _=>?_
      repeat'(first|refine yz ?_|refine yp b76 hk ?_|refine yp bp8 h1 ?_|refine yp bp9 h2 ?_|exact zD)
     |false=>
      have h25:(!(e.op==24))=true:=by rw[h24];rfl
      refine ye3 func74 ntmps74 fun _ _ _=>?_
      repeat'(first|refine yz ?_|refine yp b76 hk ?_|refine yp bp8 h1 ?_|refine yp bp9 h2 ?_|exact zD)
theorem itm_W(g:Bool)(x:IT)(cols out:List ByteArray):dp2 g x cols out=bif co8 x.e !=0 then co8 x.e else bif !(cn4 x.asn)then 6 else bif eq4 x.e cols g !=0 then eq4 x.e cols g else bif by1 out x.asn then 7 else 0:=by
 unfold dp2 eq4
 cases co8 x.e !=0<;>cases cn4 x.asn<;>cases df2 x.e cols<;>cases cp9 x.e<;>cases g<;>cases x.e.op==24<;>cases by1 out x.asn<;>rfl
abbrev oPBk(b:PB)(K:List D):aa5:=.var 40 (.w (.d (dn5 b K)))
set_option maxHeartbeats 4000000 in
theorem eq6(b:PB)(K:List D)(cols:List ByteArray)(hs:∀x∈b.it,nd x.e≤1000000):Ev E 75 [dn5 b K,.sl (cols.map .str)]
  (.tup [.sl ((bif decide (b.it.length>24)then erR 4 else dp3 (b.op==8) cols b.it []).1.map .str),.int (bif decide (b.it.length>24)then erR 4 else dp3 (b.op==8) cols b.it []).2]):=by
 have hle:(b.it.map cp5).length=b.it.length:=Oc
 obtain⟨g8,hg8⟩:∃g,g=(b.op==8):=⟨_,rfl⟩;rw[←hg8]
 cases hn:decide (b.it.length>24)with
 |true=>
  have g1:decide (((b.it.map cp5).length:Int)>24)=true:=by rw[hle];simp at hn ⊢;omega
  show Ev E 75 _ (.tup [.sl [],.int 4]);refine ye2 func75 ntmps75 fun _ _ _=>?_
  exact Ok
 |false=>
 have hn24:b.it.length≤24:=by have:=of_decide_eq_false hn;omega
 have g1:decide (((b.it.map cp5).length:Int)>24)=false:=by rw[hle];simp;omega
 rw[cond_false];refine ye2 func75 ntmps75 fun _ _ _=>?_
 repeat'(refine yz ?_)
 refine bk1 ?_;refine ac7 (α:=SItP g8 cols b.it) (fun p=>⟨[(1,.d (.sl (cols.map .str))),(2,.ptr 0 0),(6,fS 1 p.out),(7,.d (.int p.i))],[oPBk b K,gS p.out]⟩) (fun p=>b.it.length-p.i) ⟨0,[],by omega,rfl,rfl⟩ (zle 2) ?_;rintro⟨i,out,hi,ho,ok⟩;dsimp only;rcases fp2 i b.it.length with hlt|hge
 ·have g2:decide ((i:Int)<((b.it.map cp5).length:Int))=true:=by rw[hle];simpa using hlt
  have hx0:=fp1 hlt;generalize b.it[i]=x at hx0;have hx:=cv3 (f:=cp5) hx0;have hm:=hs x (fp3 hx0);have hd:=dd1 x.e;have h1:=cp0 x.e Oa Oa;have h2:=cn7 x.asn;have h3:Ev E 74 [by6 x.e,.sl (cols.map .str),.bool (b.op==8)] (.d (.int (eq4 x.e cols g8))):=by rw[hg8];exact eq5 x.e cols _ hm
  have hat:=dy0 (g:=g8) (cols:=cols) (out:=out) hx0;rw[itm_W]at hat;rw[ok,hat];generalize hq:by1 out x.asn=hc at*;generalize eq4 x.e cols g8=w at*
  cases hz:co8 x.e !=0 with
  |true=>
   rw[cond_true,hz,cond_true];generalize co8 x.e=z at*;show go _ _ _ (an5 _ _ (.tup [.sl [],.int z]));rcases out with _|⟨a,q⟩
   ·dsimp only[fS,gS]
    repeat'(first|refine yz ?_|refine yi (cp5 x) hx ?_|refine bj7 rfl rfl rfl rfl rfl rfl rfl ?_|refine yp b76 h1 ?_|exact zL)
   ·dsimp only[fS,gS]
    repeat'(first|refine yz ?_|refine yi (cp5 x) hx ?_|refine bj7 rfl rfl rfl rfl rfl rfl rfl ?_|refine yp b76 h1 ?_|exact zL)
  |false=>
  have h0:co8 x.e=0:=by simpa using hz
  rw[h0]at h1;rw[cond_false];clear h0
  cases hw:cn4 x.asn with
  |false=>
   rw[hw]at h2;show go _ _ _ (an5 _ _ (.tup [.sl [],.int 6]));rcases out with _|⟨a,q⟩
   ·dsimp only[fS,gS]
    repeat'(first|refine yz ?_|refine yi (cp5 x) hx ?_|refine bj7 rfl rfl rfl rfl rfl rfl rfl ?_|refine yp b76 h1 ?_|refine yp b77 h2 ?_|exact zL)
   ·dsimp only[fS,gS]
    repeat'(first|refine yz ?_|refine yi (cp5 x) hx ?_|refine bj7 rfl rfl rfl rfl rfl rfl rfl ?_|refine yp b76 h1 ?_|refine yp b77 h2 ?_|exact zL)
  |true=>
  rw[hw]at h2
  cases hw0:w !=0 with
  |true=>
   rw[fu7,cond_false,cond_true,hw0];show go _ _ _ (an5 _ _ (.tup [.sl [],.int w]));rcases out with _|⟨a,q⟩
   ·dsimp only[fS,gS]
    repeat'(first|refine yz ?_|refine yi (cp5 x) hx ?_|refine bj7 rfl rfl rfl rfl rfl rfl rfl ?_|refine yp b76 h1 ?_|refine yp b77 h2 ?_|refine yp b74 h3 ?_|exact zL)
   ·dsimp only[fS,gS]
    repeat'(first|refine yz ?_|refine yi (cp5 x) hx ?_|refine bj7 rfl rfl rfl rfl rfl rfl rfl ?_|refine yp b76 h1 ?_|refine yp b77 h2 ?_|refine yp b74 h3 ?_|exact zL)
  |false=>
  have hw1:w=0:=by simpa using hw0
  subst hw1
  cases hc with
  |true=>
   show go _ _ _ (an5 _ _ (.tup [.sl [],.int 7]));rcases out with _|⟨a,q⟩
   ·simp[by1]at hq
   ·have hcon:=eo8 (a::q) x.asn;rw[hq]at hcon;dsimp only[fS,gS]
    repeat'(first|refine yz ?_|refine yi (cp5 x) hx ?_|refine bj7 rfl rfl rfl rfl rfl rfl rfl ?_|refine yp b76 h1 ?_|refine yp b77 h2 ?_|refine yp b74 h3 ?_|refine yc [1] b17 (hcon) ?_|exact zL)
  |false=>
   have hnew:dp3 g8 cols b.it []=dp3 g8 cols (b.it.drop (i+1)) (out++ [x.asn]):=by rw[ok,hat,hz,hw];rfl
   show go _ _ _ (an5 _ _ (.tup [.sl ((dp3 g8 cols (b.it.drop (i+1)) (out++ [x.asn])).1.map .str),.int (dp3 g8 cols (b.it.drop (i+1)) (out++ [x.asn])).2]));rw[←hnew];rcases out with _|⟨a,q⟩
   ·have hcon:=by3 [] x.asn;rw[hq]at hcon;have hcon:Ev E 17 [.sl [],.str x.asn] (.d (.bool false)):=hcon;dsimp only[fS,gS]
    repeat'(first|refine yz ?_|refine yi (cp5 x) hx ?_|refine bj7 rfl rfl rfl rfl rfl rfl rfl ?_|refine yp b76 h1 ?_|refine yp b77 h2 ?_|refine yp b74 h3 ?_|refine yp b17 hcon ?_|(refine qS rfl ⟨by simp,fun d hd=>by(obtain rfl:=fq2.1 hd;rfl),by(show _*16≤140737488355328;simp<;>(simp only[fp5]at*;omega)),by(show _≤9223372036854775807;simp<;>(simp only[fp5]at*;omega))⟩ ?_))
    refine ac1 ?_;exact⟨⟨i+1,[]++ [x.asn],by omega,by simp only[fp4,fp5,fq0]at*;omega,hnew⟩,by dsimp only;omega,(bh0 [0,3])⟩
   ·have hcon:=eo8 (a::q) x.asn;rw[hq]at hcon;have hap:(a::q++ [x.asn]).map D.str=(a::q).map D.str++ [.str x.asn]:=by simp
    dsimp only[fS,gS]
    repeat'(first|refine yz ?_|refine yi (cp5 x) hx ?_|refine bj7 rfl rfl rfl rfl rfl rfl rfl ?_|refine yp b76 h1 ?_|refine yp b77 h2 ?_|refine yp b74 h3 ?_|refine yc [1] b17 (hcon) ?_|(refine qS rfl ⟨by simp,fun d hd=>by(obtain rfl:=fq2.1 hd;rfl),by(show _*16≤140737488355328;simp<;>(simp only[fp5]at*;omega)),by(show _≤9223372036854775807;simp<;>(simp only[fp5]at*;omega))⟩ ?_))
    refine ac1 ?_;refine⟨⟨i+1,a::q++ [x.asn],by omega,by simp only[fp4,fp5,fq0]at*;omega,hnew⟩,by dsimp only;omega,?_⟩;show Le _ _ ⟨[_,_,(6,.own 1),_],[_,.row _ _ ((a::q++ [x.asn]).map D.str)]⟩;rw[hap];exact(bh0 [0,3])
 ·have g2:decide ((i:Int)<((b.it.map cp5).length:Int))=false:=by rw[hle];simp;omega
  have hend:dp3 g8 cols b.it []=(out,0):=by rw[ok,fp8 hge];rfl
  rw[hend];rcases out with _|⟨a,q⟩
  ·dsimp only[fS,gS];refine bh7 6 rfl ?_
   exact Ok
  ·dsimp only[fS,gS];refine au2 1 rfl ?_;dsimp only[ar6,ar5,ar8,ar7,List.map,List.set]
   exact Ok
theorem eq7:Ev E 131 [.int 2] (.d (.int 0)):=by
 refine ye1 func131 ntmps131 fun _ _ _=>?_
 exact Ok
theorem eq8:Ev E 131 [.int 4] (.d (.int 2)):=by
 refine ye1 func131 ntmps131 fun _ _ _=>?_
 exact Ok
theorem eq9:Ev E 131 [.int 5] (.d (.int 1)):=by
 refine ye1 func131 ntmps131 fun _ _ _=>?_
 exact Ok
theorem er0:Ev E 131 [.int 7] (.d (.int 1)):=by
 refine ye1 func131 ntmps131 fun _ _ _=>?_
 exact Ok
theorem er1:Ev E 131 [.int 8] (.d (.int 1)):=by
 refine ye1 func131 ntmps131 fun _ _ _=>?_
 exact Ok
theorem er2:Ev E 131 [.int 9] (.d (.int 1)):=by
 refine ye1 func131 ntmps131 fun _ _ _=>?_
 exact Ok
theorem er3:Ev E 131 [.int 10] (.d (.int 1)):=by
 refine ye1 func131 ntmps131 fun _ _ _=>?_
 exact Ok
theorem er4{op:Int}(q1:(op==1)=false)(q2:(op==2)=false)(q3:(op==3)=false)(q4:(op==4)=false)(q5:(op==5)=false)(q6:(op==6)=false)(q7:(op==7)=false)(q8:(op==8)=false)(q9:(op==9)=false)(q10:(op==10)=false)(q11:(op==11)=false):Ev E 131 [.int op] (.d (.int (-1))):=by
 refine ye1 func131 ntmps131 fun _ _ _=>?_
 exact Ok
end Go.Proofs.YtndgolmgaenlfaaGreatDoor
