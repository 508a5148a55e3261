/- The check of a path pattern, by the program; The check of a path pattern, by the program; The check of a path pattern's parts, by the specification; T. Conditions: each part's own, as it says. -/
import Derived.Test.YtndgolmgaenlfaaGreatDoorFB
import Derived.Test.YtndgolmgaenlfaaGreatDoorMA
import Derived.Test.YtndgolmgaenlfaaGreatDoorGC
import Derived.Test.YtndgolmgaenlfaaGreatDoorLA
set_option linter.unusedVariables false
set_option linter.unusedSimpArgs false
namespace Go.Proofs.YtndgolmgaenlfaaGreatDoor
set_option maxRecDepth 4000
open Go Go.Abs Go.Val Go.RowKit Go.Proofs.Tryz
attribute [local irreducible] go SGo an1 Ev au8 EvO EvS RGo
abbrev oPA(p:PA):aa5:=.var 69 (.w (.d (co2 p)))
structure SPa(ns:List NP)(es:List EP) where
 i:Nat
 o:List PT
 hi:i≤ns.length
 ho:o.length≤2*i
 ok:cp6 ns es=o++cp6 (ns.drop i) (es.drop i)
set_option maxHeartbeats 4000000 in
theorem dp4(p:PA)(hn:p.ns.length≤1000000):Ev E 199 [co2 p] (.d (.sl ((cp6 p.ns p.es).map cp5))):=Ev.fit fun hfit=>by
 obtain⟨vr,ns,es⟩:=p;dsimp only at hn ⊢;have hft:=hfit (co2 ⟨vr,ns,es⟩) Oc;have hme:=(ct4 (hft.aggs (.sl (es.map co1)) Oc)).1;have hln:(ns.map co0).length=ns.length:=Oc
 have hle:(es.map co1).length=es.length:=Oc
 refine ye1 func199 ntmps199 fun _ _ _=>?_
 repeat'(first|refine yz ?_|refine yx ?_|(refine yy ?_ ?_<;>intro _)|exact zD|exact zL)
 refine ac7 (α:=SPa ns es) (fun p=>⟨[(3,bf9 1 (p.o.map cp5)),(1,.ptr 0 0),(7,.d (.sl (ns.map co0))),(8,.d (.int (ns.map co0).length)),(9,.d (.int p.i))],[oPA ⟨vr,ns,es⟩]++aw7 211 3 (p.o.map cp5)⟩) (fun p=>ns.length-p.i) ⟨0,[],by omega,by simp,by simp⟩ (zle 1) ?_;rintro⟨i,o,hi,ho,ok⟩;dsimp only at ho ok ⊢;have hol:(o.map cp5).length≤2000000:=Og
 rcases fj8 i ns.length with hlt|hge
 ·have g1:decide ((i:Int)<((ns.map co0).length:Int))=true:=by rw[hln];simpa using hlt
  have hx0:=fj7 hlt;generalize ns[i]=x at hx0;have hx:=ct3 (f:=co0) hx0;rw[ct2 hx0]at ok;rcases fj8 i es.length with hlt2|hge2
  ·have g2:decide ((i:Int)<((es.map co1).length:Int))=true:=by rw[hle];simpa using hlt2
   have hy0:=fj7 hlt2;generalize es[i]=y at hy0;have hy:=ct3 (f:=co1) hy0;rw[ct2 hy0,cp6]at ok;have hnx:(o++ [ptN x,ptE y]).map cp5=o.map cp5++ [cp5 (ptN x)]++ [cp5 (ptE y)]:=Oc
   have hok:cp6 ns es=(o++ [ptN x,ptE y])++cp6 (ns.drop (i+1)) (es.drop (i+1)):=by rw[ok];simp
   have hon:(o++ [ptN x,ptE y]).length≤2*(i+1):=Og
   generalize o.map cp5=oo at*
   match oo,hol with
   |[],hol=>
    dsimp only[bf9,aw7]
    repeat'(first|refine yq 7 [21] ?_|refine yf 7 0 21 ?_|refine yw ?_|refine yf 7 22 1 ?_|refine rgN ?_|refine yv ?_|refine yz ?_|refine yi (co0 x) hx ?_|refine yi (co1 y) hy ?_|refine rgS (id:=7) (i:=21) rfl rfl rfl rfl (⟨by simp,fun d hd=>by(obtain rfl:=fk8.1 hd;rfl),by(show(1+1)*64≤140737488355328;omega),by(show 1+1≤9223372036854775807;omega)⟩) Oj ?_|(refine qS rfl ⟨by simp,fun d hd=>by(obtain rfl:=fk8.1 hd;rfl),by(show(0+1)*64≤140737488355328;omega),by(show 0+1≤9223372036854775807;omega)⟩ ?_)|refine yx ?_|(refine yy ?_ ?_<;>intro _)|exact zD|exact zL)
    refine ac1 ?_;refine⟨⟨i+1,o++ [ptN x,ptE y],by omega,hon,hok⟩,by dsimp only;omega,?_⟩;dsimp only;rw[hnx];exact(bh0 [0,3])
   |a::q,hol=>
    dsimp only[bf9,aw7];have hq2:(a::q++ [cp5 (ptN x)]).length≤2000001:=by rw[fk1];exact Nat.add_le_add_right hol 1
    repeat'(first|refine yq 7 [21] ?_|refine yf 7 0 21 ?_|refine yw ?_|refine yf 7 22 1 ?_|refine rgN ?_|refine yv ?_|refine yz ?_|refine yi (co0 x) hx ?_|refine yi (co1 y) hy ?_|refine rgS (id:=7) (i:=21) rfl rfl rfl rfl (⟨by simp,fun d hd=>by(obtain rfl:=fk8.1 hd;rfl),by(show((a::q++ [cp5 (ptN x)]).length+1)*64≤140737488355328;omega),by(show(a::q++ [cp5 (ptN x)]).length+1≤9223372036854775807;omega)⟩) Oj ?_|(refine qS rfl ⟨by simp,fun d hd=>by(obtain rfl:=fk8.1 hd;rfl),by(show((a::q).length+1)*64≤140737488355328;omega),by(show(a::q).length+1≤9223372036854775807;omega)⟩ ?_)|refine yx ?_|(refine yy ?_ ?_<;>intro _)|exact zD|exact zL)
    refine ac1 ?_;refine⟨⟨i+1,o++ [ptN x,ptE y],by omega,hon,hok⟩,by dsimp only;omega,?_⟩;dsimp only;rw[hnx];exact(bh0 [0,4])
  ·have g2:decide ((i:Int)<((es.map co1).length:Int))=false:=by rw[hle];simp;omega
   have he0:es.drop i=[]:=fk5 hge2;have he1:es.drop (i+1)=[]:=fk5 Oa;rw[he0,cp6]at ok;have hnx:(o++ [ptN x]).map cp5=o.map cp5++ [cp5 (ptN x)]:=Oc
   have hok:cp6 ns es=(o++ [ptN x])++cp6 (ns.drop (i+1)) (es.drop (i+1)):=by rw[ok,he1];simp
   have hon:(o++ [ptN x]).length≤2*(i+1):=Og
   generalize o.map cp5=oo at*
   match oo,hol with
   |[],hol=>
    dsimp only[bf9,aw7]
    repeat'(first|refine yz ?_|refine yi (co0 x) hx ?_|(refine qS rfl ⟨by simp,fun d hd=>by(obtain rfl:=fk8.1 hd;rfl),by(show(0+1)*64≤140737488355328;omega),by(show 0+1≤9223372036854775807;omega)⟩ ?_)|refine yx ?_|(refine yy ?_ ?_<;>intro _)|exact zD|exact zL)
    refine ac1 ?_;refine⟨⟨i+1,o++ [ptN x],by omega,hon,hok⟩,by dsimp only;omega,?_⟩;dsimp only;rw[hnx];exact(bh0 [0,2])
   |a::q,hol=>
    dsimp only[bf9,aw7]
    repeat'(first|refine yz ?_|refine yi (co0 x) hx ?_|(refine qS rfl ⟨by simp,fun d hd=>by(obtain rfl:=fk8.1 hd;rfl),by(show((a::q).length+1)*64≤140737488355328;omega),by(show(a::q).length+1≤9223372036854775807;omega)⟩ ?_)|refine yx ?_|(refine yy ?_ ?_<;>intro _)|exact zD|exact zL)
    refine ac1 ?_;refine⟨⟨i+1,o++ [ptN x],by omega,hon,hok⟩,by dsimp only;omega,?_⟩;dsimp only;rw[hnx];exact(bh0 [0,3])
 ·have g1:decide ((i:Int)<((ns.map co0).length:Int))=false:=by rw[hln];simp;omega
  rw[fk5 hge,cp6,fq3]at ok;rw[ok];generalize o.map cp5=oo at*
  match oo with
  |[]=>
   dsimp only[bf9,aw7]
   exact Ok
  |a::q=>
   dsimp only[bf9,aw7];refine qA ?_;refine au2 1 rfl ?_
   exact Ok
def dp5(e:Ex):Prop:=dp e≤1000000∧nd e≤1000000
structure OkPA(p:PA):Prop where
 n:p.ns.length≤1000000
 x:(cq1 (cp6 p.ns p.es)).length≤1000000
 e:∀e∈cq1 (cp6 p.ns p.es),dp5 e
theorem dp6{L:List PT}{x:PT}{q:PP}(hx:x∈L)(hq:q∈x.ps):q.e∈cq1 L:=fq7.2 ⟨x,hx,fl3.2 ⟨q,hq,rfl⟩⟩
theorem dp7{x:PT}:∀{L:List PT},x∈L→x.ps.length≤(cq1 L).length
 |y::r,h=>by
  have e:cq1 (y::r)=y.ps.map (fun p=>p.e)++cq1 r:=by unfold cq1;rw[fm6]
  rw[e,fk1,fk3];rcases fk7.1 h with rfl|h
  ·omega
  ·have:=dp7 h;omega
theorem dp8:∀(ns:List NP) (es:List EP),(cp6 ns es).length≤2*ns.length
 |[],es=>by cases es<;>simp[cp6]
 |n::r,[]=>by
  have:=dp8 r [];simp[cp6];omega
 |n::r,e::q=>by
  have:=dp8 r q;simp[cp6];omega
structure SNc{α:Type}(l:List α)(f:α→Bool) where
 i:Nat
 hi:i≤l.length
 ok:l.any f=(l.drop i).any f
theorem dp9{α:Type}{l:List α}{f:α→Bool}{i:Nat}{x:α}(h:l[i]? =some x):(l.drop i).any f=(f x||(l.drop (i+1)).any f):=by rw[ct2 h,fo4]
theorem dq0(x:PT)(r:List PT):cq1 (x::r)=x.ps.map (fun p=>p.e)++cq1 r:=by unfold cq1;rw[fm6]
structure SEx(L:List PT) where
 i:Nat
 hi:i≤L.length
 g:Bool
 ok:cq0 (cq1 L)=cq0 (cq1 (L.drop i))
 hg:(cq1 L).any co7=(g||(cq1 (L.drop i)).any co7)
structure SEy(L:List PT)(x:PT)(i:Nat) where
 j:Nat
 hj:j≤x.ps.length
 g:Bool
 ok:cq0 (cq1 L)=cq0 ((x.ps.drop j).map (fun p=>p.e)++cq1 (L.drop (i+1)))
 hg:(cq1 L).any co7=(g||((x.ps.drop j).map (fun p=>p.e)++cq1 (L.drop (i+1))).any co7)
set_option maxHeartbeats 4000000 in
theorem dq1(p:PA)(cr:Bool)(hok:OkPA p):Ev E 126 [co2 p,.bool cr] (.d (.int (cq2 p cr))):=Ev.fit fun hfit=>by
 have hlg:=cw2 p;have hpt:=dp4 p hok.n;have hwv:=cm4 p.vr;have hcp:=cu4 197 b197 (fun e=> !cp3 e) p.es fun e _=>cv7 e
 have hcq:=cu4 204 b204 (fun e=> !cp4 e) p.es fun e _=>cv8 e
 have hLl:(cp6 p.ns p.es).length≤2000000:=fo2 (dp8 _ _) (by have:=hok.n;omega);have hopn:=hok.x;have hope:=hok.e;unfold cq2;generalize cp6 p.ns p.es=L at*;obtain⟨vr,ns,es⟩:=p;dsimp only at hwv hcp hcq ⊢;have hft:=hfit (co2 ⟨vr,ns,es⟩) Oc;have hmn:=(ct4 (hft.aggs (.sl (ns.map co0)) Oc)).1;have hme:=(ct4 (hft.aggs (.sl (es.map co1)) Oc)).1;have hln:(ns.map co0).length=ns.length:=Oc
 have hle:(es.map co1).length=es.length:=Oc
 have hlL:(L.map cp5).length=L.length:=Oc
 cases c1:cp2 ⟨vr,ns,es⟩with
 |true=>
  rw[c1]at hlg;refine ye2 func126 ntmps126 fun _ _ _=>?_
  repeat'(first|refine yz ?_|refine yp bq8 hlg ?_|exact zD)
 |false=>
  have h6:es.length≤6:=by
   unfold cp2 at c1;dsimp only at c1;rw[fn9,fn9]at c1;have:=c1.1.2;simp at this;omega
  rw[c1]at hlg;simp only[cond_false]
  cases c2:ns.length !=es.length+1 with
  |true=>
   have g2:(((ns.map co0).length:Int) !=((es.map co1).length:Int)+1)=true:=by rw[hln,hle];simp at c2 ⊢;omega
   refine ye2 func126 ntmps126 fun _ _ _=>?_
   repeat'(first|refine yz ?_|refine yp bq8 hlg ?_|refine yx ?_|exact zD)
  |false=>
   have g2:(((ns.map co0).length:Int) !=((es.map co1).length:Int)+1)=false:=by rw[hln,hle];simp at c2 ⊢;omega
   cases c3:es.any fun e=> !cp3 e with
   |true=>
    rw[c3]at hcp;refine ye2 func126 ntmps126 fun _ _ _=>?_
    repeat'(first|refine yz ?_|refine yp bq8 hlg ?_|refine qP (d:=29) rfl rfl rfl rfl rfl rfl bq9 (hcp) ?_|refine yx ?_|exact zD)
   |false=>
    rw[c3]at hcp;simp only[cond_false,fm9];have hsv:s0B vr=(vr.toList==(⟨#[]⟩:ByteArray).toList):=rfl
    cases c4:cp7 vr with
    |false=>
     refine ye2 func126 ntmps126 fun _ _ _=>?_
     repeat'(first|refine bd3 6 (fun b=>⟨[(41,.d (.bool b)),(1,.d (.bool cr)),(2,.ptr 0 0),(5,.d (.sl (L.map cp5)))],[oPA ⟨vr,ns,es⟩]⟩) (true) ?_ ?_|refine yz ?_|refine yp bq8 hlg ?_|refine qP (d:=29) rfl rfl rfl rfl rfl rfl bq9 (hcp) ?_|refine yp b199 hpt ?_|refine yp br0 hwv ?_|refine ac1 ⟨_,?_,(zle 1)⟩|refine yx ?_|(refine yy ?_ ?_<;>intro _)|exact zD)
     all_goals(clear hlg hpt hcp hcq hwv;simp_all [cp7])
    |true=>
     rw[fp8,fm9];refine ye2 func126 ntmps126 fun _ _ _=>?_
     repeat'(first|refine bd3 6 (fun b=>⟨[(41,.d (.bool b)),(1,.d (.bool cr)),(2,.ptr 0 0),(5,.d (.sl (L.map cp5)))],[oPA ⟨vr,ns,es⟩]⟩) (false) ?_ ?_|refine yz ?_|refine yp bq8 hlg ?_|refine qP (d:=29) rfl rfl rfl rfl rfl rfl bq9 (hcp) ?_|refine yp b199 hpt ?_|refine yp br0 hwv ?_|refine ac1 ⟨_,?_,(zle 1)⟩|refine yx ?_|(refine yy ?_ ?_<;>intro _))
     rotate_left
     all_goals first|(clear hlg hpt hcp hcq hwv;simp_all [cp7];done)|skip
     have hnb:∀x∈L,x.ps.length≤1000000:=fun x hx=>fo2 (dp7 hx) hopn
     refine ac7 (α:=SNc L cp8) (fun p=>⟨[(1,.d (.bool cr)),(2,.ptr 0 0),(5,.d (.sl (L.map cp5))),(42,.d (.sl (L.map cp5))),(43,.d (.int (L.map cp5).length)),(44,.d (.int p.i))],[oPA ⟨vr,ns,es⟩]⟩) (fun p=>L.length-p.i) ⟨0,by omega,rfl⟩ (zle 1) ?_;rintro⟨i,hi,ok⟩;dsimp only at ok ⊢;rcases fj8 i L.length with hlt|hge
     ·have g5:decide ((i:Int)<((L.map cp5).length:Int))=true:=by rw[hlL];simpa using hlt
      have hx0:=fj7 hlt;generalize L[i]=x at hx0;have hx:=ct3 (f:=cp5) hx0;have hk:=cw0 x.ps (hnb x (fj9 hx0));have hw0:=cm4 x.nm;have hw1:=cv1 x.ns;have hw2:=cv1 (co8 x.ps);obtain⟨a0,h0⟩:∃b,cm2 x.nm=b:=⟨_,rfl⟩;obtain⟨a1,h1⟩:∃b,x.ns.all cm2=b:=⟨_,rfl⟩;obtain⟨a2,h2⟩:∃b,(co8 x.ps).all cm2=b:=⟨_,rfl⟩;have hbad:cp8 x=(!((x.nm.toList==(⟨#[]⟩:ByteArray).toList)||a0)||(!a1|| !a2)):=by rw[←h0,←h1,←h2];rfl
      rw[h0]at hw0;rw[h1]at hw1;rw[h2]at hw2;rw[dp9 hx0,hbad]at ok
      cases hb:(!((x.nm.toList==(⟨#[]⟩:ByteArray).toList)||a0)||(!a1|| !a2))with
      |true=>
       rw[hb,Bool.true_or]at ok;rw[ok]
       repeat'(first|refine bd3 11 (fun b=>⟨[(69,.d (.bool b))],[oPA ⟨vr,ns,es⟩]⟩) (true) ?_ ?_|refine yz ?_|refine yi (cp5 x) hx ?_|refine yp br0 hw0 ?_|refine qP (d:=60) rfl rfl rfl rfl rfl rfl b201 (hw1) ?_|refine yp b202 hk ?_|refine qP (d:=67) rfl rfl rfl rfl rfl rfl b201 (hw2) ?_|refine ac1 ⟨_,?_,(zle 1)⟩|(refine yy ?_ ?_<;>intro _)|exact zD)
       all_goals(clear hlg hpt hcp hcq hwv hk hw0 hw1 hw2 ok hbad h0 h1 h2 hfit hft hnb hope hopn hok c1 c2 c3 c4;simp_all)
      |false=>
       rw[hb,fm9]at ok
       repeat'(first|refine bd3 11 (fun b=>⟨[(69,.d (.bool b)),(1,.d (.bool cr)),(2,.ptr 0 0),(5,.d (.sl (L.map cp5))),(42,.d (.sl (L.map cp5))),(43,.d (.int (L.map cp5).length)),(44,.d (.int i))],[oPA ⟨vr,ns,es⟩]⟩) (false) ?_ ?_|refine yz ?_|refine yi (cp5 x) hx ?_|refine yp br0 hw0 ?_|refine qP (d:=60) rfl rfl rfl rfl rfl rfl b201 (hw1) ?_|refine yp b202 hk ?_|refine qP (d:=67) rfl rfl rfl rfl rfl rfl b201 (hw2) ?_|refine ac1 ⟨_,?_,(zle 1)⟩|(refine yy ?_ ?_<;>intro _))
       all_goals first|(refine ac1 ?_;exact⟨⟨i+1,by omega,ok⟩,by dsimp only;omega,(zle 1)⟩)|(clear hlg hpt hcp hcq hwv hk hw0 hw1 hw2 ok hbad h0 h1 h2 hfit hft hnb hope hopn hok c1 c2 c3 c4;simp_all;done)
     ·have g5:decide ((i:Int)<((L.map cp5).length:Int))=false:=by rw[hlL];simp;omega
      rw[fk5 hge,fp7]at ok;rw[ok];simp only[cond_false]
      repeat'(refine yz ?_)
      clear ok hge hi g5;refine ac7 (α:=SNc L cp9) (fun p=>⟨[(1,.d (.bool cr)),(2,.ptr 0 0),(5,.d (.sl (L.map cp5))),(71,.d (.sl (L.map cp5))),(72,.d (.int (L.map cp5).length)),(73,.d (.int p.i))],[oPA ⟨vr,ns,es⟩]⟩) (fun p=>L.length-p.i) ⟨0,by omega,rfl⟩ (zle 1) ?_;rintro⟨i,hi,ok⟩;dsimp only at ok ⊢;rcases fj8 i L.length with hlt|hge
      ·have g5:decide ((i:Int)<((L.map cp5).length:Int))=true:=by rw[hlL];simpa using hlt
       have hx0:=fj7 hlt;generalize L[i]=x at hx0;have hx:=ct3 (f:=cp5) hx0;have hk:=cw0 x.ps (hnb x (fj9 hx0));have hw1:=cu9 x.ns;have hw2:=cu9 (co8 x.ps);obtain⟨a1,h1⟩:∃b,co9 x.ns=b:=⟨_,rfl⟩;obtain⟨a2,h2⟩:∃b,co9 (co8 x.ps)=b:=⟨_,rfl⟩;have hbad:cp9 x=(!a1|| !a2):=by rw[←h1,←h2];rfl
       rw[h1]at hw1;rw[h2]at hw2;rw[dp9 hx0,hbad]at ok
       cases hb:(!a1|| !a2)with
       |true=>
        rw[hb,Bool.true_or]at ok;rw[ok]
        repeat'(first|refine bd3 17 (fun b=>⟨[(87,.d (.bool b))],[oPA ⟨vr,ns,es⟩]⟩) (true) ?_ ?_|refine yz ?_|refine yi (cp5 x) hx ?_|refine qP (d:=79) rfl rfl rfl rfl rfl rfl b203 (hw1) ?_|refine yp b202 hk ?_|refine qP (d:=85) rfl rfl rfl rfl rfl rfl b203 (hw2) ?_|refine ac1 ⟨_,?_,(zle 1)⟩|(refine yy ?_ ?_<;>intro _)|exact zD)
        all_goals(clear hlg hpt hcp hcq hwv hk hw1 hw2 ok hbad h1 h2 hfit hft hnb hope hopn hok c1 c2 c3 c4;simp_all)
       |false=>
        rw[hb,fm9]at ok
        repeat'(first|refine bd3 17 (fun b=>⟨[(87,.d (.bool b)),(1,.d (.bool cr)),(2,.ptr 0 0),(5,.d (.sl (L.map cp5))),(71,.d (.sl (L.map cp5))),(72,.d (.int (L.map cp5).length)),(73,.d (.int i))],[oPA ⟨vr,ns,es⟩]⟩) (false) ?_ ?_|refine yz ?_|refine yi (cp5 x) hx ?_|refine qP (d:=79) rfl rfl rfl rfl rfl rfl b203 (hw1) ?_|refine yp b202 hk ?_|refine qP (d:=85) rfl rfl rfl rfl rfl rfl b203 (hw2) ?_|refine ac1 ⟨_,?_,(zle 1)⟩|(refine yy ?_ ?_<;>intro _))
        all_goals first|(refine ac1 ?_;exact⟨⟨i+1,by omega,ok⟩,by dsimp only;omega,(zle 1)⟩)|(clear hlg hpt hcp hcq hwv hk hw1 hw2 ok hbad h1 h2 hfit hft hnb hope hopn hok c1 c2 c3 c4;simp_all;done)
      ·have g5:decide ((i:Int)<((L.map cp5).length:Int))=false:=by rw[hlL];simp;omega
       rw[fk5 hge,fp7]at ok;rw[ok];simp only[cond_false]
       repeat'(refine yz ?_)
       clear ok hge hi g5;refine ac7 (α:=SEx L) (fun p=>⟨[(1,.d (.bool cr)),(2,.ptr 0 0),(10,.d (.bool p.g)),(89,.d (.sl (L.map cp5))),(90,.d (.int (L.map cp5).length)),(91,.d (.int p.i))],[oPA ⟨vr,ns,es⟩]⟩) (fun p=>L.length-p.i) ⟨0,by omega,false,rfl,by simp⟩ (zle 1) ?_;rintro⟨i,hi,g,ok,hg⟩;dsimp only at ok hg ⊢;rcases fj8 i L.length with hlt|hge
       ·have g5:decide ((i:Int)<((L.map cp5).length:Int))=true:=by rw[hlL];simpa using hlt
        have hx0:=fj7 hlt;generalize L[i]=x at hx0;have hx:=ct3 (f:=cp5) hx0;have hlp:(x.ps.map cn9).length=x.ps.length:=Oc
        have hxn:=hnb x (fj9 hx0);rw[ct2 hx0,dq0]at ok hg
        repeat'(first|refine yz ?_|refine yi (cp5 x) hx ?_)
        refine ac7 (α:=SEy L x i) (fun p=>⟨[(1,.d (.bool cr)),(2,.ptr 0 0),(10,.d (.bool p.g)),(89,.d (.sl (L.map cp5))),(90,.d (.int (L.map cp5).length)),(91,.d (.int i)),(96,.d (.sl (x.ps.map cn9))),(97,.d (.int (x.ps.map cn9).length)),(98,.d (.int p.j))],[oPA ⟨vr,ns,es⟩]⟩) (fun p=>x.ps.length-p.j) ⟨0,by omega,g,ok,hg⟩ (zle 1) ?_;clear ok hg g;rintro⟨j,hj,g,ok,hg⟩;dsimp only at ok hg ⊢;rcases fj8 j x.ps.length with hlt2|hge2
        ·have g6:decide ((j:Int)<((x.ps.map cn9).length:Int))=true:=by rw[hlp];simpa using hlt2
         have hq0:=fj7 hlt2;generalize x.ps[j]=q at hq0;have hq:=ct3 (f:=cn9) hq0;have hqe:=hope q.e (dp6 (fj9 hx0) (fj9 hq0));have hce:=cn7 q.e hqe.1 hqe.2;have hha:=cv4 q.e;rw[ct2 hq0,fm5,fn1]at ok hg;rw[cq0]at ok;rw[fo4]at hg;obtain⟨key,qe⟩:=q;dsimp only at hce hha ok hg
         cases he:cn6 qe !=0 with
         |true=>
          rw[he,cond_true]at ok;rw[ok,he,cond_true]
          repeat'(first|refine yz ?_|refine yi (cn9 ⟨key,qe⟩) hq ?_|refine yp b61 hce ?_|exact zD)
         |false=>
          rw[he,cond_false]at ok
          cases g with
          |true=>
           repeat'(first|refine yz ?_|refine yi (cn9 ⟨key,qe⟩) hq ?_|refine yp b61 hce ?_)
           refine ac1 ?_;exact⟨⟨j+1,by omega,true,ok,by rw[hg];simp⟩,by dsimp only;omega,(zle 1)⟩
          |false=>
           repeat'(first|refine yz ?_|refine yi (cn9 ⟨key,qe⟩) hq ?_|refine yp b61 hce ?_|refine yp b63 hha ?_)
           refine ac1 ?_;exact⟨⟨j+1,by omega,co7 qe,ok,by rw[hg];simp⟩,by dsimp only;omega,(zle 1)⟩
        ·have g6:decide ((j:Int)<((x.ps.map cn9).length:Int))=false:=by rw[hlp];simp;omega
         rw[fk5 hge2,fr0,fm7]at ok hg
         repeat'(refine yz ?_)
         refine ac1 ?_;exact⟨⟨i+1,by omega,g,ok,hg⟩,by dsimp only;omega,(zle 1)⟩
       ·have g5:decide ((i:Int)<((L.map cp5).length:Int))=false:=by rw[hlL];simp;omega
        rw[fk5 hge]at ok hg;have h0:cq0 (cq1 L)=0:=ok;have h1:(cq1 L).any co7=g:=by rw[hg];simp[cq1]
        rw[h0,h1]
        cases g with
        |true=>
         exact Ok
        |false=>
         cases cr with
         |false=>
          exact Ok
         |true=>
          cases c9:es.any fun e=> !cp4 e with
          |true=>
           rw[c9]at hcq
           repeat'(first|refine yz ?_|refine qP (d:=123) rfl rfl rfl rfl rfl rfl bq9 (hcq) ?_|exact zD)
          |false=>
           rw[c9]at hcq
           repeat'(first|refine yz ?_|refine qP (d:=123) rfl rfl rfl rfl rfl rfl bq9 (hcq) ?_|exact zD)
theorem dq2(l:List ByteArray):Ev E 349 [.sl (l.map .str)] (.d (.bool (co9 l))):=Ev.fit fun hfit=>by
 have hmax:=(ct4 (hfit (.sl (l.map .str)) Oc)).1;have hle:(l.map D.str).length=l.length:=Oc
 by_cases h0:l=[]
 ·subst h0;refine ye1 func349 ntmps349 fun _ _ _=>?_
  repeat'(first|refine yz ?_|refine yx ?_|(refine yy ?_ ?_<;>intro _)|exact zD|exact zL)
  refine ac7 (α:=Unit) (fun p=>⟨[(0,.d (.sl [])),(3,.d (.int 1))],[]⟩) (fun p=>0) () (zle 0) ?_;rintro-;have g1:decide ((1:Int)<(([]:List D).length:Int))=false:=rfl
  exact Ok
 have hp:=ft2.2 h0;refine ye1 func349 ntmps349 fun _ _ _=>?_
 repeat'(first|refine yz ?_|refine yx ?_|(refine yy ?_ ?_<;>intro _)|exact zD|exact zL)
 refine ac7 (α:=SRc l) (fun p=>⟨[(0,.d (.sl (l.map .str))),(3,.d (.int ((p.i+1:Nat):Int)))],[]⟩) (fun p=>l.length-p.i) ⟨0,by omega,rfl⟩ (zle 0) ?_;rintro⟨i,hi,ok⟩;dsimp only;rcases fj8 (i+1) l.length with hlt|hge
 ·have g1:decide (((i+1:Nat):Int)<((l.map D.str).length:Int))=true:=by rw[hle];simp;omega
  have ha0:=fj7 (show i<l.length by omega);have hb0:=fj7 hlt;generalize l[i]=a at ha0;generalize l[i+1]=b at hb0;have hb:=ct3 (f:=D.str) hb0
  have ha:(l.map D.str)[(((i+1:Nat):Int) -1).toNat]? =some (.str a):=by
   rw[show(((i+1:Nat):Int) -1)=(i:Int) by omega];exact ct3 (f:=D.str) ha0
  have g2:=cu6 a b;rw[ok,cu7 ha0 hb0]
  cases hc:Op.bytesLess a.toList b.toList with
  |true=>
   have hcn:(!Op.bytesLess a.toList b.toList)=false:=by rw[hc];rfl
   rw[hc]at g2
   repeat'(first|refine yz ?_|refine yi (.str b) hb ?_|refine yi (.str a) ha ?_|refine yx ?_|(refine yy ?_ ?_<;>intro _)|exact zD|exact zL)
   refine ac1 ?_;exact⟨⟨i+1,hlt,by rw[ok,cu7 ha0 hb0,hc];rfl⟩,by dsimp only;omega,(zle 0)⟩
  |false=>
   have hcn:(!Op.bytesLess a.toList b.toList)=true:=by rw[hc];rfl
   rw[hc]at g2
   repeat'(first|refine yz ?_|refine yi (.str b) hb ?_|refine yi (.str a) ha ?_|refine yx ?_|(refine yy ?_ ?_<;>intro _)|exact zD|exact zL)
 ·have g1:decide (((i+1:Nat):Int)<((l.map D.str).length:Int))=false:=by rw[hle];simp;omega
  rw[ok,cu8 Oa]
  exact Ok
theorem dq3(s:ByteArray):Ev E 346 [.str s] (.d (.bool (cp7 s))):=by
 have h:=cm5 s;have hs:s0B s=(s.toList==(⟨#[]⟩:ByteArray).toList):=rfl;unfold cp7;rw[hs]
 cases c1:s.toList==(⟨#[]⟩:ByteArray).toList with
 |true=>
  refine ye1 func346 ntmps346 fun _ _ _=>?_
  exact Ok
 |false=>
  refine ye1 func346 ntmps346 fun _ _ _=>?_
  repeat'(first|refine yz ?_|refine yp b77 h ?_|refine yx ?_|(refine yy ?_ ?_<;>intro _)|exact zD|exact zL)
structure SAc{α:Type}(l:List α)(f:α→Bool) where
 i:Nat
 hi:i≤l.length
 ok:l.all f=(l.drop i).all f
theorem dq4{α:Type}{l:List α}{f:α→Bool}{i:Nat}{x:α}(h:l[i]? =some x):(l.drop i).all f=(f x&&(l.drop (i+1)).all f):=by rw[ct2 h,fn8]
theorem dq5(l:List ByteArray):Ev E 275 [.sl (l.map .str)] (.d (.bool (l.all cm2))):=Ev.fit fun hfit=>by
 have hmax:=(ct4 (hfit (.sl (l.map .str)) Oc)).1;have hle:(l.map D.str).length=l.length:=Oc
 refine ye1 func275 ntmps275 fun _ _ _=>?_
 repeat'(first|refine yz ?_|refine yx ?_|(refine yy ?_ ?_<;>intro _)|exact zD|exact zL)
 refine ac7 (α:=SAc l cm2) (fun p=>⟨[(0,.d (.sl (l.map .str))),(3,.d (.int p.i))],[]⟩) (fun p=>l.length-p.i) ⟨0,by omega,rfl⟩ (zle 0) ?_;rintro⟨i,hi,ok⟩;dsimp only at ok ⊢;rcases fj8 i l.length with hlt|hge
 ·have g1:decide ((i:Int)<((l.map D.str).length:Int))=true:=by rw[hle];simpa using hlt
  have hx0:=fj7 hlt;generalize l[i]=x at hx0;have hx:=ct3 (f:=D.str) hx0;have h:=cm5 x;rw[dq4 hx0]at ok
  cases hc:cm2 x with
  |true=>
   rw[hc]at h ok
   repeat'(first|refine yz ?_|refine yi (.str x) hx ?_|refine yp b77 h ?_|refine yx ?_|(refine yy ?_ ?_<;>intro _)|exact zD|exact zL)
   refine ac1 ?_;exact⟨⟨i+1,by omega,by rw[ok];rfl⟩,by dsimp only;omega,(zle 0)⟩
  |false=>
   rw[hc]at h ok;rw[ok]
   repeat'(first|refine yz ?_|refine yi (.str x) hx ?_|refine yp b77 h ?_|refine yx ?_|(refine yy ?_ ?_<;>intro _)|exact zD|exact zL)
 ·have g1:decide ((i:Int)<((l.map D.str).length:Int))=false:=by rw[hle];simp;omega
  rw[ok,fk5 hge]
  exact Ok
theorem dq6(e:Ex):Ev E 140 [by1 e] (.d (.bool (co7 e))):=by
 refine bz0 (P:=fun e=>Ev E 140 [by1 e] (.d (.bool (co7 e)))) (fun op v nm ds ks ih=>Ev.fit fun hfit=>?_) e;have hk:=cv2 (.mk op v nm ds ks);simp only[Ex.ks]at hk;have hle:(bx9 (.mk op v nm ds ks)).length=ks.length:=by rw[hk];simp
 obtain⟨-,-,-,hmax,-⟩:=by8 (hfit (by1 (.mk op v nm ds ks)) Oc);simp only[Ex.ks]at hmax;rw[cv3]
 cases c1:op==24 with
 |true=>
  refine ye1 func140 ntmps140 fun _ _ _=>?_
  exact Ok
 |false=>
  rw[fm9];refine ye1 func140 ntmps140 fun _ _ _=>?_
  repeat'(first|refine yz ?_|refine yx ?_|(refine yy ?_ ?_<;>intro _)|exact zD|exact zL)
  refine ac7 (α:=SNc ks co7) (fun p=>⟨[(1,.ptr 0 0),(3,.d (.int p.i))],[.var 33 (.w (.d (by1 (.mk op v nm ds ks))))]⟩) (fun p=>ks.length-p.i) ⟨0,by omega,rfl⟩ (zle 1) ?_;rintro⟨i,hi,ok⟩;dsimp only at ok ⊢;rcases fj8 i ks.length with hlt|hge
  ·have g1:decide ((i:Int)<((bx9 (.mk op v nm ds ks)).length:Int))=true:=by rw[hle];simpa using hlt
   have hx0:=fj7 hlt;generalize ks[i]=x at hx0;have hx:(bx9 (.mk op v nm ds ks))[((i:Nat):Int).toNat]? =some (by1 x):=by rw[hk];exact ct3 (f:=by1) hx0
   have h:=ih x (fj9 hx0);rw[dp9 hx0]at ok
   cases hc:co7 x with
   |true=>
    rw[hc]at h ok;rw[ok]
    repeat'(first|refine yz ?_|refine yi (by1 x) hx ?_|refine yp bp9 h ?_|refine yx ?_|(refine yy ?_ ?_<;>intro _)|exact zD|exact zL)
   |false=>
    rw[hc]at h ok
    repeat'(first|refine yz ?_|refine yi (by1 x) hx ?_|refine yp bp9 h ?_|refine yx ?_|(refine yy ?_ ?_<;>intro _)|exact zD|exact zL)
    refine ac1 ?_;exact⟨⟨i+1,by omega,by rw[ok];rfl⟩,by dsimp only;omega,(zle 1)⟩
  ·have g1:decide ((i:Int)<((bx9 (.mk op v nm ds ks)).length:Int))=false:=by rw[hle];simp;omega
   rw[ok,fk5 hge]
   exact Ok
theorem dq7(e:EP):Ev E 347 [co1 e] (.d (.bool (cp3 e))):=by
 obtain⟨vr,ty,dir,mode,mn,mx,ps⟩:=e;refine ye1 func347 ntmps347 fun _ _ _=>?_
 repeat'(first|refine yz ?_|refine yx ?_|(refine yy ?_ ?_<;>intro _)|(refine qV rfl ?_ ?_<;>intro _)|exact zD|exact zL)
 all_goals(refine congrArg D.bool ?_;simp_all [cp3,fn2])
 all_goals first|omega|(rw[fk9];simp;omega)
theorem dq8(l:List PP)(hl:l.length≤1000000):Ev E 348 [.sl (l.map cn9)] (.d (.sl ((co8 l).map .str))):=by
 have hle:(l.map cn9).length=l.length:=Oc
 refine ye1 func348 ntmps348 fun _ _ _=>?_
 repeat'(first|refine yz ?_|refine yx ?_|(refine yy ?_ ?_<;>intro _)|exact zD|exact zL)
 refine ac7 (α:=SKy l) (fun p=>⟨[(3,bf9 0 ((co8 (l.take p.i)).map .str)),(0,.d (.sl (l.map cn9))),(4,.d (.int p.i))],aw7 9 1 ((co8 (l.take p.i)).map .str)⟩) (fun p=>l.length-p.i) ⟨0,by omega⟩ (zle 0) ?_;rintro⟨i,hi⟩;dsimp only;have hol:((co8 (l.take i)).map D.str).length≤1000000:=by simp[co8];omega
 rcases fj8 i l.length with hlt|hge
 ·have g1:decide ((i:Int)<((l.map cn9).length:Int))=true:=by rw[hle];simpa using hlt
  have hx0:=fj7 hlt;generalize l[i]=x at hx0;have hx:=ct3 (f:=cn9) hx0;have hnx:=cv9 hx0;generalize(co8 (l.take i)).map D.str=o at*
  match o,hol with
  |[],hol=>
   dsimp only[bf9,aw7]
   repeat'(first|refine yz ?_|refine yi (cn9 x) hx ?_|(refine qS rfl ⟨by simp,fun d hd=>by(obtain rfl:=fk8.1 hd;rfl),by(show(0+1)*16≤140737488355328;omega),by(show 0+1≤9223372036854775807;omega)⟩ ?_)|refine yx ?_|(refine yy ?_ ?_<;>intro _)|exact zD|exact zL)
   refine ac1 ?_;refine⟨⟨i+1,by omega⟩,by dsimp only;omega,?_⟩;dsimp only;rw[hnx];exact(bh0 [0])
  |a::q,hol=>
   dsimp only[bf9,aw7]
   repeat'(first|refine yz ?_|refine yi (cn9 x) hx ?_|(refine qS rfl ⟨by simp,fun d hd=>by(obtain rfl:=fk8.1 hd;rfl),by(show((a::q).length+1)*16≤140737488355328;omega),by(show(a::q).length+1≤9223372036854775807;omega)⟩ ?_)|refine yx ?_|(refine yy ?_ ?_<;>intro _)|exact zD|exact zL)
   refine ac1 ?_;refine⟨⟨i+1,by omega⟩,by dsimp only;omega,?_⟩;dsimp only;rw[hnx];exact(bh0 [1])
 ·have g1:decide ((i:Int)<((l.map cn9).length:Int))=false:=by rw[hle];simp;omega
  rw[fl4 hge];generalize(co8 l).map D.str=o at*
  match o with
  |[]=>
   dsimp only[bf9,aw7]
   exact Ok
  |a::q=>
   dsimp only[bf9,aw7];refine qA ?_;refine au2 0 rfl ?_
   exact Ok
theorem dq9:∀(l:List EP) (n:Int),n≤l.foldl (fun n e=>n+cp0 e) n
 |[],n=>Int.le_refl _
 |e::r,n=>by
  have h1:=dq9 r (n+cp0 e);have h2:=(cw1 e).1;rw[fo0];omega
theorem dr0(p:PA):Ev E 345 [co2 p] (.d (.bool (!cp2 p))):=Ev.fit fun hfit=>by
 obtain⟨vr,ns,es⟩:=p;have hft:=hfit (co2 ⟨vr,ns,es⟩) Oc;have hmn:=(ct4 (hft.aggs (.sl (ns.map co0)) Oc)).1;have hme:=(ct4 (hft.aggs (.sl (es.map co1)) Oc)).1;have hln:(ns.map co0).length=ns.length:=Oc
 have hle:(es.map co1).length=es.length:=Oc
 unfold cp2;dsimp only
 cases c1:ns.length==0 with
 |true=>
  have g1:(((ns.map co0).length:Int)==0)=true:=by rw[hln];simp at c1 ⊢;omega
  refine ye1 func345 ntmps345 fun _ _ _=>?_
  exact Ok
 |false=>
  have g1:(((ns.map co0).length:Int)==0)=false:=by rw[hln];simp at c1 ⊢;omega
  cases c2:decide (es.length>6)with
  |true=>
   have g2:decide (((es.map co1).length:Int)>6)=true:=by rw[hle];simp at c2 ⊢;omega
   refine ye1 func345 ntmps345 fun _ _ _=>?_
   exact Ok
  |false=>
   have g2:decide (((es.map co1).length:Int)>6)=false:=by rw[hle];simp at c2 ⊢;omega
   have h6:es.length≤6:=by simp at c2;omega
   rw[fm9,fm9];refine ye1 func345 ntmps345 fun _ _ _=>?_
   repeat'(first|refine yz ?_|refine yx ?_|(refine yy ?_ ?_<;>intro _)|exact zD|exact zL)
   refine ac7 (α:=SLo es) (fun p=>⟨[(1,.ptr 0 0),(3,.d (.int p.n)),(4,.d (.int p.i))],[oPA ⟨vr,ns,es⟩]⟩) (fun p=>es.length-p.i) ⟨0,0,by omega,by omega,by omega,rfl⟩ (zle 1) ?_;rintro⟨i,n,hi,h0,h1,ok⟩;dsimp only at ok ⊢;rcases fj8 i es.length with hlt|hge
   ·have g3:decide ((i:Int)<((es.map co1).length:Int))=true:=by rw[hle];simpa using hlt
    have hx0:=fj7 hlt;generalize es[i]=e at hx0;have hx:=ct3 (f:=co1) hx0;have hr:=cw1 e;rw[ct2 hx0,fo0]at ok
    cases c3:e.mode==0 with
    |true=>
     have hn:cp0 e=1:=by unfold cp0;rw[c3];rfl
     rw[hn]at ok
     repeat'(first|refine yz ?_|refine yi (co1 e) hx ?_|refine yx ?_|(refine yy ?_ ?_<;>intro _)|exact zD|exact zL)
     refine ac1 ?_;exact⟨⟨i+1,n+1,by omega,by omega,by omega,ok⟩,by dsimp only;omega,(zle 1)⟩
    |false=>
     have hn:cp0 e=min (max e.mx 0) 13:=by unfold cp0;rw[c3];rfl
     rw[hn]at ok hr
     cases c4:decide (e.mx>12)with
     |true=>
      have h13:min (max e.mx 0) 13=13:=by simp at c4;omega
      have hgt:decide (cp1 es>12)=true:=by
       have:=dq9 (es.drop (i+1)) (n+min (max e.mx 0) 13);simp;omega
      rw[hgt]
      repeat'(first|refine yz ?_|refine yi (co1 e) hx ?_|refine yx ?_|(refine yy ?_ ?_<;>intro _)|exact zD|exact zL)
     |false=>
      cases c5:decide (e.mx>0)with
      |true=>
       have hmx:min (max e.mx 0) 13=e.mx:=by simp at c4 c5;omega
       rw[hmx]at ok hr
       repeat'(first|refine yz ?_|refine yi (co1 e) hx ?_|refine yx ?_|(refine yy ?_ ?_<;>intro _)|exact zD|exact zL)
       refine ac1 ?_;exact⟨⟨i+1,n+e.mx,by omega,by omega,by omega,ok⟩,by dsimp only;omega,(zle 1)⟩
      |false=>
       have hmx:min (max e.mx 0) 13=0:=by simp at c4 c5;omega
       rw[hmx,Int.add_zero]at ok
       repeat'(first|refine yz ?_|refine yi (co1 e) hx ?_|refine yx ?_|(refine yy ?_ ?_<;>intro _)|exact zD|exact zL)
       refine ac1 ?_;exact⟨⟨i+1,n,by omega,by omega,by omega,ok⟩,by dsimp only;omega,(zle 1)⟩
   ·have g3:decide ((i:Int)<((es.map co1).length:Int))=false:=by rw[hle];simp;omega
    have hn:cp1 es=n:=by rw[ok,fk5 hge];rfl
    have e:(!decide (n>12))=decide (n≤12):=by by_cases h:n>12<;>simp[h]<;>omega
    rw[hn,e]
    exact Ok
theorem Le.same{C:Cx}{tm tm':List (Nat × X)}{ob:List aa5}(h:∀p∈tm',lk tm p.1=p.2):Le C ⟨tm,ob⟩ ⟨tm',ob⟩:=by
 rintro a w ⟨F,σ,h1,h2,h3,hi,h4,h5,hs⟩;refine⟨F,σ,h1,h2,h3,hi,h4,h5,fun t=>?_⟩
 have key:∀l:List (Nat × X),(∀p∈l,lk tm p.1=p.2)→lk l t=lk tm t∨lk l t=.top:=by
  intro l
  induction l with
  |nil=>exact fun _=>.inr rfl
  |cons p r ih=>
   intro hp;obtain⟨k,x⟩:=p;simp only[lk]
   cases hb:Nat.beq k t with
   |true=>
    obtain rfl:=fl0 hb;exact .inl (hp (k,x) Oc).symm
   |false=>exact ih fun q hq=>hp q (by simp[hq])
 rcases key tm' h with e|e
 ·show RdX w F σ (lk tm' t) _;rw[e];exact hs t
 ·show RdX w F σ (lk tm' t) _;rw[e];trivial
structure SPr(T:List Ex)(ns:List NP)(es:List EP) where
 i:Nat
 o:List Ex
 hi:i≤ns.length
 ok:T=o++cq1 (cp6 (ns.drop i) (es.drop i))
structure SPk(T:List Ex)(l:List PP)(rest:List Ex) where
 k:Nat
 o:List Ex
 hk:k≤l.length
 ok:T=o++((l.drop k).map (fun p=>p.e)++rest)
theorem dr1{ns:List NP}{es:List EP}{i:Nat}{x:NP}(hx:ns[i]? =some x):cq1 (cp6 (ns.drop i) (es.drop i))=x.ps.map (fun p=>p.e)++((match es[i]? with|some y=>y.ps.map (fun p=>p.e)|none=>[])++cq1 (cp6 (ns.drop (i+1)) (es.drop (i+1)))):=by
 rw[ct2 hx]
 cases hy:es[i]? with
 |none=>
  have hge:es.length≤i:=List.getElem?_eq_none_iff.1 hy;have he0:es.drop i=[]:=fk5 hge;have he1:es.drop (i+1)=[]:=fk5 Oa;rw[he0,he1,cp6,dq0];rfl
 |some y=>
  rw[ct2 hy,cp6,dq0,dq0];rfl
set_option maxHeartbeats 4000000 in
theorem dr2(p:PA)(hT:(cq1 (cp6 p.ns p.es)).length≤1000000)(hn:p.ns.length≤1000000):Ev E 33 [co2 p] (.d (.sl ((cq1 (cp6 p.ns p.es)).map by1))):=Ev.fit fun hfit=>by
 obtain⟨vr,ns,es⟩:=p;dsimp only at hn hT ⊢;have hft:=hfit (co2 ⟨vr,ns,es⟩) Oc;have hme:=(ct4 (hft.aggs (.sl (es.map co1)) Oc)).1;have hln:(ns.map co0).length=ns.length:=Oc
 have hle:(es.map co1).length=es.length:=Oc
 obtain⟨T,hTT⟩:∃T,cq1 (cp6 ns es)=T:=⟨_,rfl⟩;rw[hTT]at hT ⊢;refine ye1 func33 ntmps33 fun _ _ _=>?_
 repeat'(first|refine yz ?_|refine yx ?_|(refine yy ?_ ?_<;>intro _)|exact zD|exact zL)
 refine ac7 (α:=SPr T ns es) (fun p=>⟨[(3,bf9 1 (p.o.map by1)),(1,.ptr 0 0),(4,.d (.int p.i))],[oPA ⟨vr,ns,es⟩]++aw7 33 9 (p.o.map by1)⟩) (fun p=>ns.length-p.i) ⟨0,[],by omega,by rw[←hTT];simp⟩ (zle 1) ?_;rintro⟨i,o,hi,ok⟩;dsimp only at ok ⊢;have hol:(o.map by1).length≤1000000:=by have:=congrArg List.length ok;rw[fk1]at this;rw[fk3];omega
 rcases fj8 i ns.length with hlt|hge
 ·have g1:decide ((i:Int)<((ns.map co0).length:Int))=true:=by rw[hln];simpa using hlt
  have hx0:=fj7 hlt;generalize ns[i]=x at hx0;have hx:=ct3 (f:=co0) hx0;rw[dr1 hx0]at ok;have hxl:(x.ps.map cn9).length=x.ps.length:=Oc
  have hmx:x.ps.length≤1000000:=by
   have:=congrArg List.length ok;simp only[fk1,fk3]at this;omega
  repeat'(first|refine yz ?_|refine yx ?_|(refine yy ?_ ?_<;>intro _)|exact zD|exact zL)
  refine ac7 (α:=SPk T x.ps ((match es[i]? with|some y=>y.ps.map (fun p=>p.e)|none=>[])++cq1 (cp6 (ns.drop (i+1)) (es.drop (i+1))))) (fun p=>⟨[(3,bf9 1 (p.o.map by1)),(1,.ptr 0 0),(4,.d (.int i)),(5,.d (.int p.k))],[oPA ⟨vr,ns,es⟩]++aw7 33 9 (p.o.map by1)⟩) (fun p=>x.ps.length-p.k) ⟨0,o,by omega,ok⟩ ((Le.same (by intro p hp;simp only[fk7,fr5,or_false]at hp;rcases hp with rfl|rfl|rfl|rfl<;>rfl))) ?_;clear ok;clear hol;clear o;rintro⟨k,o,hk,ok⟩;dsimp only at ok ⊢;have hol:(o.map by1).length≤1000000:=by have:=congrArg List.length ok;rw[fk1]at this;rw[fk3];omega
  rcases fj8 k x.ps.length with hlt3|hge3
  ·have g7:decide ((k:Int)<((x.ps.map cn9).length:Int))=true:=by rw[fk3];simpa using hlt3
   have hq0:=fj7 hlt3;generalize x.ps[k]=q at hq0;have hq:=ct3 (f:=cn9) hq0;rw[ct2 hq0,fm5,fn1]at ok;have hnx:(o++ [q.e]).map by1=o.map by1++ [by1 q.e]:=Oc
   have hok:T=(o++ [q.e])++((x.ps.drop (k+1)).map (fun p=>p.e)++((match es[i]? with|some y=>y.ps.map (fun p=>p.e)|none=>[])++cq1 (cp6 (ns.drop (i+1)) (es.drop (i+1))))):=by rw[ok];simp
   obtain⟨key,qe⟩:=q;dsimp only at hnx hok;generalize o.map by1=oo at*
   match oo,hol with
   |[],hol=>
    dsimp only[bf9,aw7]
    repeat'(first|refine yz ?_|refine yi (co0 x) hx ?_|refine yi (cn9 ⟨key,qe⟩) hq ?_|(refine qS rfl ⟨by simp,fun d hd=>by(obtain rfl:=fk8.1 hd;rfl),by(show(0+1)*120≤140737488355328;omega),by(show 0+1≤9223372036854775807;omega)⟩ ?_)|refine yx ?_|(refine yy ?_ ?_<;>intro _)|exact zD|exact zL)
    refine ac1 ?_;refine⟨⟨k+1,o++ [qe],by omega,hok⟩,by dsimp only;omega,?_⟩;dsimp only;rw[hnx];exact(bh0 [0,1])
   |a::r2,hol=>
    dsimp only[bf9,aw7];have hq2:(a::r2).length≤1000000:=hol
    repeat'(first|refine yz ?_|refine yi (co0 x) hx ?_|refine yi (cn9 ⟨key,qe⟩) hq ?_|(refine qS rfl ⟨by simp,fun d hd=>by(obtain rfl:=fk8.1 hd;rfl),by(show((a::r2).length+1)*120≤140737488355328;omega),by(show(a::r2).length+1≤9223372036854775807;omega)⟩ ?_)|refine yx ?_|(refine yy ?_ ?_<;>intro _)|exact zD|exact zL)
    refine ac1 ?_;refine⟨⟨k+1,o++ [qe],by omega,hok⟩,by dsimp only;omega,?_⟩;dsimp only;rw[hnx];exact(bh0 [0,2])
  ·have g7:decide ((k:Int)<((x.ps.map cn9).length:Int))=false:=by rw[fk3];simp;omega
   rw[fk5 hge3,fr0,fm7]at ok;clear hge3 hk;rcases fj8 i es.length with hlt2|hge2
   ·have g2:decide ((i:Int)<((es.map co1).length:Int))=true:=by rw[hle];simpa using hlt2
    have hy0:=fj7 hlt2;generalize es[i]=y at hy0;have hy:=ct3 (f:=co1) hy0;rw[hy0]at ok;have hyl:(y.ps.map cn9).length=y.ps.length:=Oc
    have hmy:y.ps.length≤1000000:=by
     have:=congrArg List.length ok;simp only[fk1,fk3]at this;omega
    repeat'(first|refine yz ?_|refine yi (co0 x) hx ?_|refine yx ?_|(refine yy ?_ ?_<;>intro _)|exact zD|exact zL)
    refine ac7 (α:=SPk T y.ps (cq1 (cp6 (ns.drop (i+1)) (es.drop (i+1))))) (fun p=>⟨[(3,bf9 1 (p.o.map by1)),(1,.ptr 0 0),(4,.d (.int i)),(6,.d (.int p.k))],[oPA ⟨vr,ns,es⟩]++aw7 33 9 (p.o.map by1)⟩) (fun p=>y.ps.length-p.k) ⟨0,o,by omega,ok⟩ ((Le.same (by intro p hp;simp only[fk7,fr5,or_false]at hp;rcases hp with rfl|rfl|rfl|rfl<;>rfl))) ?_;clear ok;clear hol;clear o;rintro⟨k,o,hk,ok⟩;dsimp only at ok ⊢;have hol:(o.map by1).length≤1000000:=by have:=congrArg List.length ok;rw[fk1]at this;rw[fk3];omega
    rcases fj8 k y.ps.length with hlt3|hge3
    ·have g7:decide ((k:Int)<((y.ps.map cn9).length:Int))=true:=by rw[fk3];simpa using hlt3
     have hq0:=fj7 hlt3;generalize y.ps[k]=q at hq0;have hq:=ct3 (f:=cn9) hq0;rw[ct2 hq0,fm5,fn1]at ok;have hnx:(o++ [q.e]).map by1=o.map by1++ [by1 q.e]:=Oc
     have hok:T=(o++ [q.e])++((y.ps.drop (k+1)).map (fun p=>p.e)++(cq1 (cp6 (ns.drop (i+1)) (es.drop (i+1))))):=by rw[ok];simp
     obtain⟨key,qe⟩:=q;dsimp only at hnx hok;generalize o.map by1=oo at*
     match oo,hol with
     |[],hol=>
      dsimp only[bf9,aw7]
      repeat'(first|refine yz ?_|refine yi (co1 y) hy ?_|refine yi (cn9 ⟨key,qe⟩) hq ?_|(refine qS rfl ⟨by simp,fun d hd=>by(obtain rfl:=fk8.1 hd;rfl),by(show(0+1)*120≤140737488355328;omega),by(show 0+1≤9223372036854775807;omega)⟩ ?_)|refine yx ?_|(refine yy ?_ ?_<;>intro _)|exact zD|exact zL)
      refine ac1 ?_;refine⟨⟨k+1,o++ [qe],by omega,hok⟩,by dsimp only;omega,?_⟩;dsimp only;rw[hnx];exact(bh0 [0,1])
     |a::r2,hol=>
      dsimp only[bf9,aw7];have hq2:(a::r2).length≤1000000:=hol
      repeat'(first|refine yz ?_|refine yi (co1 y) hy ?_|refine yi (cn9 ⟨key,qe⟩) hq ?_|(refine qS rfl ⟨by simp,fun d hd=>by(obtain rfl:=fk8.1 hd;rfl),by(show((a::r2).length+1)*120≤140737488355328;omega),by(show(a::r2).length+1≤9223372036854775807;omega)⟩ ?_)|refine yx ?_|(refine yy ?_ ?_<;>intro _)|exact zD|exact zL)
      refine ac1 ?_;refine⟨⟨k+1,o++ [qe],by omega,hok⟩,by dsimp only;omega,?_⟩;dsimp only;rw[hnx];exact(bh0 [0,2])
    ·have g7:decide ((k:Int)<((y.ps.map cn9).length:Int))=false:=by rw[fk3];simp;omega
     rw[fk5 hge3,fr0,fm7]at ok;clear hge3 hk
     repeat'(first|refine yz ?_|refine yi (co1 y) hy ?_|refine yx ?_|(refine yy ?_ ?_<;>intro _)|exact zD|exact zL)
     refine ac1 ?_;exact⟨⟨i+1,o,by omega,ok⟩,by dsimp only;omega,(Le.same (by intro p hp;simp only[fk7,fr5,or_false]at hp;rcases hp with rfl|rfl|rfl<;>rfl))⟩
   ·have g2:decide ((i:Int)<((es.map co1).length:Int))=false:=by rw[hle];simp;omega
    rw[fn6 hge2,fm7]at ok
    repeat'(first|refine yz ?_|refine yi (co0 x) hx ?_|refine yx ?_|(refine yy ?_ ?_<;>intro _)|exact zD|exact zL)
    refine ac1 ?_;exact⟨⟨i+1,o,by omega,ok⟩,by dsimp only;omega,(Le.same (by intro p hp;simp only[fk7,fr5,or_false]at hp;rcases hp with rfl|rfl|rfl<;>rfl))⟩
 ·have g1:decide ((i:Int)<((ns.map co0).length:Int))=false:=by rw[hln];simp;omega
  rw[fk5 hge,cp6,show cq1 []=[]from rfl,fq3]at ok;rw[ok];generalize o.map by1=oo at*
  match oo with
  |[]=>
   dsimp only[bf9,aw7]
   exact Ok
  |a::q=>
   dsimp only[bf9,aw7];refine qA ?_;refine au2 1 rfl ?_
   exact Ok
theorem dr3(f:PT→Bool):∀(ns:List NP) (es:List EP),ns.length=es.length+1→(cp6 ns es).any f=((es.any fun e=>f (ptE e))||(ns.any fun n=>f (ptN n)))
 |[],es,h=>by simp at h
 |[n],[],_=>by simp[cp6]
 |n::m::r,[],h=>by simp at h
 |n::r,e::q,h=>by
  have ih:=dr3 f r q (by simpa using h);simp only[cp6,fo4,ih]
  cases f (ptN n)<;>cases f (ptE e)<;>cases(q.any fun e=>f (ptE e))<;>rfl
theorem dr4:∀{ns:List NP} {es:List EP},ns.length=es.length+1→∀e∈es,ptE e∈cp6 ns es
 |[],es,h=>by simp at h
 |n::r,[],_=>by simp
 |n::r,e::q,h=>fun x hx=>by
  simp only[cp6];rcases fk7.1 hx with rfl|hx
  ·simp
  ·have:=dr4 (ns:=r) (es:=q) (by simpa using h) x hx;simp[this]
theorem dr5:∀{ns:List NP} {es:List EP},∀n∈ns,ptN n∈cp6 ns es
 |n::r,[],x,hx=>by
  simp only[cp6];rcases fk7.1 hx with rfl|hx
  ·simp
  ·have:=dr5 (ns:=r) (es:=[]) x hx;simp[this]
 |n::r,e::q,x,hx=>by
  simp only[cp6];rcases fk7.1 hx with rfl|hx
  ·simp
  ·have:=dr5 (ns:=r) (es:=q) x hx;simp[this]
theorem dr6(a a0 a1 a2 z:Bool):(a&& !((!a0||(!a1|| !a2))||z))=((a&& !(!a0||(!a1|| !a2))) && !z):=by cases a<;>cases a0<;>cases a1<;>cases a2<;>cases z<;>rfl
theorem dr7(b b1 b2 z:Bool):(b&& !((!b1|| !b2)||z))=((b&& !(!b1|| !b2)) && !z):=by cases b<;>cases b1<;>cases b2<;>cases z<;>rfl
def dr8(p:PA):Int:=
 bif cp2 p then 4 else
 bif p.ns.length !=p.es.length+1||p.es.any fun e=> !cp3 e then 1 else
 bif !(cp7 p.vr)||(cp6 p.ns p.es).any cp8 then 6 else
 bif (cp6 p.ns p.es).any cp9 then 26 else 0
abbrev oEP(e:EP):aa5:=.var 76 (.w (.d (co1 e)))
abbrev oNP(e:NP):aa5:=.var 78 (.w (.d (co0 e)))
structure SSh{α:Type}(l:List α)(f g:α→Bool)(K S:Bool) where
 i:Nat
 a:Bool
 b:Bool
 hi:i≤l.length
 ha:(K&& !(l.any f))=(a&& !((l.drop i).any f))
 hb:(S&& !(l.any g))=(b&& !((l.drop i).any g))
structure SSi(l:List EP)(K:Bool) extends SSh l (fun e=>cp8 (ptE e)) (fun e=>cp9 (ptE e)) K true where
 hc:(l.any fun e=> !cp3 e)=(l.drop i).any fun e=> !cp3 e
set_option maxHeartbeats 4000000 in
theorem dr9(p:PA)(hok:OkPA p):Ev E 319 [co2 p] (.d (.int (dr8 p))):=Ev.fit fun hfit=>by
 have hho:=dr0 p;have hfv:=dq3 p.vr;have hopn:=hok.x;have hnn:=hok.n;unfold dr8;obtain⟨vr,ns,es⟩:=p;dsimp only at hfv hopn hnn ⊢;have hft:=hfit (co2 ⟨vr,ns,es⟩) Oc;have hme:=(ct4 (hft.aggs (.sl (es.map co1)) Oc)).1;have hln:(ns.map co0).length=ns.length:=Oc
 have hle:(es.map co1).length=es.length:=Oc
 cases c1:cp2 ⟨vr,ns,es⟩with
 |true=>
  rw[c1]at hho;refine ye1 func319 ntmps319 fun _ _ _=>?_
  repeat'(first|refine yz ?_|refine yp b345 hho ?_|refine yx ?_|(refine yy ?_ ?_<;>intro _)|exact zD|exact zL)
 |false=>
  have h6:es.length≤6:=by
   unfold cp2 at c1;dsimp only at c1;rw[fn9,fn9]at c1;have:=c1.1.2;simp at this;omega
  rw[c1]at hho;simp only[cond_false]
  cases c2:ns.length !=es.length+1 with
  |true=>
   have g2:(((ns.map co0).length:Int) !=((es.map co1).length:Int)+1)=true:=by rw[hln,hle];simp at c2 ⊢;omega
   refine ye1 func319 ntmps319 fun _ _ _=>?_
   repeat'(first|refine yz ?_|refine yp b345 hho ?_|refine yx ?_|(refine yy ?_ ?_<;>intro _)|exact zD|exact zL)
  |false=>
   have g2:(((ns.map co0).length:Int) !=((es.map co1).length:Int)+1)=false:=by rw[hln,hle];simp at c2 ⊢;omega
   have hlen:ns.length=es.length+1:=by simpa using c2
   rw[fm9,dr3 cp8 ns es hlen,dr3 cp9 ns es hlen];have hme2:∀e∈es,e.ps.length≤1000000:=fun e he=>fo2 (dp7 (x:=ptE e) (dr4 hlen e he)) hopn
   have hmn2:∀e∈ns,e.ps.length≤1000000:=fun e he=>fo2 (dp7 (x:=ptN e) (dr5 e he)) hopn
   obtain⟨K,hK⟩:∃K,cp7 vr=K:=⟨_,rfl⟩;rw[hK]at hfv ⊢;refine ye1 func319 ntmps319 fun _ _ _=>?_
   repeat'(first|refine yz ?_|refine yp b345 hho ?_|refine qP (d:=22) rfl rfl rfl rfl rfl rfl b346 (hfv) ?_|refine yx ?_|(refine yy ?_ ?_<;>intro _)|exact zD|exact zL)
   refine ac7 (α:=SSi es K) (fun p=>⟨[(1,.ptr 0 0),(3,.d (.bool p.a)),(4,.d (.bool p.b)),(5,.d (.int p.i))],[oPA ⟨vr,ns,es⟩]⟩) (fun p=>es.length-p.i) ⟨⟨0,K,true,by omega,rfl,rfl⟩,rfl⟩ (zle 1) ?_;rintro⟨⟨i,a,b,hi,ha,hb⟩,hc⟩;dsimp only at ha hb hc ⊢;rcases fj8 i es.length with hlt|hge
   ·have g5:decide ((i:Int)<((es.map co1).length:Int))=true:=by rw[hle];simpa using hlt
    have hx0:=fj7 hlt;generalize es[i]=x at hx0;have hx:=ct3 (f:=co1) hx0;have hbo:=dq7 x;have hk:=dq8 x.ps (hme2 x (fj9 hx0));have hw0:=dq3 x.vr;have hw1:=dq5 x.ty;have hw2:=dq5 (co8 x.ps);have hr1:=dq2 x.ty;have hr2:=dq2 (co8 x.ps);rw[dp9 hx0]at ha hb hc
    cases hh:cp3 x with
    |false=>
     rw[hh]at hbo hc;rw[hc]
     repeat'(first|refine yz ?_|refine yi (co1 x) hx ?_|refine yp b347 hbo ?_|refine yx ?_|(refine yy ?_ ?_<;>intro _)|exact zD|exact zL)
    |true=>
     rw[hh]at hbo hc;obtain⟨a0,h0⟩:∃b,cp7 x.vr=b:=⟨_,rfl⟩;obtain⟨a1,h1⟩:∃b,x.ty.all cm2=b:=⟨_,rfl⟩;obtain⟨a2,h2⟩:∃b,(co8 x.ps).all cm2=b:=⟨_,rfl⟩;obtain⟨b1,h3⟩:∃b,co9 x.ty=b:=⟨_,rfl⟩;obtain⟨b2,h4⟩:∃b,co9 (co8 x.ps)=b:=⟨_,rfl⟩;have hbad:cp8 (ptE x)=(!a0||(!a1|| !a2)):=by rw[←h0,←h1,←h2];rfl
     have hbae:cp9 (ptE x)=(!b1|| !b2):=by rw[←h3,←h4];rfl
     rw[h0]at hw0;rw[h1]at hw1;rw[h2]at hw2;rw[h3]at hr1;rw[h4]at hr2;rw[hbad]at ha;rw[hbae]at hb
     have na:(K&& !(es.any fun e=>cp8 (ptE e)))=((a&& !(!a0||(!a1|| !a2))) && !((es.drop (i+1)).any fun e=>cp8 (ptE e))):=by
      rw[ha];exact dr6 _ _ _ _ _
     have nb:(true&& !(es.any fun e=>cp9 (ptE e)))=((b&& !(!b1|| !b2)) && !((es.drop (i+1)).any fun e=>cp9 (ptE e))):=by
      rw[hb];exact dr7 _ _ _ _
     repeat'(first|refine bd3 12 (fun v=>⟨[(3,.d (.bool v)),(1,.ptr 0 0),(4,.d (.bool b)),(5,.d (.int i)),(6,.ptr 1 0)],[oPA ⟨vr,ns,es⟩,oEP x]⟩) ((a&& !(!a0||(!a1|| !a2)))) ?_ ?_|refine yz ?_|refine yi (co1 x) hx ?_|refine yp b347 hbo ?_|refine yp b346 hw0 ?_|refine qP (d:=47) rfl rfl rfl rfl rfl rfl br7 (hw1) ?_|refine yp b348 hk ?_|refine qP (d:=53) rfl rfl rfl rfl rfl rfl br7 (hw2) ?_|refine qP (d:=59) rfl rfl rfl rfl rfl rfl b349 (hr1) ?_|refine qP (d:=65) rfl rfl rfl rfl rfl rfl b349 (hr2) ?_|refine ac1 ⟨_,?_,(zle 2)⟩|refine yx ?_|(refine yy ?_ ?_<;>intro _)|(refine qV rfl ?_ ?_<;>intro _)|exact zD|exact zL)
     all_goals clear hho hfv hbo hk hw0 hw1 hw2 hr1 hr2 ha hb hbad hbae h0 h1 h2 h3 h4 hfit hft hme2 hmn2 hopn hok c1 c2 hh
     all_goals first|(refine ac1 ?_;refine⟨⟨⟨i+1,a&& !(!a0||(!a1|| !a2)),_,by omega,na,?nb⟩,hc⟩,?ms,(zle 1)⟩;(case ms=>(dsimp only;omega));(case nb=>(rw[nb];clear na nb hc;simp_all;done)))|(clear hc na nb;simp_all;done)|skip
   ·have g5:decide ((i:Int)<((es.map co1).length:Int))=false:=by rw[hle];simp;omega
    rw[fk5 hge,fp7,fp5,Bool.and_true]at ha hb;rw[fk5 hge,fp7]at hc;rw[hc];simp only[cond_false]
    repeat'(first|refine yz ?_|refine yx ?_|(refine yy ?_ ?_<;>intro _)|exact zD|exact zL)
    clear hge hi g5 hc;refine ac7 (α:=SSh ns (fun n=>cp8 (ptN n)) (fun n=>cp9 (ptN n)) a b) (fun p=>⟨[(1,.ptr 0 0),(3,.d (.bool p.a)),(4,.d (.bool p.b)),(7,.d (.int p.i))],[oPA ⟨vr,ns,es⟩]⟩) (fun p=>ns.length-p.i) ⟨0,a,b,by omega,rfl,rfl⟩ (zle 1) ?_;rintro⟨j,a',b',hj,ha',hb'⟩;dsimp only at ha' hb' ⊢;rcases fj8 j ns.length with hlt|hge
    ·have g5:decide ((j:Int)<((ns.map co0).length:Int))=true:=by rw[hln];simpa using hlt
     have hx0:=fj7 hlt;generalize ns[j]=x at hx0;have hx:=ct3 (f:=co0) hx0;have hk:=dq8 x.ps (hmn2 x (fj9 hx0));have hw0:=dq3 x.vr;have hw1:=dq5 x.lb;have hw2:=dq5 (co8 x.ps);have hr1:=dq2 x.lb;have hr2:=dq2 (co8 x.ps);rw[dp9 hx0]at ha' hb';obtain⟨a0,h0⟩:∃b,cp7 x.vr=b:=⟨_,rfl⟩;obtain⟨a1,h1⟩:∃b,x.lb.all cm2=b:=⟨_,rfl⟩;obtain⟨a2,h2⟩:∃b,(co8 x.ps).all cm2=b:=⟨_,rfl⟩;obtain⟨b1,h3⟩:∃b,co9 x.lb=b:=⟨_,rfl⟩;obtain⟨b2,h4⟩:∃b,co9 (co8 x.ps)=b:=⟨_,rfl⟩;have hbad:cp8 (ptN x)=(!a0||(!a1|| !a2)):=by rw[←h0,←h1,←h2];rfl
     have hbae:cp9 (ptN x)=(!b1|| !b2):=by rw[←h3,←h4];rfl
     rw[h0]at hw0;rw[h1]at hw1;rw[h2]at hw2;rw[h3]at hr1;rw[h4]at hr2;rw[hbad]at ha';rw[hbae]at hb'
     have na:(a&& !(ns.any fun e=>cp8 (ptN e)))=((a'&& !(!a0||(!a1|| !a2))) && !((ns.drop (j+1)).any fun e=>cp8 (ptN e))):=by
      rw[ha'];exact dr6 _ _ _ _ _
     have nb:(b&& !(ns.any fun e=>cp9 (ptN e)))=((b'&& !(!b1|| !b2)) && !((ns.drop (j+1)).any fun e=>cp9 (ptN e))):=by
      rw[hb'];exact dr7 _ _ _ _
     repeat'(first|refine bd3 18 (fun v=>⟨[(3,.d (.bool v)),(1,.ptr 0 0),(4,.d (.bool b')),(7,.d (.int j)),(8,.ptr 1 0)],[oPA ⟨vr,ns,es⟩,oNP x]⟩) ((a'&& !(!a0||(!a1|| !a2)))) ?_ ?_|refine yz ?_|refine yi (co0 x) hx ?_|refine qP (d:=83) rfl rfl rfl rfl rfl rfl b346 (hw0) ?_|refine qP (d:=88) rfl rfl rfl rfl rfl rfl br7 (hw1) ?_|refine yp b348 hk ?_|refine qP (d:=94) rfl rfl rfl rfl rfl rfl br7 (hw2) ?_|refine qP (d:=100) rfl rfl rfl rfl rfl rfl b349 (hr1) ?_|refine qP (d:=106) rfl rfl rfl rfl rfl rfl b349 (hr2) ?_|refine ac1 ⟨_,?_,(zle 2)⟩|refine yx ?_|(refine yy ?_ ?_<;>intro _)|(refine qV rfl ?_ ?_<;>intro _)|exact zD|exact zL)
     all_goals clear hho hfv hk hw0 hw1 hw2 hr1 hr2 ha hb ha' hb' hbad hbae h0 h1 h2 h3 h4 hfit hft hme2 hmn2 hopn hok c1 c2
     all_goals first|(refine ac1 ?_;refine⟨⟨j+1,a'&& !(!a0||(!a1|| !a2)),_,by omega,na,?nb⟩,?ms,(zle 1)⟩;(case ms=>(dsimp only;omega));(case nb=>(rw[nb];clear na nb;simp_all;done)))|(clear na nb;simp_all;done)|skip
    ·have g5:decide ((j:Int)<((ns.map co0).length:Int))=false:=by rw[hln];simp;omega
     rw[fk5 hge,fp7,fp5,Bool.and_true]at ha' hb'
     have e1:(!K||((es.any fun e=>cp8 (ptE e))||ns.any fun n=>cp8 (ptN n)))= !a':=by
      rw[←ha',←ha]
      cases K<;>cases(es.any fun e=>cp8 (ptE e))<;>cases(ns.any fun n=>cp8 (ptN n))<;>rfl
     have e2:((es.any fun e=>cp9 (ptE e))||ns.any fun n=>cp9 (ptN n))= !b':=by
      rw[←hb',←hb]
      cases(es.any fun e=>cp9 (ptE e))<;>cases(ns.any fun n=>cp9 (ptN n))<;>rfl
     rw[e1,e2];clear ha hb ha' hb' e1 e2
     cases a' with
     |false=>
      exact Ok
     |true=>
      cases b' with
      |false=>
      exact Ok
      |true=>
       exact Ok
def ds0(p:PA)(cr:Bool):Int:=
 bif cq0 (cq1 (cp6 p.ns p.es)) !=0 then cq0 (cq1 (cp6 p.ns p.es))else
 bif (cq1 (cp6 p.ns p.es)).any co7 then 9 else
 bif cr&&p.es.any fun e=> !cp4 e then 1 else 0
theorem ds1(p:PA)(cr:Bool):cq2 p cr=bif dr8 p !=0 then dr8 p else ds0 p cr:=by
 unfold cq2 dr8 ds0
 cases cp2 p
 ·cases(p.ns.length !=p.es.length+1||p.es.any fun e=> !cp3 e)
  ·cases(!(cp7 p.vr)||(cp6 p.ns p.es).any cp8)
   ·cases(cp6 p.ns p.es).any cp9<;>rfl
   ·rfl
  ·rfl
 ·rfl
structure SFi8(T:List Ex) where
 i:Nat
 hi:i≤T.length
 ok:cq0 T=cq0 (T.drop i)
structure SCr8(cr:Bool)(es:List EP) where
 i:Nat
 hi:i≤es.length
 ok:(cr&&es.any fun e=> !cp4 e)=(cr&&(es.drop i).any fun e=> !cp4 e)
theorem bool3(a b c:Bool):(a&&(b||c))=((a&&b)||(a&&c)):=by cases a<;>cases b<;>cases c<;>rfl
set_option maxHeartbeats 2000000 in
theorem ds2(p:PA)(cr:Bool)(hok:OkPA p):Ev E 273 [co2 p,.bool cr] (.d (.int (cq2 p cr))):=Ev.fit fun hfit=>by
 have hsh:=dr9 p hok;have hpr:=dr2 p hok.x hok.n;have hopn:=hok.x;have hope:=hok.e;rw[ds1];unfold ds0;generalize cq1 (cp6 p.ns p.es)=T at*;generalize dr8 p=z at*;obtain⟨vr,ns,es⟩:=p;dsimp only;have hft:=hfit (co2 ⟨vr,ns,es⟩) Oc;have hme:=(ct4 (hft.aggs (.sl (es.map co1)) Oc)).1;have hle:(es.map co1).length=es.length:=Oc
 have hlT:(T.map by1).length=T.length:=Oc
 cases c1:z !=0 with
 |true=>
  refine ye2 func273 ntmps273 fun _ _ _=>?_
  repeat'(first|refine yz ?_|refine yp b319 hsh ?_|refine yx ?_|(refine yy ?_ ?_<;>intro _)|exact zD|exact zL)
 |false=>
  rw[cond_false];refine ye2 func273 ntmps273 fun _ _ _=>?_
  repeat'(first|refine yz ?_|refine yp b319 hsh ?_|refine yp b33 hpr ?_|refine yx ?_|(refine yy ?_ ?_<;>intro _)|exact zD|exact zL)
  refine ac7 (α:=SFi8 T) (fun p=>⟨[(1,.d (.bool cr)),(2,.ptr 0 0),(6,.d (.sl (T.map by1))),(7,.d (.int p.i))],[oPA ⟨vr,ns,es⟩]⟩) (fun p=>T.length-p.i) ⟨0,by omega,rfl⟩ (zle 1) ?_;rintro⟨i,hi,ok⟩;dsimp only at ok ⊢;rcases fj8 i T.length with hlt|hge
  ·have g1:decide ((i:Int)<((T.map by1).length:Int))=true:=by rw[hlT];simpa using hlt
   have hx0:=fj7 hlt;generalize T[i]=x at hx0;have hx:=ct3 (f:=by1) hx0;have hxe:=hope x (fj9 hx0);have hce:=cn8 x hxe.1 hxe.2;rw[ct2 hx0,cq0]at ok
   cases he:cn6 x !=0 with
   |true=>
    rw[he,cond_true]at ok;rw[ok,he,cond_true]
    repeat'(first|refine yz ?_|refine yi (by1 x) hx ?_|refine yp b76 hce ?_|refine yx ?_|(refine yy ?_ ?_<;>intro _)|exact zD|exact zL)
   |false=>
    rw[he,cond_false]at ok
    repeat'(first|refine yz ?_|refine yi (by1 x) hx ?_|refine yp b76 hce ?_|refine yx ?_|(refine yy ?_ ?_<;>intro _)|exact zD|exact zL)
    refine ac1 ?_;exact⟨⟨i+1,by omega,ok⟩,by dsimp only;omega,(zle 1)⟩
  ·have g1:decide ((i:Int)<((T.map by1).length:Int))=false:=by rw[hlT];simp;omega
   rw[fk5 hge]at ok;rw[show cq0 T=0 from ok,show((0:Int) !=0)=false from rfl,cond_false]
   repeat'(first|refine yz ?_|refine yx ?_|(refine yy ?_ ?_<;>intro _)|exact zD|exact zL)
   clear ok hge hi g1;refine ac7 (α:=SNc T co7) (fun p=>⟨[(1,.d (.bool cr)),(2,.ptr 0 0),(6,.d (.sl (T.map by1))),(9,.d (.int p.i))],[oPA ⟨vr,ns,es⟩]⟩) (fun p=>T.length-p.i) ⟨0,by omega,rfl⟩ (zle 1) ?_;rintro⟨i,hi,ok⟩;dsimp only at ok ⊢;rcases fj8 i T.length with hlt|hge
   ·have g1:decide ((i:Int)<((T.map by1).length:Int))=true:=by rw[hlT];simpa using hlt
    have hx0:=fj7 hlt;generalize T[i]=x at hx0;have hx:=ct3 (f:=by1) hx0;have hha:=dq6 x;rw[dp9 hx0]at ok
    cases hb:co7 x with
    |true=>
     rw[hb]at hha ok;rw[ok,Bool.true_or,cond_true]
     repeat'(first|refine yz ?_|refine yi (by1 x) hx ?_|refine yp bp9 hha ?_|refine yx ?_|(refine yy ?_ ?_<;>intro _)|exact zD|exact zL)
    |false=>
     rw[hb]at hha ok
     repeat'(first|refine yz ?_|refine yi (by1 x) hx ?_|refine yp bp9 hha ?_|refine yx ?_|(refine yy ?_ ?_<;>intro _)|exact zD|exact zL)
     refine ac1 ?_;exact⟨⟨i+1,by omega,by rw[ok];rfl⟩,by dsimp only;omega,(zle 1)⟩
   ·have g1:decide ((i:Int)<((T.map by1).length:Int))=false:=by rw[hlT];simp;omega
    rw[fk5 hge,fp7]at ok;rw[ok,cond_false]
    repeat'(first|refine yz ?_|refine yx ?_|(refine yy ?_ ?_<;>intro _)|exact zD|exact zL)
    clear ok hge hi g1;refine ac7 (α:=SCr8 cr es) (fun p=>⟨[(1,.d (.bool cr)),(2,.ptr 0 0),(10,.d (.int p.i))],[oPA ⟨vr,ns,es⟩]⟩) (fun p=>es.length-p.i) ⟨0,by omega,rfl⟩ (zle 1) ?_;rintro⟨i,hi,ok⟩;dsimp only at ok ⊢;rcases fj8 i es.length with hlt|hge
    ·have g1:decide ((i:Int)<((es.map co1).length:Int))=true:=by rw[hle];simpa using hlt
     have hx0:=fj7 hlt;generalize es[i]=x at hx0;have hx:=ct3 (f:=co1) hx0;rw[dp9 hx0,bool3]at ok;have hcr:cp4 x=(x.mode==0&&(x.ty.length==1&&x.dir !=3)):=rfl;have hlx:(x.ty.map D.str).length=x.ty.length:=Oc
     cases hb:cr&& !cp4 x with
     |true=>
      rw[hb,Bool.true_or]at ok;rw[ok,cond_true]
      repeat'(first|refine bd3 20 (fun b=>⟨[(72,.d (.bool b))],[oPA ⟨vr,ns,es⟩]⟩) (true) ?_ ?_|refine yz ?_|refine yi (co1 x) hx ?_|refine ac1 ⟨_,?_,(zle 1)⟩|refine yx ?_|(refine yy ?_ ?_<;>intro _)|(refine qV rfl ?_ ?_<;>intro _)|exact zD|exact zL)
      all_goals(clear hsh hpr hfit hft hok hope ok;simp_all)
      all_goals omega
     |false=>
      rw[hb,fm9]at ok
      repeat'(first|refine bd3 20 (fun b=>⟨[(72,.d (.bool b)),(1,.d (.bool cr)),(2,.ptr 0 0),(10,.d (.int i))],[oPA ⟨vr,ns,es⟩]⟩) (false) ?_ ?_|refine yz ?_|refine yi (co1 x) hx ?_|refine ac1 ⟨_,?_,(zle 1)⟩|refine yx ?_|(refine yy ?_ ?_<;>intro _)|(refine qV rfl ?_ ?_<;>intro _)|exact zD|exact zL)
      all_goals first|(refine ac1 ?_;exact⟨⟨i+1,by omega,ok⟩,by dsimp only;omega,(zle 1)⟩)|(clear hsh hpr hfit hft hok hope ok;simp_all;done)|(clear hsh hpr hfit hft hok hope ok;simp_all;omega)
    ·have g1:decide ((i:Int)<((es.map co1).length:Int))=false:=by rw[hle];simp;omega
     rw[fk5 hge,fp7,Bool.and_false]at ok;rw[ok,cond_false]
     exact Ok
theorem ds3(e:Ex):Ev E 192 [by1 e] (.d (.bool (cq3 e))):=by
 obtain⟨op,v,nm,ds,ks⟩:=e;have hb:=ch0 v;have hk:=by6 (.mk op v nm ds ks);simp only[Ex.ks]at hk;obtain⟨bv,hbv⟩:∃b,cg9 v=b:=⟨_,rfl⟩;have hz:cq3 (.mk op v nm ds ks)=(op==0&&(bv&&(nm.toList==(⟨#[]⟩:ByteArray).toList&&(!ds&&ks.length==0)))):=by rw[←hbv];rfl
 rw[hbv]at hb;refine ye1 func192 ntmps192 fun _ _ _=>?_
 repeat'(first|refine yz ?_|refine yp b262 hb ?_|refine yx ?_|(refine yy ?_ ?_<;>intro _)|(refine qV rfl ?_ ?_<;>intro _)|exact zD|exact zL)
 all_goals(refine congrArg D.bool ?_;rw[hz];clear hz hb hbv;simp_all [Ex.op,Ex.nm,Ex.ds])
 all_goals(rw[fk9];simp)
 all_goals omega
theorem ds4(e:Ex):Ev E 133 [by1 e] (.d (.bool (cq3 e))):=by
 obtain⟨op,v,nm,ds,ks⟩:=e;have hb:=ch1 v;have hk:=by6 (.mk op v nm ds ks);simp only[Ex.ks]at hk;obtain⟨bv,hbv⟩:∃b,cg9 v=b:=⟨_,rfl⟩;have hz:cq3 (.mk op v nm ds ks)=(op==0&&(bv&&(nm.toList==(⟨#[]⟩:ByteArray).toList&&(!ds&&ks.length==0)))):=by rw[←hbv];rfl
 rw[hbv]at hb;refine ye1 func133 ntmps133 fun _ _ _=>?_
 repeat'(first|refine yz ?_|refine yp b206 hb ?_|refine yx ?_|(refine yy ?_ ?_<;>intro _)|(refine qV rfl ?_ ?_<;>intro _)|exact zD|exact zL)
 all_goals(refine congrArg D.bool ?_;rw[hz];clear hz hb hbv;simp_all [Ex.op,Ex.nm,Ex.ds])
 all_goals(rw[fk9];simp)
 all_goals omega
theorem ds5(n:Int):Ev E 193 [.int n] (.d (.bool (cq4 n))):=by
 refine ye1 func193 ntmps193 fun _ _ _=>?_
 repeat'(first|refine yz ?_|refine yx ?_|(refine yy ?_ ?_<;>intro _)|(refine qV rfl ?_ ?_<;>intro _)|exact zD|exact zL)
 all_goals(refine congrArg D.bool ?_;simp_all [cq4])
theorem within_ev(n lo hi:Nat):Ev E 194 [.int n,.int lo,.int hi] (.d (.bool (inN n lo hi))):=by
 refine ye3 func194 ntmps194 fun _ _ _=>?_
 repeat'(first|refine yz ?_|refine yx ?_|(refine yy ?_ ?_<;>intro _)|(refine qV rfl ?_ ?_<;>intro _)|exact zD|exact zL)
 all_goals(refine congrArg D.bool ?_;simp_all [inN]<;>omega)
theorem ds6(v:V):Ev E 106 [enc v] (.d (.bool (cg9 v))):=by
 obtain⟨k,n,d,s,l⟩:=v;have hk:=bn6 (.mk k n d s l);simp only[V.l]at hk;refine ye1 func106 ntmps106 fun _ _ _=>?_
 repeat'(first|refine yz ?_|(refine yy ?_ ?_<;>intro _))
 all_goals(refine congrArg D.bool ?_;unfold cg9;simp_all [l0,s0])
 all_goals(rw[fk9];simp)
 all_goals omega
theorem ds7(e:Ex):Ev E 56 [by1 e] (.d (.bool (cq3 e))):=by
 obtain⟨op,v,nm,ds,ks⟩:=e;have hb:=ds6 v;have hk:=by6 (.mk op v nm ds ks);simp only[Ex.ks]at hk;obtain⟨bv,hbv⟩:∃b,cg9 v=b:=⟨_,rfl⟩;have hz:cq3 (.mk op v nm ds ks)=(op==0&&(bv&&(nm.toList==(⟨#[]⟩:ByteArray).toList&&(!ds&&ks.length==0)))):=by rw[←hbv];rfl
 rw[hbv]at hb;refine ye1 func56 ntmps56 fun _ _ _=>?_
 repeat'(first|refine yz ?_|refine yp b106 hb ?_|(refine yy ?_ ?_<;>intro _))
 all_goals(refine congrArg D.bool ?_;rw[hz];clear hz hb hbv;simp_all [Ex.op,Ex.nm,Ex.ds])
 all_goals(rw[fk9];simp)
 all_goals omega
def ds8(c:CL):Nat:=c.ps.length+c.wh.length+c.it.length+c.od.length+c.st.length+c.ns.length
theorem ds9(c:CL):dm1 c=(c.k==0&&(!c.opt&&(!c.ds&&(ds8 c==0&&(cq3 c.e&&(s0B c.nm&&(c.sk==0&&c.lm==0))))))):=by
 rw[fk9];unfold dm1 ds8;simp only[fl5,beq_iff_eq,Bool.not_eq_true'];constructor
 ·rintro⟨h1,h2,h3,h4,h5,h6,h7,h8,h9,h10,h11,h12,h13⟩;exact⟨h1,h2,h3,by omega,h6,h7,h10,h11⟩
 ·rintro⟨h1,h2,h3,h4,h5,h6,h7,h8⟩;exact⟨h1,h2,h3,by omega,by omega,h5,h6,by omega,by omega,h7,h8,by omega,by omega⟩
set_option maxHeartbeats 2000000 in
theorem dt0(c:CL)(hl:ds8 c≤1000000000000):Ev E 55 [co6 c] (.d (.bool (dm1 c))):=by
 have hb:=ds7 c.e;rw[ds9];unfold ds8 at*;obtain⟨k,opt,ds,ps,wh,e,nm,it,od,sk,lm,st,ns⟩:=c;simp only at hl hb ⊢;have l1:(ps.map co2).length=ps.length:=Oc
 have l2:(by0 wh).length=wh.length:=by7 wh;have l3:(it.map co3).length=it.length:=Oc
 have l4:(od.map co4).length=od.length:=Oc
 have l5:(st.map co5).length=st.length:=Oc
 have l6:(ns.map D.str).length=ns.length:=Oc
 obtain⟨ze,hze⟩:∃b,cq3 e=b:=⟨_,rfl⟩;rw[hze]at hb ⊢
 have hsum:(((ps.map co2).length:Int)+((by0 wh).length:Int)+((it.map co3).length:Int)+((od.map co4).length:Int)+((st.map co5).length:Int)+((ns.map D.str).length:Int)==0)=(ps.length+wh.length+it.length+od.length+st.length+ns.length==0):=by
  rw[fk9,beq_iff_eq,beq_iff_eq];omega
 obtain⟨zs,hzs⟩:∃b,(ps.length+wh.length+it.length+od.length+st.length+ns.length==0)=b:=⟨_,rfl⟩;have hs0:(nm.toList==(⟨#[]⟩:ByteArray).toList)=s0B nm:=rfl;rw[hzs]at hsum ⊢;show Ev E 55 [.agg [.int k,.bool opt,.bool ds,.sl (ps.map co2),.sl (by0 wh),.int e.op,.int e.v.k,.int e.v.n,.int e.v.d,.str e.v.s,.sl (bn1 e.v),.str e.nm,.bool e.ds,.sl (bx9 e),.str nm,.sl (it.map co3),.sl (od.map co4),.int sk,.int lm,.sl (st.map co5),.sl (ns.map .str)]] _
 cases c1:k==0 with
 |false=>
  refine ye1 func55 ntmps55 fun _ _ _=>?_
  exact Ok
 |true=>
 cases opt with
 |true=>
  refine ye1 func55 ntmps55 fun _ _ _=>?_
  exact Ok
 |false=>
 cases ds with
 |true=>
  refine ye1 func55 ntmps55 fun _ _ _=>?_
  exact Ok
 |false=>
 cases zs with
 |false=>
  refine ye1 func55 ntmps55 fun _ _ _=>?_
  exact Ok
 |true=>
 cases ze with
 |false=>
  refine ye1 func55 ntmps55 fun _ _ _=>?_
  repeat'(first|refine yz ?_|refine yp b56 hb ?_|refine yx ?_|exact zD)
 |true=>
 cases c2:s0B nm with
 |false=>
  have g2:(nm.toList==(⟨#[]⟩:ByteArray).toList)=false:=c2;refine ye1 func55 ntmps55 fun _ _ _=>?_
  repeat'(first|refine yz ?_|refine yp b56 hb ?_|refine yx ?_|exact zD)
 |true=>
 have g2:(nm.toList==(⟨#[]⟩:ByteArray).toList)=true:=c2
 cases c3:sk==0 with
 |false=>
  refine ye1 func55 ntmps55 fun _ _ _=>?_
  repeat'(first|refine yz ?_|refine yp b56 hb ?_|refine yx ?_|exact zD)
 |true=>
  refine ye1 func55 ntmps55 fun _ _ _=>?_
  repeat'(first|refine yz ?_|refine yp b56 hb ?_|refine yx ?_|exact zD)
abbrev shP(k:Int)(a b c d e f g:Bool):D:=.agg [.int k,.bool a,.bool b,.bool c,.bool d,.bool e,.bool f,.bool g]
def dt1(op:Int):D × Bool:=
 bif op==1 then(shP 0 false false false false false false false,true)else
 bif op==2 then(shP 0 true false false false false false false,true)else
 bif op==3||op==4 then(shP 2 false false false false false false false,true)else
 bif op==5 then(shP 1 false true false false false false false,true)else
 bif op==6 then(shP 1 false false true false false false false,true)else
 bif op==7||op==8 then(shP 1 false false false false true false false,true)else
 bif op==9 then(shP 1 false false false false false false false,true)else
 bif op==10 then(shP 1 false false false false false true false,true)else
 bif op==11 then(shP 1 false false true true false false false,true)else(shP 0 false false false false false false false,false)
theorem dt2(op:Int):op=1∨op=2∨op=3∨op=4∨op=5∨op=6∨op=7∨op=8∨op=9∨op=10∨op=11∨
  ((op==1)=false∧(op==2)=false∧(op==3)=false∧(op==4)=false∧(op==5)=false∧(op==6)=false∧(op==7)=false∧(op==8)=false∧(op==9)=false∧(op==10)=false∧(op==11)=false):=by
 simp only[beq_eq_false_iff_ne];omega
theorem dt3(op:Int):Ev E 54 [.int op] (.tup [(dt1 op).1,.bool (dt1 op).2]):=by
 unfold dt1;rcases dt2 op with rfl|rfl|rfl|rfl|rfl|rfl|rfl|rfl|rfl|rfl|rfl|⟨h1,h2,h3,h4,h5,h6,h7,h8,h9,h10,h11⟩
 all_goals(try rw[h1,h2,h3,h4,h5,h6,h7,h8,h9,h10,h11])
 all_goals
  refine ye1 func54 ntmps54 fun _ _ _=>?_
  exact Ok
def FMp(op:Int)(b0 b1 b2 b3 b4 b5 b6 b7 b8 b9 b10 b11:Bool):Bool:=
 !b0&&(((op==2|| !b1) &&((bif op==5 then b9 else b2) &&((op==6||(op==11||b3)) &&((op==11|| !b4) &&(op==7||(op==8|| !b5)))))) &&(bif op==10 then b10&&b11 else b6&&(b7&&b8)))
theorem dt4(b:PB)(n:Nat):dm2 b n=FMp b.op ((n:Int) !=dm0 b.op) (decide (((b.cj.vs.map D.str).length:Int)+((b.cj.as.map cc6).length:Int)>0)) (dm1 b.cl) (cq3 b.e) (!(s0B b.nm)) (decide (((b.it.map co3).length:Int)>0)) (((b.od.map co4).length:Int)==0) (b.sk==0) (b.lm==0) (b.cl.k==1) (decide (b.sk≥ -1)) (decide (b.lm≥ -1)):=by
 have e0:(dm0 b.op==(n:Int))= !((n:Int) !=dm0 b.op):=by rw[fk9];simp;exact⟨fun h=>h.symm,fun h=>h.symm⟩
 have e1:(b.cj.vs.length==0&&b.cj.as.length==0)= !(decide (((b.cj.vs.map D.str).length:Int)+((b.cj.as.map cc6).length:Int)>0)):=by
  rw[fk9];simp only[fk3,fl5,beq_iff_eq,Bool.not_eq_true',decide_eq_false_iff_not];omega
 have e2:(b.it.length==0)= !(decide (((b.it.map co3).length:Int)>0)):=by
  rw[fk9];simp only[fk3,beq_iff_eq,Bool.not_eq_true',decide_eq_false_iff_not];omega
 have e3:(b.od.length==0)=(((b.od.map co4).length:Int)==0):=by
  rw[fk9];simp only[fk3,beq_iff_eq];omega
 unfold dm2 fldF endF FMp;rw[e0,e1,e2,e3,Bool.not_not]
set_option maxHeartbeats 8000000 in
theorem dt5(b:PB)(K:List D)(hK:K.length≤1000000000000)(h1:b.cj.vs.length+b.cj.as.length≤1000000000000)(h2:ds8 b.cl≤1000000000000):Ev E 36 [dl5 b K] (.d (.bool (dm2 b K.length))):=by
 have hs:=dt3 b.op;have hb:=ds7 b.e;have hc:=dt0 b.cl h2;rw[dt4];obtain⟨op,cj,cl,e,nm,it,od,sk,lm⟩:=b;obtain⟨vs,as28⟩:=cj;obtain⟨ck,copt,cds,cps,cwh,ce,cnm,cit,cod,csk,clm,cst,cns⟩:=cl;simp only at hs hb hc h1 ⊢;have hlv:(vs.map D.str).length=vs.length:=Oc
 have hla:(as28.map cc6).length=as28.length:=Oc
 have g4:(!(nm.toList==(⟨#[]⟩:ByteArray).toList))= !(s0B nm):=rfl;generalize cq3 e=ze at*;generalize dm1 _=zc at*;generalize s0B nm=zn at*
 show Ev E 36 [.agg [.int op,.sl K,.sl (vs.map D.str),.sl (as28.map cc6),.int ck,.bool copt,.bool cds,.sl (cps.map co2),.sl (by0 cwh),.int ce.op,.int ce.v.k,.int ce.v.n,.int ce.v.d,.str ce.v.s,.sl (bn1 ce.v),.str ce.nm,.bool ce.ds,.sl (bx9 ce),.str cnm,.sl (cit.map co3),.sl (cod.map co4),.int csk,.int clm,.sl (cst.map co5),.sl (cns.map .str),
  .int e.op,.int e.v.k,.int e.v.n,.int e.v.d,.str e.v.s,.sl (bn1 e.v),.str e.nm,.bool e.ds,.sl (bx9 e),.str nm,.sl (it.map co3),.sl (od.map co4),.int sk,.int lm]] _
 generalize vs.map D.str=LV at*;generalize as28.map cc6=LA at*;generalize it.map co3=LI at*;generalize od.map co4=LO at*;rcases dt2 op with rfl|rfl|rfl|rfl|rfl|rfl|rfl|rfl|rfl|rfl|rfl|⟨q1,q2,q3,q4,q5,q6,q7,q8,q9,q10,q11⟩
 rotate_right
 ·have hk:dm0 op= -1:=by
   have:(decide (op≥5) &&decide (op≤11))=false:=by
    rw[Bool.and_eq_false_iff,decide_eq_false_iff_not,decide_eq_false_iff_not];simp only[beq_eq_false_iff_ne]at*;omega
   unfold dm0;rw[q1,q2,q3,q4,this];rfl
  have hn:((K.length:Int) !=dm0 op)=true:=by rw[hk,bne_iff_ne];omega
  have hf:(dt1 op).2=false:=by unfold dt1;rw[q1,q2,q3,q4,q5,q6,q7,q8,q9,q10,q11];rfl
  have hf1:(dt1 op).1=shP 0 false false false false false false false:=by unfold dt1;rw[q1,q2,q3,q4,q5,q6,q7,q8,q9,q10,q11];rfl
  rw[hf,hf1]at hs;rw[hn];show Ev E 36 _ (.d (.bool false));refine ye1 func36 ntmps36 fun _ _ _=>?_
  repeat'(first|refine yz ?_|refine yp b54 hs ?_|exact zD)
 ·have hs:Ev E 54 [.int 1] (.tup [shP 0 false false false false false false false,.bool true]):=hs;generalize hb0:((K.length:Int) !=dm0 1)=b0;generalize hb1:decide ((LV.length:Int)+(LA.length:Int)>0)=b1;generalize hb5:decide ((LI.length:Int)>0)=b5;generalize hb6:((LO.length:Int)==0)=b6;generalize hb7:(sk==0)=b7;generalize hb8:(lm==0)=b8;generalize hb9:(ck==1)=b9;generalize hb10:decide (sk≥ -1)=b10;generalize hb11:decide (lm≥ -1)=b11;have hb0:((K.length:Int) !=0)=b0:=hb0;refine ye1 func36 ntmps36 fun _ _ _=>?_
  repeat'(first|refine yz ?_|refine yp b54 hs ?_|refine yp b56 hb ?_|refine yp b55 hc ?_|(refine yy ?_ ?_<;>intro _)|(refine qV rfl ?_ ?_<;>intro _))
  all_goals(refine congrArg D.bool ?_;clear hs hb hc;subst hb7 hb8 hb9 hb10 hb11;simp_all [FMp]<;>omega)
 ·have hs:Ev E 54 [.int 2] (.tup [shP 0 true false false false false false false,.bool true]):=hs;generalize hb0:((K.length:Int) !=dm0 2)=b0;generalize hb1:decide ((LV.length:Int)+(LA.length:Int)>0)=b1;generalize hb5:decide ((LI.length:Int)>0)=b5;generalize hb6:((LO.length:Int)==0)=b6;generalize hb7:(sk==0)=b7;generalize hb8:(lm==0)=b8;generalize hb9:(ck==1)=b9;generalize hb10:decide (sk≥ -1)=b10;generalize hb11:decide (lm≥ -1)=b11;have hb0:((K.length:Int) !=0)=b0:=hb0;refine ye1 func36 ntmps36 fun _ _ _=>?_
  repeat'(first|refine yz ?_|refine yp b54 hs ?_|refine yp b56 hb ?_|refine yp b55 hc ?_|(refine yy ?_ ?_<;>intro _)|(refine qV rfl ?_ ?_<;>intro _))
  all_goals(refine congrArg D.bool ?_;clear hs hb hc;subst hb7 hb8 hb9 hb10 hb11;simp_all [FMp]<;>omega)
 ·have hs:Ev E 54 [.int 3] (.tup [shP 2 false false false false false false false,.bool true]):=hs;generalize hb0:((K.length:Int) !=dm0 3)=b0;generalize hb1:decide ((LV.length:Int)+(LA.length:Int)>0)=b1;generalize hb5:decide ((LI.length:Int)>0)=b5;generalize hb6:((LO.length:Int)==0)=b6;generalize hb7:(sk==0)=b7;generalize hb8:(lm==0)=b8;generalize hb9:(ck==1)=b9;generalize hb10:decide (sk≥ -1)=b10;generalize hb11:decide (lm≥ -1)=b11;have hb0:((K.length:Int) !=2)=b0:=hb0;refine ye1 func36 ntmps36 fun _ _ _=>?_
  repeat'(first|refine yz ?_|refine yp b54 hs ?_|refine yp b56 hb ?_|refine yp b55 hc ?_|(refine yy ?_ ?_<;>intro _)|(refine qV rfl ?_ ?_<;>intro _))
  all_goals(refine congrArg D.bool ?_;clear hs hb hc;subst hb7 hb8 hb9 hb10 hb11;simp_all [FMp]<;>omega)
 ·have hs:Ev E 54 [.int 4] (.tup [shP 2 false false false false false false false,.bool true]):=hs;generalize hb0:((K.length:Int) !=dm0 4)=b0;generalize hb1:decide ((LV.length:Int)+(LA.length:Int)>0)=b1;generalize hb5:decide ((LI.length:Int)>0)=b5;generalize hb6:((LO.length:Int)==0)=b6;generalize hb7:(sk==0)=b7;generalize hb8:(lm==0)=b8;generalize hb9:(ck==1)=b9;generalize hb10:decide (sk≥ -1)=b10;generalize hb11:decide (lm≥ -1)=b11;have hb0:((K.length:Int) !=2)=b0:=hb0;refine ye1 func36 ntmps36 fun _ _ _=>?_
  repeat'(first|refine yz ?_|refine yp b54 hs ?_|refine yp b56 hb ?_|refine yp b55 hc ?_|(refine yy ?_ ?_<;>intro _)|(refine qV rfl ?_ ?_<;>intro _))
  all_goals(refine congrArg D.bool ?_;clear hs hb hc;subst hb7 hb8 hb9 hb10 hb11;simp_all [FMp]<;>omega)
 ·have hs:Ev E 54 [.int 5] (.tup [shP 1 false true false false false false false,.bool true]):=hs;generalize hb0:((K.length:Int) !=dm0 5)=b0;generalize hb1:decide ((LV.length:Int)+(LA.length:Int)>0)=b1;generalize hb5:decide ((LI.length:Int)>0)=b5;generalize hb6:((LO.length:Int)==0)=b6;generalize hb7:(sk==0)=b7;generalize hb8:(lm==0)=b8;generalize hb9:(ck==1)=b9;generalize hb10:decide (sk≥ -1)=b10;generalize hb11:decide (lm≥ -1)=b11;have hb0:((K.length:Int) !=1)=b0:=hb0;refine ye1 func36 ntmps36 fun _ _ _=>?_
  repeat'(first|refine yz ?_|refine yp b54 hs ?_|refine yp b56 hb ?_|(refine yy ?_ ?_<;>intro _)|(refine qV rfl ?_ ?_<;>intro _))
  all_goals(refine congrArg D.bool ?_;clear hs hb hc;subst hb7 hb8 hb9 hb10 hb11;simp_all [FMp]<;>omega)
 ·have hs:Ev E 54 [.int 6] (.tup [shP 1 false false true false false false false,.bool true]):=hs;generalize hb0:((K.length:Int) !=dm0 6)=b0;generalize hb1:decide ((LV.length:Int)+(LA.length:Int)>0)=b1;generalize hb5:decide ((LI.length:Int)>0)=b5;generalize hb6:((LO.length:Int)==0)=b6;generalize hb7:(sk==0)=b7;generalize hb8:(lm==0)=b8;generalize hb9:(ck==1)=b9;generalize hb10:decide (sk≥ -1)=b10;generalize hb11:decide (lm≥ -1)=b11;have hb0:((K.length:Int) !=1)=b0:=hb0;refine ye1 func36 ntmps36 fun _ _ _=>?_
  repeat'(first|refine yz ?_|refine yp b54 hs ?_|refine yp b55 hc ?_|(refine yy ?_ ?_<;>intro _)|(refine qV rfl ?_ ?_<;>intro _))
  all_goals(refine congrArg D.bool ?_;clear hs hb hc;subst hb7 hb8 hb9 hb10 hb11;simp_all [FMp]<;>omega)
 ·have hs:Ev E 54 [.int 7] (.tup [shP 1 false false false false true false false,.bool true]):=hs;generalize hb0:((K.length:Int) !=dm0 7)=b0;generalize hb1:decide ((LV.length:Int)+(LA.length:Int)>0)=b1;generalize hb5:decide ((LI.length:Int)>0)=b5;generalize hb6:((LO.length:Int)==0)=b6;generalize hb7:(sk==0)=b7;generalize hb8:(lm==0)=b8;generalize hb9:(ck==1)=b9;generalize hb10:decide (sk≥ -1)=b10;generalize hb11:decide (lm≥ -1)=b11;have hb0:((K.length:Int) !=1)=b0:=hb0;refine ye1 func36 ntmps36 fun _ _ _=>?_
  repeat'(first|refine yz ?_|refine yp b54 hs ?_|refine yp b56 hb ?_|refine yp b55 hc ?_|(refine yy ?_ ?_<;>intro _)|(refine qV rfl ?_ ?_<;>intro _))
  all_goals(refine congrArg D.bool ?_;clear hs hb hc;subst hb7 hb8 hb9 hb10 hb11;simp_all [FMp]<;>omega)
 ·have hs:Ev E 54 [.int 8] (.tup [shP 1 false false false false true false false,.bool true]):=hs;generalize hb0:((K.length:Int) !=dm0 8)=b0;generalize hb1:decide ((LV.length:Int)+(LA.length:Int)>0)=b1;generalize hb5:decide ((LI.length:Int)>0)=b5;generalize hb6:((LO.length:Int)==0)=b6;generalize hb7:(sk==0)=b7;generalize hb8:(lm==0)=b8;generalize hb9:(ck==1)=b9;generalize hb10:decide (sk≥ -1)=b10;generalize hb11:decide (lm≥ -1)=b11;have hb0:((K.length:Int) !=1)=b0:=hb0;refine ye1 func36 ntmps36 fun _ _ _=>?_
  repeat'(first|refine yz ?_|refine yp b54 hs ?_|refine yp b56 hb ?_|refine yp b55 hc ?_|(refine yy ?_ ?_<;>intro _)|(refine qV rfl ?_ ?_<;>intro _))
  all_goals(refine congrArg D.bool ?_;clear hs hb hc;subst hb7 hb8 hb9 hb10 hb11;simp_all [FMp]<;>omega)
 ·have hs:Ev E 54 [.int 9] (.tup [shP 1 false false false false false false false,.bool true]):=hs;generalize hb0:((K.length:Int) !=dm0 9)=b0;generalize hb1:decide ((LV.length:Int)+(LA.length:Int)>0)=b1;generalize hb5:decide ((LI.length:Int)>0)=b5;generalize hb6:((LO.length:Int)==0)=b6;generalize hb7:(sk==0)=b7;generalize hb8:(lm==0)=b8;generalize hb9:(ck==1)=b9;generalize hb10:decide (sk≥ -1)=b10;generalize hb11:decide (lm≥ -1)=b11;have hb0:((K.length:Int) !=1)=b0:=hb0;refine ye1 func36 ntmps36 fun _ _ _=>?_
  repeat'(first|refine yz ?_|refine yp b54 hs ?_|refine yp b56 hb ?_|refine yp b55 hc ?_|(refine yy ?_ ?_<;>intro _)|(refine qV rfl ?_ ?_<;>intro _))
  all_goals(refine congrArg D.bool ?_;clear hs hb hc;subst hb7 hb8 hb9 hb10 hb11;simp_all [FMp]<;>omega)
 ·have hs:Ev E 54 [.int 10] (.tup [shP 1 false false false false false true false,.bool true]):=hs;generalize hb0:((K.length:Int) !=dm0 10)=b0;generalize hb1:decide ((LV.length:Int)+(LA.length:Int)>0)=b1;generalize hb5:decide ((LI.length:Int)>0)=b5;generalize hb6:((LO.length:Int)==0)=b6;generalize hb7:(sk==0)=b7;generalize hb8:(lm==0)=b8;generalize hb9:(ck==1)=b9;generalize hb10:decide (sk≥ -1)=b10;generalize hb11:decide (lm≥ -1)=b11;have hb0:((K.length:Int) !=1)=b0:=hb0;refine ye1 func36 ntmps36 fun _ _ _=>?_
  repeat'(first|refine yz ?_|refine yp b54 hs ?_|refine yp b56 hb ?_|refine yp b55 hc ?_|(refine yy ?_ ?_<;>intro _)|(refine qV rfl ?_ ?_<;>intro _))
  all_goals(refine congrArg D.bool ?_;clear hs hb hc;subst hb7 hb8 hb9 hb10 hb11;simp_all [FMp]<;>omega)
 ·have hs:Ev E 54 [.int 11] (.tup [shP 1 false false true true false false false,.bool true]):=hs;generalize hb0:((K.length:Int) !=dm0 11)=b0;generalize hb1:decide ((LV.length:Int)+(LA.length:Int)>0)=b1;generalize hb5:decide ((LI.length:Int)>0)=b5;generalize hb6:((LO.length:Int)==0)=b6;generalize hb7:(sk==0)=b7;generalize hb8:(lm==0)=b8;generalize hb9:(ck==1)=b9;generalize hb10:decide (sk≥ -1)=b10;generalize hb11:decide (lm≥ -1)=b11;have hb0:((K.length:Int) !=1)=b0:=hb0;refine ye1 func36 ntmps36 fun _ _ _=>?_
  repeat'(first|refine yz ?_|refine yp b54 hs ?_|refine yp b55 hc ?_|(refine yy ?_ ?_<;>intro _)|(refine qV rfl ?_ ?_<;>intro _))
  all_goals(refine congrArg D.bool ?_;clear hs hb hc;subst hb7 hb8 hb9 hb10 hb11;simp_all [FMp]<;>omega)
end Go.Proofs.YtndgolmgaenlfaaGreatDoor
namespace Go.Proofs.YtndgolmgaenlfaaGreatDoor
set_option maxRecDepth 4000
open Go Go.Abs Go.Val Go.RowKit Go.Shelf Go.Proofs.Tryz
def dt6(s:ByteArray):Ex:=.mk 2 bo3 s false []
theorem dt7(s:ByteArray):dp (dt6 s)=1:=by rw[dt6,ci7];rfl
theorem dt8(s:ByteArray):nd (dt6 s)=1:=by rw[dt6,ci2];rfl
theorem dt9(s:ByteArray):(cn6 (dt6 s)==0)=cm2 s:=by
 have h1:cn6 (dt6 s)=cm8 (dt6 s) false:=by
  unfold cn6;rw[show decide (dp (dt6 s)>24)=false by rw[decide_eq_false_iff_not];have:=dt7 s;omega,show decide (nd (dt6 s)>300)=false by rw[decide_eq_false_iff_not];have:=dt8 s;omega];rfl
 have h2:cm7 (dt6 s) false=bif !(cm2 s)then 6 else 0:=by
  unfold cm7
  rw[show((decide ((dt6 s).op<1)||decide ((dt6 s).op>24))||(!ch2 (dt6 s)|| !ch8 (dt6 s)))=false by
   show((false||false)||(!(kn0 (dt6 s)==0)|| !((false||cg9 bo3) &&((ch6 2||isS s ⟨#[]⟩) &&(false|| !false)))))=false;rw[show(kn0 (dt6 s)==0)=true from rfl,show cg9 bo3=true from by decide+kernel,show ch6 2=true from rfl];rfl]
  rfl
 rw[h1];show(cm8 (.mk 2 bo3 s false []) false==0)=_;rw[cm8];show((bif cm7 (dt6 s) false !=0 then cm7 (dt6 s) false else cm9 [] _)==0)=_;rw[h2]
 cases cm2 s<;>rfl
def du0(r:Nat):Bool:=decide (r<48)||decide (r>57)
theorem du1{p:Nat→Bool}(hp:∀r,128≤r→p r=true)(s:ByteArray):∀(f pos:Nat),s.size≤pos+f→(decide (Lib.idxFuncFrom p true s f pos<0))=(s.data.toList.drop pos).all fun b=> !(p b.toNat)
 |0,pos,h=>by
  have hlen:s.data.toList.length=s.size:=Oc
  have:s.data.toList.drop pos=[]:=fk5 Oa;rw[this];simp[Lib.idxFuncFrom]
 |f+1,pos,h=>by
  have hlen:s.data.toList.length=s.size:=Oc
  unfold Lib.idxFuncFrom
  by_cases hps:pos<s.size
  ·rw[if_pos hps];have hx:=fj7 (show pos<s.data.toList.length by omega);generalize s.data.toList[pos]=b at hx;rw[bu4 hx,fn8];obtain⟨d1,d2⟩:=bw9 s pos b (bx0 hx)
   by_cases hb:b.toNat<128
   ·rw[d1 hb];simp only[]
    cases hbad:p b.toNat with
    |true=>rw[if_pos rfl];simp
    |false=>rw[if_neg Oc,du1 hp s f (pos+1) Oa];simp
   ·have h128:=d2 Oa;have hbad:p (Utf8.decode s pos).1=true:=hp _ h128;rw[hbad,if_pos rfl,hp b.toNat Oa];simp
  ·rw[if_neg hps];have:s.data.toList.drop pos=[]:=fk5 Oa;rw[this];simp
theorem du2(w:World):PredAt Tryz.prog 115 #[] encR du0 w:=fun W r _=>by
 unfold FnGives
 by_cases h1:r<48<;>by_cases h2:r>57
 all_goals
  have z1:(r:Int)<48↔r<48:=Oa
  have z2:(57:Int)<(r:Int)↔r>57:=Oa
  go_enter func115,ntmps115
  go_wp2
  all_goals first|(exfalso;omega)|(go_ret;exact⟨by simp[du0,h1,h2],0,rfl⟩)
theorem du3(s:ByteArray):Ev E 114 [.str s,.imm (.func (.func 115) #[] #[])] (.d (.bool (!(s.data.toList.all fun b=> !(du0 b.toNat))))):=by
 refine bw4 rfl fun w F _ _ _=>?_
 refine(Tryz.strings_ContainsFunc 115 #[] (enters_of func115 Ob rfl) du0 s w (du2 w)).mono ?_;rintro e w' ⟨rfl,hb⟩;refine⟨?_,hb⟩;have h:=du1 (p:=du0) (fun r hr=>by unfold du0;simp;omega) s s.size 0 Oa;rw[fr8]at h;rw[←h];congr 2;unfold Lib.idxFunc;rw[fk9];simp
attribute [local irreducible] go SGo an1 Ev au8 EvO EvS RGo
theorem du4(s:ByteArray):Ev E 58 [.str s] (.d (.bool (cm2 s))):=by
 have h:=cn7 (dt6 s) (by rw[dt7];decide) (by rw[dt8];decide);have hc:=dt9 s;generalize cn6 (dt6 s)=z at*;rw[←hc];refine ye1 func58 ntmps58 fun _ _ _=>?_
 repeat'(first|refine yz ?_|refine yp b61 h ?_|exact zD)
theorem du5(s:ByteArray):Ev E 59 [.str s] (.d (.bool (dm3 s))):=by
 have hsz:s.data.toList.length=s.size:=Oc
 unfold dm3
 match hs:s.data.toList with
 |[]=>
  rw[hs]at hsz;have g1:decide ((s.size:Int)<2)=true:=by simp only[fk4]at hsz;simp;omega
  refine ye1 func59 ntmps59 fun _ _ _=>?_
  exact Ok
 |[_]=>
  rw[hs]at hsz;have g1:decide ((s.size:Int)<2)=true:=by simp only[fk0,fk4]at hsz;simp;omega
  refine ye1 func59 ntmps59 fun _ _ _=>?_
  exact Ok
 |a::b::r=>
  rw[hs]at hsz;simp only[fk0]at hsz;have g1:decide ((s.size:Int)<2)=false:=Og
  have hb0:ag0 s (0:Int).toNat=(a.toNat:Int):=by unfold ag0;rw[hs];rfl
  have hb1:ag0 s (1:Int).toNat=(b.toNat:Int):=by unfold ag0;rw[hs];rfl
  have ha:(ag0 s (0:Int).toNat !=95)= !(a==95):=by
   rw[hb0,fk9,bne_iff_ne,Bool.not_eq_true',beq_eq_false_iff_ne];exact⟨fun h e=>h (by rw[e];rfl),fun h e=>h (UInt8.toNat_inj.1 (by simpa using(by omega:a.toNat=95)))⟩
  have hb:(ag0 s (1:Int).toNat==48)=(b==48):=by
   rw[hb1,fk9,beq_iff_eq,beq_iff_eq];exact⟨fun h=>UInt8.toNat_inj.1 (by simpa using(by omega:b.toNat=48)),fun e=>by rw[e];rfl⟩
  have hx:(s.extract (1:Int).toNat s.size).data.toList=b::r:=by
   have:(s.extract (1:Int).toNat s.size).data.toList=s.data.toList.drop 1:=by
    simp;exact fl4 Oc
   rw[this,hs];rfl
  have hR:=du3 (s.extract (1:Int).toNat s.size);rw[hx]at hR
  have hall:((b::r).all fun c=> !(du0 c.toNat))=(b::r).all fun c=>decide (48≤c) &&decide (c≤57):=by
   congr 1
   funext c
   unfold du0;rw[fk9];simp only[Bool.not_eq_true',fn9,decide_eq_false_iff_not,fl5,decide_eq_true_eq,UInt8.le_iff_toNat_le];show _↔48≤c.toNat∧c.toNat≤57;omega
  rw[hall]at hR;show Ev E 59 [.str s] (.d (.bool (a==95&&(b !=48&&(b::r).all fun c=>decide (48≤c) &&decide (c≤57)))));generalize((b::r).all fun c=>decide (48≤c) &&decide (c≤57))=al at*;have hbn:(b !=48)= !(b==48):=rfl;rw[hbn]
  cases c1:a==95 with
  |false=>
   rw[c1]at ha;refine ye1 func59 ntmps59 fun _ _ _=>?_
   exact Ok
  |true=>
   rw[c1]at ha
   cases c2:b==48 with
   |true=>
    rw[c2]at hb;refine ye1 func59 ntmps59 fun _ _ _=>?_
    exact Ok
   |false=>
    rw[c2]at hb;rw[fn0,fp5,fn0,←Bool.not_not al];refine ye1 func59 ntmps59 fun _ _ _=>?_
    repeat'(first|refine yz ?_|refine yp b114 hR ?_|(refine qS rfl ⟨⟨by omega,by omega⟩,trivial⟩ ?_)|refine yx ?_|exact zD)
end Go.Proofs.YtndgolmgaenlfaaGreatDoor
namespace Go.Proofs.YtndgolmgaenlfaaGreatDoor
set_option maxRecDepth 4000
open Go Go.Abs Go.Val Go.Proofs.Tryz
attribute [local irreducible] go SGo an1 Ev au8 EvO EvS PGo RGo de0
set_option maxHeartbeats 2000000 in
theorem du6(c:CJ):Ev E 134 [cc7 c] (.d (.int (dk6 c))):=Ev.fit fun hfit=>by
 obtain⟨vs,ats⟩:=c;have hft:=hfit (cc7 ⟨vs,ats⟩) Oc;obtain⟨hmv,-⟩:=bx5 (hft.aggs (.sl (vs.map .str)) Oc);obtain⟨hma,-⟩:=bx5 (hft.aggs (.sl (ats.map cc6)) Oc);have hlv:(vs.map D.str).length=vs.length:=Oc
 have hla:(ats.map cc6).length=ats.length:=Oc
 unfold dk6;dsimp only
 cases hbig:decide (vs.length>24)||decide (ats.length>12)with
 |true=>
  have hb1:(decide (((vs.map D.str).length:Int)>24)=true)∨(decide (((vs.map D.str).length:Int)>24)=false∧decide (((ats.map cc6).length:Int)>12)=true):=by
   rw[hlv,hla];simp at hbig ⊢;omega
  rcases hb1 with g1|⟨g1,g2⟩
  ·refine ye1 func134 ntmps134 fun _ _ _=>?_
   exact Ok
  ·refine ye1 func134 ntmps134 fun _ _ _=>?_
   exact Ok
 |false=>
  rw[fn9]at hbig;have g1:decide (((vs.map D.str).length:Int)>24)=false:=by rw[hlv];have:=hbig.1;simp at this ⊢;omega
  have g2:decide (((ats.map cc6).length:Int)>12)=false:=by rw[hla];have:=hbig.2;simp at this ⊢;omega
  simp only[cond_false];refine ye1 func134 ntmps134 fun _ _ _=>?_
  repeat'(first|refine yz ?_|refine yx ?_)
  refine ac7 (α:=SNo ats (dk2 vs.length)) (fun p=>⟨[(1,.ptr 0 0),(3,.d (.int p.i))],[oCJ ⟨vs,ats⟩]⟩) (fun p=>ats.length-p.i) ⟨0,by omega,rfl⟩ (zle 1) ?_;rintro⟨i,hi,ok⟩;dsimp only at ok ⊢;rcases fj8 i ats.length with hlt|hge
  ·have g3:decide ((i:Int)<((ats.map cc6).length:Int))=true:=by rw[hla];simpa using hlt
   have hx0:=fj7 hlt;generalize ats[i]=a at hx0;have hx:=bx4 (f:=cc6) hx0;have hf:=dh5 a;have hr:=dh8 a ((vs.map D.str).length:Int);rw[show dh6 a.vs ((vs.map D.str).length:Int)=dh6 a.vs vs.length by rw[hlv]]at hr;have hfs:=dk4 vs.length a;rw[dj2 hx0,←hfs]at ok
   cases c1:dh4 a with
   |false=>
    rw[c1]at hf ok;rw[ok]
    repeat'(first|refine yz ?_|refine yi (cc6 a) hx ?_|refine yp b207 hf ?_|exact zD)
   |true=>
    rw[c1]at hf
    cases c2:dh6 a.vs vs.length with
    |false=>
     rw[c2]at hr ok;rw[c1]at ok;rw[ok]
     repeat'(first|refine yz ?_|refine yi (cc6 a) hx ?_|refine yp b207 hf ?_|refine yp b208 hr ?_|exact zD)
    |true=>
     rw[c2]at hr;rw[c1,c2]at ok
     repeat'(first|refine yz ?_|refine yi (cc6 a) hx ?_|refine yp b207 hf ?_|refine yp b208 hr ?_)
     refine ac1 ?_;exact⟨⟨i+1,by omega,by rw[ok];rfl⟩,by dsimp only;omega,(zle 1)⟩
  ·have g3:decide ((i:Int)<((ats.map cc6).length:Int))=false:=by rw[hla];simp;omega
   rw[ok,fk5 hge,fp7];have ht:=dj0 vs;simp only[cond_false]
   cases c3:twF vs with
   |true=>
    rw[c3]at ht
    repeat'(first|refine yz ?_|refine yp b209 ht ?_|exact zD)
   |false=>
    rw[c3]at ht;simp only[cond_false]
    repeat'(first|refine yz ?_|refine yp b209 ht ?_)
    refine ac7 (α:=SNo ats fun a=> !di5 a) (fun p=>⟨[(1,.ptr 0 0),(4,.d (.int p.i))],[oCJ ⟨vs,ats⟩]⟩) (fun p=>ats.length-p.i) ⟨0,by omega,rfl⟩ (zle 1) ?_;rintro⟨j,hj,ok2⟩;dsimp only at ok2 ⊢;rcases fj8 j ats.length with hlt2|hge2
    ·have g4:decide ((j:Int)<((ats.map cc6).length:Int))=true:=by rw[hla];simpa using hlt2
     have hx0:=fj7 hlt2;generalize ats[j]=a at hx0;have hx:=bx4 (f:=cc6) hx0;have hf:=di7 a;rw[dj2 hx0]at ok2
     cases c1:di5 a with
     |false=>
      rw[c1]at hf ok2;rw[ok2]
      repeat'(first|refine yz ?_|refine yi (cc6 a) hx ?_|refine yp b210 hf ?_|exact zD)
     |true=>
      rw[c1]at hf ok2
      repeat'(first|refine yz ?_|refine yi (cc6 a) hx ?_|refine yp b210 hf ?_)
      refine ac1 ?_;exact⟨⟨j+1,by omega,by rw[ok2];rfl⟩,by dsimp only;omega,(zle 1)⟩
    ·have g4:decide ((j:Int)<((ats.map cc6).length:Int))=false:=by rw[hla];simp;omega
     rw[ok2,fk5 hge2,fp7];simp only[cond_false]
     repeat'(refine yz ?_)
     refine ac7 (α:=SRg (fun j=> !dj1 ats j) vs.length) (fun p=>⟨[(1,.ptr 0 0),(5,.d (.int p.i))],[oCJ ⟨vs,ats⟩]⟩) (fun p=>vs.length-p.i) ⟨0,by omega,rfl⟩ (zle 1) ?_;rintro⟨k,hk,ok3⟩;dsimp only at ok3 ⊢;rcases fj8 k vs.length with hlt3|hge3
     ·have g5:decide ((k:Int)<((vs.map D.str).length:Int))=true:=by rw[hlv];simpa using hlt3
      have hu:=dj3 ats k
      cases c4:dj1 ats k with
      |true=>
       rw[c4]at hu
       repeat'(first|refine yz ?_|refine yp b211 hu ?_)
       refine ac1 ?_;exact⟨⟨k+1,by omega,di8 ok3 (by rw[c4];rfl)⟩,by dsimp only;omega,(zle 1)⟩
      |false=>
       rw[c4]at hu;rw[di9 hlt3 (f:=fun j=> !dj1 ats (j:Int)) (by rw[c4];rfl)]
       repeat'(first|refine yz ?_|refine yp b211 hu ?_|exact zD)
     ·have g5:decide ((k:Int)<((vs.map D.str).length:Int))=false:=by rw[hlv];simp;omega
      obtain rfl:k=vs.length:=Oa
      rw[ok3]
      exact Ok
open Go.RowKit
structure SMk(ats:List AT)(n:Nat) where
 i:Nat
 f:Nat→Bool
 hi:i≤ats.length
 hf:∀j,f j=dj1 (ats.take i) j
 ok:ats.any (fun a=> !di5 a)=(ats.drop i).any fun a=> !di5 a
structure SMv(ats:List AT)(a:AT)(i:Nat) where
 k:Nat
 f:Nat→Bool
 hk:k≤a.vs.length
 hf:∀j:Nat,f j=(dj1 (ats.take i) j||(a.vs.take k).any fun y=>y==(j:Int))
theorem du7{ats:List AT}{n:Int}(h:ats.any (dk2 n)=false){i:Nat}{a:AT}(ha:ats[i]? =some a):dk2 n a=false:=by
 have:=fq2.1 h a (fj9 ha);simpa using this
theorem du8{n:Int}{a:AT}(h:dk2 n a=false){k:Nat}{y:Int}(hy:a.vs[k]? =some y):0≤y∧y<n:=by
 unfold dk2 at h;rw[fn9]at h;obtain⟨h1,h2⟩:=h;obtain⟨-,-,h3⟩:=dl3 (a:=a) (by simpa using h1);have h4:=fq2.1 h3 y (fj9 hy);have h5:=fq2.1 h2 y (fj9 hy);simp at h4 h5;omega
set_option maxHeartbeats 2000000 in
theorem du9(c:CJ):Ev E 57 [cc7 c] (.d (.int (dk6 c))):=Ev.fit fun hfit=>by
 obtain⟨vs,ats⟩:=c;have hft:=hfit (cc7 ⟨vs,ats⟩) Oc;obtain⟨hmv,hev⟩:=bx5 (hft.aggs (.sl (vs.map .str)) Oc);obtain⟨hma,hea⟩:=bx5 (hft.aggs (.sl (ats.map cc6)) Oc);have hlv:(vs.map D.str).length=vs.length:=Oc
 have hla:(ats.map cc6).length=ats.length:=Oc
 unfold dk6;dsimp only
 cases hbig:decide (vs.length>24)||decide (ats.length>12)with
 |true=>
  have hb1:(decide (((vs.map D.str).length:Int)>24)=true)∨(decide (((vs.map D.str).length:Int)>24)=false∧decide (((ats.map cc6).length:Int)>12)=true):=by
   rw[hlv,hla];simp at hbig ⊢;omega
  rcases hb1 with g1|⟨g1,g2⟩
  ·refine ye1 func57 ntmps57 fun _ _ _=>?_
   exact Ok
  ·refine ye1 func57 ntmps57 fun _ _ _=>?_
   exact Ok
 |false=>
  rw[fn9]at hbig;have hsm:vs.length≤24:=by have:=hbig.1;simp at this;omega
  have g1:decide (((vs.map D.str).length:Int)>24)=false:=by rw[hlv];simp;omega
  have g2:decide (((ats.map cc6).length:Int)>12)=false:=by rw[hla];have:=hbig.2;simp at this ⊢;omega
  simp only[cond_false];refine ye1 func57 ntmps57 fun _ _ _=>?_
  repeat'(first|refine yz ?_|refine yx ?_)
  refine ac7 (α:=SNo ats (dk2 vs.length)) (fun p=>⟨[(1,.ptr 0 0),(22,.d (.sl (ats.map cc6))),(23,.d (.int (ats.map cc6).length)),(24,.d (.int p.i))],[oCJ ⟨vs,ats⟩]⟩) (fun p=>ats.length-p.i) ⟨0,by omega,rfl⟩ (zle 1) ?_;rintro⟨i,hi,ok⟩;dsimp only at ok ⊢;rcases fj8 i ats.length with hlt|hge
  ·have g3:decide ((i:Int)<((ats.map cc6).length:Int))=true:=by rw[hla];simpa using hlt
   have hx0:=fj7 hlt;generalize ats[i]=a at hx0;have hx:=bx4 (f:=cc6) hx0;have hs:=dh3 a;rw[dj2 hx0]at ok
   cases c1:dh2 a with
   |false=>
    rw[c1]at hs;rw[show dk2 vs.length a=true by unfold dk2;rw[c1];rfl]at ok;rw[ok]
    repeat'(first|refine yz ?_|refine yi (cc6 a) hx ?_|refine yp b107 hs ?_|exact zD)
   |true=>
    rw[c1]at hs;obtain⟨ha1,ha2,ha3⟩:=dl3 c1;obtain⟨k,ws,nm,ty,v⟩:=a;dsimp only at ha1 ha2 ha3;obtain⟨x,r,rfl⟩:=ft9 (fun h:ws=[]=>by rw[h]at ha1;simp at ha1;omega);have hm:=dg3 x r;have hmg:=dg5 vs.length r x;have hb:dk2 vs.length ⟨k,x::r,nm,ty,v⟩=decide (r.foldl max x≥vs.length):=by unfold dk2;rw[c1,hmg];rfl
    rw[hb]at ok
    cases c2:decide (r.foldl max x≥(vs.length:Int))with
    |true=>
     have g4:decide (r.foldl max x≥((vs.map D.str).length:Int))=true:=by rw[hlv];exact c2
     rw[c2]at ok;rw[ok]
     repeat'(first|refine yz ?_|refine yi (cc6 ⟨k,x::r,nm,ty,v⟩) hx ?_|refine yp b107 hs ?_|refine yp b108 hm ?_|exact zD)
    |false=>
     have g4:decide (r.foldl max x≥((vs.map D.str).length:Int))=false:=by rw[hlv];exact c2
     rw[c2]at ok
     repeat'(first|refine yz ?_|refine yi (cc6 ⟨k,x::r,nm,ty,v⟩) hx ?_|refine yp b107 hs ?_|refine yp b108 hm ?_)
     refine ac1 ?_;exact⟨⟨i+1,by omega,by rw[ok];rfl⟩,by dsimp only;omega,(zle 1)⟩
  ·have g3:decide ((i:Int)<((ats.map cc6).length:Int))=false:=by rw[hla];simp;omega
   rw[fk5 hge,fp7]at ok;rw[ok];simp only[cond_false]
   by_cases hne:vs=[]
   ·subst hne
    have hat:ats=[]:=by
     cases ats with
     |nil=>rfl
     |cons a r=>
      have hb:=du7 ok (i:=0) (a:=a) rfl;have hb':=hb;unfold dk2 at hb';rw[fn9]at hb';obtain⟨h1,h2,-⟩:=dl3 (a:=a) (by simpa using hb'.1);obtain⟨x,hx⟩:∃x,a.vs[0]? =some x:=⟨_,fj7 Oa⟩;have:=du8 hb hx;simp at this;omega
    subst hat;have hcb:=dj5 [] false
    repeat'(first|(refine bh7 5 rfl ?_)|refine yz ?_|refine yc [] b110 (df8 []) ?_|refine yc [1] b109 (dj6) ?_|refine yp b111 dj7 ?_)
    refine ac7 (α:=Unit) (fun _=>⟨[(1,.ptr 0 0),(6,.own 2),(57,.d (.sl [])),(58,.d (.int 0)),(59,.d (.int 0))],[oCJ ⟨[],[]⟩,ce4 [],.row 4 1 (bL [])]⟩) (fun _=>0) () (zle 3) ?_;rintro-;have g6:decide ((0:Int)<0)=false:=rfl
    repeat'(first|(refine au2 2 rfl ?_;dsimp only[ar6,ar5,ar8,ar7,List.map,List.set])|refine yz ?_|refine yp b113 hcb ?_|exact zD)
   ·have hz:∀z∈sortU (ce5 vs),z.length≤maxLen:=by
     intro z hz;have hz':z∈ce5 vs:=(List.mergeSort_perm _ _).mem_iff.1 hz;obtain⟨s,hs,rfl⟩:=fl3.1 hz';exact(hev s hs).str
    have hso:=cf1 vs hne Oa;have hco:=cf3 (sortU (ce5 vs)) hz;have htw:=dk1 vs
    cases c3:twF vs with
    |true=>
     rw[c3]at htw
     repeat'(first|refine bh4 (id:=10) [1] [2] Ob Ob Oj ?_|refine reF (id:=10) (i:=0) 1 Ob rfl ?_|refine reF (id:=10) (i:=2) 1 Ob rfl ?_|(refine reV (id:=10) (i:=3) rfl rfl rfl rfl rfl rfl ?_ ?_;(first|exact True.intro|rfl|assumption|omega|(simp only[inR];omega)|((show _≤(9223372036854775807:Nat));(try simp only[ByteArray.size_append]);omega)|exact au6 Oa Oa|exact au7 Oa Oa|exact⟨rfl,by decide,by decide⟩))|(refine reV (id:=10) (i:=4) rfl rfl rfl rfl rfl rfl ?_ ?_;(first|exact True.intro|rfl|assumption|omega|(simp only[inR];omega)|((show _≤(9223372036854775807:Nat));(try simp only[ByteArray.size_append]);omega)|exact au6 Oa Oa|exact au7 Oa Oa|exact⟨rfl,by decide,by decide⟩))|(refine reV (id:=10) (i:=5) rfl rfl rfl rfl rfl rfl ?_ ?_;(first|exact True.intro|rfl|assumption|omega|(simp only[inR];omega)|((show _≤(9223372036854775807:Nat));(try simp only[ByteArray.size_append]);omega)|exact au6 Oa Oa|exact au7 Oa Oa|exact⟨rfl,by decide,by decide⟩))|refine reF (id:=10) (i:=6) 1 Ob rfl ?_|refine reN ?_|refine yz ?_|refine yc [] b110 (df8 vs) ?_|refine yc [1] b109 (hso) ?_|refine bi5 [2] (id:=10) (i:=1) rfl rfl rfl rfl rfl (FnX.plain _) b111 (hco) rfl rfl rfl rfl rfl Oj ?_|exact zD)
    |false=>
     rw[c3]at htw;simp only[cond_false];have hmz:List.replicate (vs.map D.str).length (D.bool false)=bL (dk5 vs.length fun _=>false):=by rw[hlv];exact dl0 vs.length
     repeat'(first|refine bh4 (id:=10) [1] [2] Ob Ob Oj ?_|refine reF (id:=10) (i:=0) 1 Ob rfl ?_|refine reF (id:=10) (i:=2) 1 Ob rfl ?_|(refine reV (id:=10) (i:=3) rfl rfl rfl rfl rfl rfl ?_ ?_;(first|exact True.intro|rfl|assumption|omega|(simp only[inR];omega)|((show _≤(9223372036854775807:Nat));(try simp only[ByteArray.size_append]);omega)|exact au6 Oa Oa|exact au7 Oa Oa|exact⟨rfl,by decide,by decide⟩))|(refine reV (id:=10) (i:=4) rfl rfl rfl rfl rfl rfl ?_ ?_;(first|exact True.intro|rfl|assumption|omega|(simp only[inR];omega)|((show _≤(9223372036854775807:Nat));(try simp only[ByteArray.size_append]);omega)|exact au6 Oa Oa|exact au7 Oa Oa|exact⟨rfl,by decide,by decide⟩))|(refine reV (id:=10) (i:=5) rfl rfl rfl rfl rfl rfl ?_ ?_;(first|exact True.intro|rfl|assumption|omega|(simp only[inR];omega)|((show _≤(9223372036854775807:Nat));(try simp only[ByteArray.size_append]);omega)|exact au6 Oa Oa|exact au7 Oa Oa|exact⟨rfl,by decide,by decide⟩))|refine reF (id:=10) (i:=6) 1 Ob rfl ?_|refine reN ?_|refine yz ?_|refine yc [] b110 (df8 vs) ?_|refine yc [1] b109 (hso) ?_|refine bi5 [2] (id:=10) (i:=1) rfl rfl rfl rfl rfl (FnX.plain _) b111 (hco) rfl rfl rfl rfl rfl Oj ?_|(refine qS rfl ⟨rfl,by(show 1*(vs.map D.str).length≤281474976710656;rw[hlv];omega),by(show(vs.map D.str).length≤_;rw[hlv];omega)⟩ ?_))
     refine ac7 (α:=SMk ats vs.length) (fun p=>⟨[(1,.ptr 0 0),(6,.own 4),(57,.d (.sl (ats.map cc6))),(58,.d (.int (ats.map cc6).length)),(59,.d (.int p.i))],[oCJ ⟨vs,ats⟩,ce4 vs,.dead,.row 9 1 (ce6 (Lib.compact (sortU (ce5 vs)))),.row 4 1 (bL (dk5 vs.length p.f))]⟩) (fun p=>ats.length-p.i) ⟨0,fun _=>false,by omega,fun _=>rfl,rfl⟩ (by rw[←hmz];exact(zle 5)) ?_;rintro⟨j,f,hj,hf,ok2⟩;dsimp only at hf ok2 ⊢;rcases fj8 j ats.length with hlt2|hge2
     ·have g4:decide ((j:Int)<((ats.map cc6).length:Int))=true:=by rw[hla];simpa using hlt2
      have hx0:=fj7 hlt2;generalize ats[j]=a at hx0;have hx:=bx4 (f:=cc6) hx0;have hn:=di6 a;have hbd:=du7 ok hx0;have hmw:=(bx5 ((hea a (fj9 hx0)).aggs (cc5 a.vs) Oc)).1;have hlw:=ce1 a.vs;rw[dj2 hx0]at ok2
      cases c1:di5 a with
      |false=>
       rw[c1]at hn ok2;rw[ok2]
       repeat'(first|refine yz ?_|refine yi (cc6 a) hx ?_|refine yp b112 hn ?_|exact zD)
      |true=>
       rw[c1]at hn ok2
       repeat'(first|refine yz ?_|refine yi (cc6 a) hx ?_|refine yp b112 hn ?_)
       refine ac7 (α:=SMv ats a j) (fun p=>⟨[(1,.ptr 0 0),(6,.own 4),(57,.d (.sl (ats.map cc6))),(58,.d (.int (ats.map cc6).length)),(59,.d (.int j)),(67,.d (.sl (iL a.vs))),(68,.d (.int (iL a.vs).length)),(69,.d (.int p.k))],[oCJ ⟨vs,ats⟩,ce4 vs,.dead,.row 9 1 (ce6 (Lib.compact (sortU (ce5 vs)))),.row 4 1 (bL (dk5 vs.length p.f))]⟩) (fun p=>a.vs.length-p.k) ⟨0,f,by omega,fun x=>by rw[hf x];simp⟩ (zle 5) ?_;rintro⟨k,f2,hk,hf2⟩;dsimp only at hf2 ⊢;rcases fj8 k a.vs.length with hlt3|hge3
       ·have g5:decide ((k:Int)<((iL a.vs).length:Int))=true:=by rw[hlw];simpa using hlt3
        have hy0:=fj7 hlt3;generalize a.vs[k]=y at hy0;have hy:=ce2 hy0;obtain⟨hy1,hy2⟩:=du8 hbd hy0;have hlm:(bL (dk5 vs.length f2)).length=vs.length:=by simp[bL,dk5]
        have hgt:=dk8 vs.length f2 y hy1 hy2;have hms:=dk7 vs.length f2 y hy1 hy2
        repeat'(first|refine yz ?_|refine yi (.int y) hy ?_|refine qZ (.bool (f2 y.toNat)) rfl rfl rfl rfl rfl rfl hgt rfl rfl rfl ?_)
        refine ac1 ?_;refine⟨⟨k+1,fun x=>f2 x||y==(x:Int),by omega,fun x=>?_⟩,by dsimp only;omega,by rw[←hms];exact(zle 5)⟩;rw[hf2 x,dl2 hy0,Bool.or_assoc]
       ·have g5:decide ((k:Int)<((iL a.vs).length:Int))=false:=by rw[hlw];simp;omega
        repeat'(refine yz ?_)
        refine ac1 ?_;refine⟨⟨j+1,f2,by omega,fun x=>?_,by rw[ok2];rfl⟩,by dsimp only;omega,(zle 5)⟩;rw[hf2 x,dl1 hx0,fl4 hge3]
     ·have g4:decide ((j:Int)<((ats.map cc6).length:Int))=false:=by rw[hla];simp;omega
      rw[fk5 hge2,fp7]at ok2;rw[ok2];simp only[cond_false];have hcb:=dj5 (dk5 vs.length f) false;rw[dk9]at hcb
      have hff:f=fun x:Nat=>dj1 ats (x:Int):=by
       funext x
       rw[hf x,fl4 hge2]
      rw[hff]at hcb ⊢
      cases c5:(List.range vs.length).any fun j=> !dj1 ats j with
      |true=>
       rw[c5]at hcb
       repeat'(first|(refine au2 4 rfl ?_;dsimp only[ar6,ar5,ar8,ar7,List.map,List.set])|refine yz ?_|refine yp b113 hcb ?_|exact zD)
      |false=>
       rw[c5]at hcb
       repeat'(first|(refine au2 4 rfl ?_;dsimp only[ar6,ar5,ar8,ar7,List.map,List.set])|refine yz ?_|refine yp b113 hcb ?_|exact zD)
end Go.Proofs.YtndgolmgaenlfaaGreatDoor
namespace Go.Proofs.YtndgolmgaenlfaaGreatDoor
set_option maxRecDepth 4000
open Go Go.Abs Go.Val Go.RowKit Go.Sort Go.Proofs Go.Proofs.Tryz
theorem dv0{f:FuncId}{ds xs es:List D}{e:TypeId}{size:Nat}{u:Value}(h:Ev E f (ds++ .sl xs::es) (.d (.imm u))):EvS E f (ds.map .d++ .own 0::es.map .d) [.row e size xs] (.d (.imm u)) [.row e size xs]:=by
 intro w F σ vs hi hl hr;have hlen:vs.length=ds.length+1+es.length:=by simp at hl;omega
 obtain⟨v,hv⟩:∃v,vs[ds.length]? =some v:=⟨_,fj7 Oa⟩;obtain⟨b,c,n,e1,rfl⟩:=hr ds.length (.own 0) v (by rw[fl8 Oc];simp) hv;obtain⟨cs,g1,g2,g3,g4,g5,g6,g7,g8,g9,g10⟩:=hi.obs 0 _ _ rfl e1;have hbl:b<w.heap.size:=(fs3.1 g1).1
 have hnew:Rd w (fun i=>F i∨i=b) (.sl xs) (.slice (some ⟨b,0,none⟩) n c):=by
  have hex:∀i j,∃u,∀x cd,xs[i]? =some x→x.cells[j]? =some cd→cs[i*size+j]? =some u∧Rd w F cd u:=by
   intro i j
   cases hx:xs[i]? with
   |none=>exact⟨undef,fun x cd h=>by cases h⟩
   |some x=>
    cases hc:x.cells[j]? with
    |none=>exact⟨undef,fun x' cd h h'=>by cases h;rw[hc]at h';cases h'⟩
    |some cd=>
     obtain⟨u,e1,e2⟩:=g8 i x j cd hx hc;exact⟨u,fun x' cd' h h'=>by cases h;rw[hc]at h';cases h';exact⟨e1,e2⟩⟩
  rw[g3];refine .sl size xs ⟨b,0,none⟩ c (fun i j=>Classical.choose (hex i j)) Oa g5 (fun _=>.inr rfl) g6 g7 (fun i x j cd hx hc=>?_) (fun i x j cd hx hc=>?_)
  ·have:=(Classical.choose_spec (hex i j) x cd hx hc).1;rw[aa2,fo7];unfold World.cell?;simp only[g1];simpa using this
  ·exact(Classical.choose_spec (hex i j) x cd hx hc).2.mono (fun _ h=>.inl h) fun _ _=>rfl
 refine(h w (fun i=>F i∨i=b) vs (fun k hk=>?_) (hi.glob.mono (fun _ h=>.inl h) fun _ _=>rfl) Og fun i d v' hd hv'=>?_).mono ?_
 ·rcases hk with hk|rfl
  ·exact hi.flt k hk
  ·exact hbl
 ·rcases fj8 i ds.length with hlt|hge
  ·rw[fl6 hlt]at hd;exact Rd.mono (hr i (.d d) v' (by rw[fl6 (by simpa using hlt),fk6,hd];rfl) hv') (fun _ h=>.inl h) fun _ _=>rfl
  ·rw[fl8 hge]at hd;rcases fs6 (i-ds.length)with h0|h0
   ·have h1:i=ds.length:=by omega
    subst h1;rw[Nat.sub_self]at hd
    cases hd
    rw[hv]at hv'
    cases hv'
    exact hnew
   ·obtain⟨m,hm⟩:∃m,i-ds.length=m+1:=⟨i-ds.length-1,by omega⟩;rw[hm,fu3]at hd;exact Rd.mono (hr i (.d d) v' (by rw[fl8 (by simpa using hge),fk3,hm,fu3,fk6,hd];rfl) hv') (fun _ h=>.inl h) fun _ _=>rfl
 ·rintro ev w' ⟨v',F',rfl,hext,hrd⟩;have hb:=hext.below;obtain⟨rfl,hok⟩:=Rd.imm_inv (show Rd w' F' (.imm u) v' from hrd);exact⟨_,F,σ,rfl,aa7.of_below hb fun k hk=>hk.1,fun _ h=>h,fun _ h=>.inl h,fun i p _ hp=>hp,(ab2.lend hi).ext (Ext.of_below hb hi.flt),Rd.imm _ hok⟩
end Go.Proofs.YtndgolmgaenlfaaGreatDoor
namespace Go.Proofs.YtndgolmgaenlfaaGreatDoor
set_option maxRecDepth 4000
open Go Go.Abs Go.Val Go.Proofs.Tryz
attribute [local irreducible] go SGo an1 Ev au8 EvO EvS
theorem dv1:Ev E 45 [.sl []] (.d (.sl [])):=by
 refine ye1 func45 ntmps45 fun _ _ _=>?_
 repeat'(first|refine yz ?_|(refine aw8 rfl (fun _=>?_) ?_)|refine ax5 rfl rfl rfl rfl rfl rfl rfl rfl ?_|refine yx ?_|(refine yy ?_ ?_<;>intro _)|exact zD|exact zL)
theorem dv2(l:List ByteArray)(h0:l≠ [])(hn:l.length≤2000000):EvO E 45 [.sl (l.map .str)] 9 1 (l.map .str):=by
 have hle:(l.map D.str).length=l.length:=Oc
 have hne:l.map D.str≠ []:=by simpa using h0
 have hc:∀d∈l.map D.str,d.cells.length=1:=fun d hd=>by
  obtain⟨u,-,rfl⟩:=fl3.1 hd;rfl
 generalize l.map D.str=xs at*;refine ax6 func45 ntmps45 rfl rfl fun w0 F0 O=>?_
 repeat'(first|refine ax2 rfl rfl rfl rfl rfl rfl rfl Od Od ?_|refine yz ?_|(refine aw8 rfl (fun h=>absurd h hne) ?_)|refine yx ?_|(refine yy ?_ ?_<;>intro _)|exact zD|exact zL)
 refine qS rfl ⟨hne,hc,by(show(0+xs.length)*16≤140737488355328;omega),by(show 0+xs.length≤9223372036854775807;omega)⟩ ?_
 exact Ok
theorem dv3(l:List ByteArray)(hn:l.length≤2000000):Ev E 45 [.sl (l.map .str)] (.d (.sl (l.map .str))):=by
 by_cases h0:l=[]
 ·subst h0;exact dv1
 ·exact(dv2 l h0 hn).ev
end Go.Proofs.YtndgolmgaenlfaaGreatDoor
