/- The check of a path pattern, by the program; The check of a path pattern, by the program; The check of a path pattern's parts, by the specification; T. Conditions: each part's own, as it says. -/
import Derived.Test.YtndgolmgaenlfaaGreatDoorFB
import Derived.Test.YtndgolmgaenlfaaGreatDoorMA
import Derived.Test.YtndgolmgaenlfaaGreatDoorGC
import Derived.Test.YtndgolmgaenlfaaGreatDoorLA
import Derived.Test.YtndgolmgaenlfaaGreatDoorMB
set_option linter.unusedVariables false
set_option linter.unusedSimpArgs false
namespace Go.Proofs.YtndgolmgaenlfaaGreatDoor
set_option maxRecDepth 4000
open Go Go.Abs Go.Val Go.RowKit Go.Proofs.Tryz
attribute [local irreducible] go SGo an9 Ev aw1 EvO EvS RGo
abbrev oPA(p:PA):aa5:=.var 69 (.w (.d (cu0 p)))
structure SPa(ns:List NP)(es:List EP) where
 i:Nat
 o:List PT
 hi:i≤ns.length
 ho:o.length≤2*i
 ok:cv3 ns es=o++cv3 (ns.drop i) (es.drop i)
set_option maxHeartbeats 4000000 in
theorem ds6(p:PA)(hn:p.ns.length≤1000000):Ev E 199 [cu0 p] (.d (.sl ((cv3 p.ns p.es).map cv2))):=Ev.fit fun hfit=>by
 obtain⟨vr,ns,es⟩:=p;dsimp only at hn ⊢;have hft:=hfit (cu0 ⟨vr,ns,es⟩) Oc;have hme:=(cz2 (hft.aggs (.sl (es.map ct9)) Oc)).1;have hln:(ns.map ct8).length=ns.length:=Oc
 have hle:(es.map ct9).length=es.length:=Oc
 refine ye1 func199 ntmps199 fun _ _ _=>?_
 repeat'(first|refine yz ?_|refine yx ?_|(refine yy ?_ ?_<;>intro _)|exact zD|exact zL)
 refine ac8 (α:=SPa ns es) (fun p=>⟨[(3,bh5 1 (p.o.map cv2)),(1,.ptr 0 0),(7,.d (.sl (ns.map ct8))),(8,.d (.int (ns.map ct8).length)),(9,.d (.int p.i))],[oPA ⟨vr,ns,es⟩]++ay0 211 3 (p.o.map cv2)⟩) (fun p=>ns.length-p.i) ⟨0,[],by omega,by simp,by simp⟩ (zle 1) ?_;rintro⟨i,o,hi,ho,ok⟩;dsimp only at ho ok ⊢;have hol:(o.map cv2).length≤2000000:=Og
 rcases fy5 i ns.length with hlt|hge
 ·have g1:decide ((i:Int)<((ns.map ct8).length:Int))=true:=by rw[hln];simpa using hlt
  have hx0:=fy4 hlt;generalize ns[i]=x at hx0;have hx:=cz1 (f:=ct8) hx0;rw[cz0 hx0]at ok;rcases fy5 i es.length with hlt2|hge2
  ·have g2:decide ((i:Int)<((es.map ct9).length:Int))=true:=by rw[hle];simpa using hlt2
   have hy0:=fy4 hlt2;generalize es[i]=y at hy0;have hy:=cz1 (f:=ct9) hy0;rw[cz0 hy0,cv3]at ok;have hnx:(o++ [ptN x,ptE y]).map cv2=o.map cv2++ [cv2 (ptN x)]++ [cv2 (ptE y)]:=Oc
   have hok:cv3 ns es=(o++ [ptN x,ptE y])++cv3 (ns.drop (i+1)) (es.drop (i+1)):=by rw[ok];simp
   have hon:(o++ [ptN x,ptE y]).length≤2*(i+1):=Og
   generalize o.map cv2=oo at*
   match oo,hol with
   |[],hol=>
    dsimp only[bh5,ay0]
    repeat'(first|refine yq 7 [21] ?_|refine yf 7 0 21 ?_|refine yw ?_|refine yf 7 22 1 ?_|refine rgN ?_|refine yv ?_|refine yz ?_|refine yi (ct8 x) hx ?_|refine yi (ct9 y) hy ?_|refine rgS (id:=7) (i:=21) rfl rfl rfl rfl (⟨by simp,fun d hd=>by(obtain rfl:=ga4.1 hd;rfl),by(show(1+1)*64≤140737488355328;omega),by(show 1+1≤9223372036854775807;omega)⟩) Oj ?_|(refine qS rfl ⟨by simp,fun d hd=>by(obtain rfl:=ga4.1 hd;rfl),by(show(0+1)*64≤140737488355328;omega),by(show 0+1≤9223372036854775807;omega)⟩ ?_)|refine yx ?_|(refine yy ?_ ?_<;>intro _)|exact zD|exact zL)
    refine ac2 ?_;refine⟨⟨i+1,o++ [ptN x,ptE y],by omega,hon,hok⟩,by dsimp only;omega,?_⟩;dsimp only;rw[hnx];exact(bi7 [0,3])
   |a::q,hol=>
    dsimp only[bh5,ay0];have hq2:(a::q++ [cv2 (ptN x)]).length≤2000001:=by rw[fy8];exact Nat.add_le_add_right hol 1
    repeat'(first|refine yq 7 [21] ?_|refine yf 7 0 21 ?_|refine yw ?_|refine yf 7 22 1 ?_|refine rgN ?_|refine yv ?_|refine yz ?_|refine yi (ct8 x) hx ?_|refine yi (ct9 y) hy ?_|refine rgS (id:=7) (i:=21) rfl rfl rfl rfl (⟨by simp,fun d hd=>by(obtain rfl:=ga4.1 hd;rfl),by(show((a::q++ [cv2 (ptN x)]).length+1)*64≤140737488355328;omega),by(show(a::q++ [cv2 (ptN x)]).length+1≤9223372036854775807;omega)⟩) Oj ?_|(refine qS rfl ⟨by simp,fun d hd=>by(obtain rfl:=ga4.1 hd;rfl),by(show((a::q).length+1)*64≤140737488355328;omega),by(show(a::q).length+1≤9223372036854775807;omega)⟩ ?_)|refine yx ?_|(refine yy ?_ ?_<;>intro _)|exact zD|exact zL)
    refine ac2 ?_;refine⟨⟨i+1,o++ [ptN x,ptE y],by omega,hon,hok⟩,by dsimp only;omega,?_⟩;dsimp only;rw[hnx];exact(bi7 [0,4])
  ·have g2:decide ((i:Int)<((es.map ct9).length:Int))=false:=by rw[hle];simp;omega
   have he0:es.drop i=[]:=ga2 hge2;have he1:es.drop (i+1)=[]:=ga2 Oa;rw[he0,cv3]at ok;have hnx:(o++ [ptN x]).map cv2=o.map cv2++ [cv2 (ptN x)]:=Oc
   have hok:cv3 ns es=(o++ [ptN x])++cv3 (ns.drop (i+1)) (es.drop (i+1)):=by rw[ok,he1];simp
   have hon:(o++ [ptN x]).length≤2*(i+1):=Og
   generalize o.map cv2=oo at*
   match oo,hol with
   |[],hol=>
    dsimp only[bh5,ay0]
    repeat'(first|refine yz ?_|refine yi (ct8 x) hx ?_|(refine qS rfl ⟨by simp,fun d hd=>by(obtain rfl:=ga4.1 hd;rfl),by(show(0+1)*64≤140737488355328;omega),by(show 0+1≤9223372036854775807;omega)⟩ ?_)|refine yx ?_|(refine yy ?_ ?_<;>intro _)|exact zD|exact zL)
    refine ac2 ?_;refine⟨⟨i+1,o++ [ptN x],by omega,hon,hok⟩,by dsimp only;omega,?_⟩;dsimp only;rw[hnx];exact(bi7 [0,2])
   |a::q,hol=>
    dsimp only[bh5,ay0]
    repeat'(first|refine yz ?_|refine yi (ct8 x) hx ?_|(refine qS rfl ⟨by simp,fun d hd=>by(obtain rfl:=ga4.1 hd;rfl),by(show((a::q).length+1)*64≤140737488355328;omega),by(show(a::q).length+1≤9223372036854775807;omega)⟩ ?_)|refine yx ?_|(refine yy ?_ ?_<;>intro _)|exact zD|exact zL)
    refine ac2 ?_;refine⟨⟨i+1,o++ [ptN x],by omega,hon,hok⟩,by dsimp only;omega,?_⟩;dsimp only;rw[hnx];exact(bi7 [0,3])
 ·have g1:decide ((i:Int)<((ns.map ct8).length:Int))=false:=by rw[hln];simp;omega
  rw[ga2 hge,cv3,ge7]at ok;rw[ok];generalize o.map cv2=oo at*
  match oo with
  |[]=>
   dsimp only[bh5,ay0]
   exact Om
  |a::q=>
   dsimp only[bh5,ay0];refine qA ?_;refine av3 1 rfl ?_
   exact Om
def ds7(e:Ex):Prop:=dp e≤1000000∧nd e≤1000000
structure OkPA(p:PA):Prop where
 n:p.ns.length≤1000000
 x:(cv8 (cv3 p.ns p.es)).length≤1000000
 e:∀e∈cv8 (cv3 p.ns p.es),ds7 e
theorem ds8{L:List PT}{x:PT}{q:PP}(hx:x∈L)(hq:q∈x.ps):q.e∈cv8 L:=gh2.2 ⟨x,hx,ga1.2 ⟨q,hq,rfl⟩⟩
theorem ds9{x:PT}:∀{L:List PT},x∈L→x.ps.length≤(cv8 L).length
 |y::r,h=>by
  have e:cv8 (y::r)=y.ps.map (fun p=>p.e)++cv8 r:=by unfold cv8;rw[gc7]
  rw[e,fy8,fz3];rcases fz0.1 h with rfl|h
  ·omega
  ·have:=ds9 h;omega
theorem dt0:∀(ns:List NP) (es:List EP),(cv3 ns es).length≤2*ns.length
 |[],es=>by cases es<;>simp[cv3]
 |n::r,[]=>by
  have:=dt0 r [];simp[cv3];omega
 |n::r,e::q=>by
  have:=dt0 r q;simp[cv3];omega
structure SNc{α:Type}(l:List α)(f:α→Bool) where
 i:Nat
 hi:i≤l.length
 ok:l.any f=(l.drop i).any f
theorem dt1{α:Type}{l:List α}{f:α→Bool}{i:Nat}{x:α}(h:l[i]? =some x):(l.drop i).any f=(f x||(l.drop (i+1)).any f):=by rw[cz0 h,ge0]
theorem dt2(x:PT)(r:List PT):cv8 (x::r)=x.ps.map (fun p=>p.e)++cv8 r:=by unfold cv8;rw[gc7]
structure SEx(L:List PT) where
 i:Nat
 hi:i≤L.length
 g:Bool
 ok:cv7 (cv8 L)=cv7 (cv8 (L.drop i))
 hg:(cv8 L).any cu5=(g||(cv8 (L.drop i)).any cu5)
structure SEy(L:List PT)(x:PT)(i:Nat) where
 j:Nat
 hj:j≤x.ps.length
 g:Bool
 ok:cv7 (cv8 L)=cv7 ((x.ps.drop j).map (fun p=>p.e)++cv8 (L.drop (i+1)))
 hg:(cv8 L).any cu5=(g||((x.ps.drop j).map (fun p=>p.e)++cv8 (L.drop (i+1))).any cu5)
set_option maxHeartbeats 4000000 in
theorem dt3(p:PA)(cr:Bool)(hok:OkPA p):Ev E 126 [cu0 p,.bool cr] (.d (.int (cv9 p cr))):=Ev.fit fun hfit=>by
 have hlg:=dc0 p;have hpt:=ds6 p hok.n;have hwv:=cs6 p.vr;have hcp:=da2 197 b197 (fun e=> !cv0 e) p.es fun e _=>db5 e
 have hcq:=da2 204 b204 (fun e=> !cv1 e) p.es fun e _=>db6 e
 have hLl:(cv3 p.ns p.es).length≤2000000:=gb8 (dt0 _ _) (by have:=hok.n;omega);have hopn:=hok.x;have hope:=hok.e;unfold cv9;generalize cv3 p.ns p.es=L at*;obtain⟨vr,ns,es⟩:=p;dsimp only at hwv hcp hcq ⊢;have hft:=hfit (cu0 ⟨vr,ns,es⟩) Oc;have hmn:=(cz2 (hft.aggs (.sl (ns.map ct8)) Oc)).1;have hme:=(cz2 (hft.aggs (.sl (es.map ct9)) Oc)).1;have hln:(ns.map ct8).length=ns.length:=Oc
 have hle:(es.map ct9).length=es.length:=Oc
 have hlL:(L.map cv2).length=L.length:=Oc
 cases c1:cu9 ⟨vr,ns,es⟩with
 |true=>
  rw[c1]at hlg;refine ye2 func126 ntmps126 fun _ _ _=>?_
  repeat'(first|refine yz ?_|refine yp bs4 hlg ?_|exact zD)
 |false=>
  have h6:es.length≤6:=by
   unfold cu9 at c1;dsimp only at c1;rw[gb3,gb3]at c1;have:=c1.1.2;simp at this;omega
  rw[c1]at hlg;simp only[cond_false]
  cases c2:ns.length !=es.length+1 with
  |true=>
   have g2:(((ns.map ct8).length:Int) !=((es.map ct9).length:Int)+1)=true:=by rw[hln,hle];simp at c2 ⊢;omega
   refine ye2 func126 ntmps126 fun _ _ _=>?_
   repeat'(first|refine yz ?_|refine yp bs4 hlg ?_|refine yx ?_|exact zD)
  |false=>
   have g2:(((ns.map ct8).length:Int) !=((es.map ct9).length:Int)+1)=false:=by rw[hln,hle];simp at c2 ⊢;omega
   cases c3:es.any fun e=> !cv0 e with
   |true=>
    rw[c3]at hcp;refine ye2 func126 ntmps126 fun _ _ _=>?_
    repeat'(first|refine yz ?_|refine yp bs4 hlg ?_|refine qP (d:=29) rfl rfl rfl rfl rfl rfl bs5 (hcp) ?_|refine yx ?_|exact zD)
   |false=>
    rw[c3]at hcp;simp only[cond_false,gd0];have hsv:s0B vr=(vr.toList==(⟨#[]⟩:ByteArray).toList):=rfl
    cases c4:cv4 vr with
    |false=>
     refine ye2 func126 ntmps126 fun _ _ _=>?_
     repeat'(first|refine be9 6 (fun b=>⟨[(41,.d (.bool b)),(1,.d (.bool cr)),(2,.ptr 0 0),(5,.d (.sl (L.map cv2)))],[oPA ⟨vr,ns,es⟩]⟩) (true) ?_ ?_|refine yz ?_|refine yp bs4 hlg ?_|refine qP (d:=29) rfl rfl rfl rfl rfl rfl bs5 (hcp) ?_|refine yp b199 hpt ?_|refine yp bs6 hwv ?_|refine ac2 ⟨_,?_,(zle 1)⟩|refine yx ?_|(refine yy ?_ ?_<;>intro _)|exact zD)
     all_goals(clear hlg hpt hcp hcq hwv;simp_all [cv4])
    |true=>
     rw[gg0,gd0];refine ye2 func126 ntmps126 fun _ _ _=>?_
     repeat'(first|refine be9 6 (fun b=>⟨[(41,.d (.bool b)),(1,.d (.bool cr)),(2,.ptr 0 0),(5,.d (.sl (L.map cv2)))],[oPA ⟨vr,ns,es⟩]⟩) (false) ?_ ?_|refine yz ?_|refine yp bs4 hlg ?_|refine qP (d:=29) rfl rfl rfl rfl rfl rfl bs5 (hcp) ?_|refine yp b199 hpt ?_|refine yp bs6 hwv ?_|refine ac2 ⟨_,?_,(zle 1)⟩|refine yx ?_|(refine yy ?_ ?_<;>intro _))
     rotate_left
     all_goals first|(clear hlg hpt hcp hcq hwv;simp_all [cv4];done)|skip
     have hnb:∀x∈L,x.ps.length≤1000000:=fun x hx=>gb8 (ds9 hx) hopn
     refine ac8 (α:=SNc L cv5) (fun p=>⟨[(1,.d (.bool cr)),(2,.ptr 0 0),(5,.d (.sl (L.map cv2))),(42,.d (.sl (L.map cv2))),(43,.d (.int (L.map cv2).length)),(44,.d (.int p.i))],[oPA ⟨vr,ns,es⟩]⟩) (fun p=>L.length-p.i) ⟨0,by omega,rfl⟩ (zle 1) ?_;rintro⟨i,hi,ok⟩;dsimp only at ok ⊢;rcases fy5 i L.length with hlt|hge
     ·have g5:decide ((i:Int)<((L.map cv2).length:Int))=true:=by rw[hlL];simpa using hlt
      have hx0:=fy4 hlt;generalize L[i]=x at hx0;have hx:=cz1 (f:=cv2) hx0;have hk:=db8 x.ps (hnb x (fy6 hx0));have hw0:=cs6 x.nm;have hw1:=da9 x.ns;have hw2:=da9 (cu6 x.ps);obtain⟨a0,h0⟩:∃b,cs4 x.nm=b:=⟨_,rfl⟩;obtain⟨a1,h1⟩:∃b,x.ns.all cs4=b:=⟨_,rfl⟩;obtain⟨a2,h2⟩:∃b,(cu6 x.ps).all cs4=b:=⟨_,rfl⟩;have hbad:cv5 x=(!((x.nm.toList==(⟨#[]⟩:ByteArray).toList)||a0)||(!a1|| !a2)):=by rw[←h0,←h1,←h2];rfl
      rw[h0]at hw0;rw[h1]at hw1;rw[h2]at hw2;rw[dt1 hx0,hbad]at ok
      cases hb:(!((x.nm.toList==(⟨#[]⟩:ByteArray).toList)||a0)||(!a1|| !a2))with
      |true=>
       rw[hb,Bool.true_or]at ok;rw[ok]
       repeat'(first|refine be9 11 (fun b=>⟨[(69,.d (.bool b))],[oPA ⟨vr,ns,es⟩]⟩) (true) ?_ ?_|refine yz ?_|refine yi (cv2 x) hx ?_|refine yp bs6 hw0 ?_|refine qP (d:=60) rfl rfl rfl rfl rfl rfl b201 (hw1) ?_|refine yp b202 hk ?_|refine qP (d:=67) rfl rfl rfl rfl rfl rfl b201 (hw2) ?_|refine ac2 ⟨_,?_,(zle 1)⟩|(refine yy ?_ ?_<;>intro _)|exact zD)
       all_goals(clear hlg hpt hcp hcq hwv hk hw0 hw1 hw2 ok hbad h0 h1 h2 hfit hft hnb hope hopn hok c1 c2 c3 c4;simp_all)
      |false=>
       rw[hb,gd0]at ok
       repeat'(first|refine be9 11 (fun b=>⟨[(69,.d (.bool b)),(1,.d (.bool cr)),(2,.ptr 0 0),(5,.d (.sl (L.map cv2))),(42,.d (.sl (L.map cv2))),(43,.d (.int (L.map cv2).length)),(44,.d (.int i))],[oPA ⟨vr,ns,es⟩]⟩) (false) ?_ ?_|refine yz ?_|refine yi (cv2 x) hx ?_|refine yp bs6 hw0 ?_|refine qP (d:=60) rfl rfl rfl rfl rfl rfl b201 (hw1) ?_|refine yp b202 hk ?_|refine qP (d:=67) rfl rfl rfl rfl rfl rfl b201 (hw2) ?_|refine ac2 ⟨_,?_,(zle 1)⟩|(refine yy ?_ ?_<;>intro _))
       all_goals first|(refine ac2 ?_;exact⟨⟨i+1,by omega,ok⟩,by dsimp only;omega,(zle 1)⟩)|(clear hlg hpt hcp hcq hwv hk hw0 hw1 hw2 ok hbad h0 h1 h2 hfit hft hnb hope hopn hok c1 c2 c3 c4;simp_all;done)
     ·have g5:decide ((i:Int)<((L.map cv2).length:Int))=false:=by rw[hlL];simp;omega
      rw[ga2 hge,gf9]at ok;rw[ok];simp only[cond_false]
      repeat'(refine yz ?_)
      clear ok hge hi g5;refine ac8 (α:=SNc L cv6) (fun p=>⟨[(1,.d (.bool cr)),(2,.ptr 0 0),(5,.d (.sl (L.map cv2))),(71,.d (.sl (L.map cv2))),(72,.d (.int (L.map cv2).length)),(73,.d (.int p.i))],[oPA ⟨vr,ns,es⟩]⟩) (fun p=>L.length-p.i) ⟨0,by omega,rfl⟩ (zle 1) ?_;rintro⟨i,hi,ok⟩;dsimp only at ok ⊢;rcases fy5 i L.length with hlt|hge
      ·have g5:decide ((i:Int)<((L.map cv2).length:Int))=true:=by rw[hlL];simpa using hlt
       have hx0:=fy4 hlt;generalize L[i]=x at hx0;have hx:=cz1 (f:=cv2) hx0;have hk:=db8 x.ps (hnb x (fy6 hx0));have hw1:=da7 x.ns;have hw2:=da7 (cu6 x.ps);obtain⟨a1,h1⟩:∃b,cu7 x.ns=b:=⟨_,rfl⟩;obtain⟨a2,h2⟩:∃b,cu7 (cu6 x.ps)=b:=⟨_,rfl⟩;have hbad:cv6 x=(!a1|| !a2):=by rw[←h1,←h2];rfl
       rw[h1]at hw1;rw[h2]at hw2;rw[dt1 hx0,hbad]at ok
       cases hb:(!a1|| !a2)with
       |true=>
        rw[hb,Bool.true_or]at ok;rw[ok]
        repeat'(first|refine be9 17 (fun b=>⟨[(87,.d (.bool b))],[oPA ⟨vr,ns,es⟩]⟩) (true) ?_ ?_|refine yz ?_|refine yi (cv2 x) hx ?_|refine qP (d:=79) rfl rfl rfl rfl rfl rfl b203 (hw1) ?_|refine yp b202 hk ?_|refine qP (d:=85) rfl rfl rfl rfl rfl rfl b203 (hw2) ?_|refine ac2 ⟨_,?_,(zle 1)⟩|(refine yy ?_ ?_<;>intro _)|exact zD)
        all_goals(clear hlg hpt hcp hcq hwv hk hw1 hw2 ok hbad h1 h2 hfit hft hnb hope hopn hok c1 c2 c3 c4;simp_all)
       |false=>
        rw[hb,gd0]at ok
        repeat'(first|refine be9 17 (fun b=>⟨[(87,.d (.bool b)),(1,.d (.bool cr)),(2,.ptr 0 0),(5,.d (.sl (L.map cv2))),(71,.d (.sl (L.map cv2))),(72,.d (.int (L.map cv2).length)),(73,.d (.int i))],[oPA ⟨vr,ns,es⟩]⟩) (false) ?_ ?_|refine yz ?_|refine yi (cv2 x) hx ?_|refine qP (d:=79) rfl rfl rfl rfl rfl rfl b203 (hw1) ?_|refine yp b202 hk ?_|refine qP (d:=85) rfl rfl rfl rfl rfl rfl b203 (hw2) ?_|refine ac2 ⟨_,?_,(zle 1)⟩|(refine yy ?_ ?_<;>intro _))
        all_goals first|(refine ac2 ?_;exact⟨⟨i+1,by omega,ok⟩,by dsimp only;omega,(zle 1)⟩)|(clear hlg hpt hcp hcq hwv hk hw1 hw2 ok hbad h1 h2 hfit hft hnb hope hopn hok c1 c2 c3 c4;simp_all;done)
      ·have g5:decide ((i:Int)<((L.map cv2).length:Int))=false:=by rw[hlL];simp;omega
       rw[ga2 hge,gf9]at ok;rw[ok];simp only[cond_false]
       repeat'(refine yz ?_)
       clear ok hge hi g5;refine ac8 (α:=SEx L) (fun p=>⟨[(1,.d (.bool cr)),(2,.ptr 0 0),(10,.d (.bool p.g)),(89,.d (.sl (L.map cv2))),(90,.d (.int (L.map cv2).length)),(91,.d (.int p.i))],[oPA ⟨vr,ns,es⟩]⟩) (fun p=>L.length-p.i) ⟨0,by omega,false,rfl,by simp⟩ (zle 1) ?_;rintro⟨i,hi,g,ok,hg⟩;dsimp only at ok hg ⊢;rcases fy5 i L.length with hlt|hge
       ·have g5:decide ((i:Int)<((L.map cv2).length:Int))=true:=by rw[hlL];simpa using hlt
        have hx0:=fy4 hlt;generalize L[i]=x at hx0;have hx:=cz1 (f:=cv2) hx0;have hlp:(x.ps.map ct7).length=x.ps.length:=Oc
        have hxn:=hnb x (fy6 hx0);rw[cz0 hx0,dt2]at ok hg
        repeat'(first|refine yz ?_|refine yi (cv2 x) hx ?_)
        refine ac8 (α:=SEy L x i) (fun p=>⟨[(1,.d (.bool cr)),(2,.ptr 0 0),(10,.d (.bool p.g)),(89,.d (.sl (L.map cv2))),(90,.d (.int (L.map cv2).length)),(91,.d (.int i)),(96,.d (.sl (x.ps.map ct7))),(97,.d (.int (x.ps.map ct7).length)),(98,.d (.int p.j))],[oPA ⟨vr,ns,es⟩]⟩) (fun p=>x.ps.length-p.j) ⟨0,by omega,g,ok,hg⟩ (zle 1) ?_;clear ok hg g;rintro⟨j,hj,g,ok,hg⟩;dsimp only at ok hg ⊢;rcases fy5 j x.ps.length with hlt2|hge2
        ·have g6:decide ((j:Int)<((x.ps.map ct7).length:Int))=true:=by rw[hlp];simpa using hlt2
         have hq0:=fy4 hlt2;generalize x.ps[j]=q at hq0;have hq:=cz1 (f:=ct7) hq0;have hqe:=hope q.e (ds8 (fy6 hx0) (fy6 hq0));have hce:=ct6 q.e hqe.1 hqe.2;have hha:=db2 q.e;rw[cz0 hq0,fz7,gb4]at ok hg;rw[cv7]at ok;rw[ge0]at hg;obtain⟨key,qe⟩:=q;dsimp only at hce hha ok hg
         cases he:ct5 qe !=0 with
         |true=>
          rw[he,cond_true]at ok;rw[ok,he,cond_true]
          repeat'(first|refine yz ?_|refine yi (ct7 ⟨key,qe⟩) hq ?_|refine yp b61 hce ?_|exact zD)
         |false=>
          rw[he,cond_false]at ok
          cases g with
          |true=>
           repeat'(first|refine yz ?_|refine yi (ct7 ⟨key,qe⟩) hq ?_|refine yp b61 hce ?_)
           refine ac2 ?_;exact⟨⟨j+1,by omega,true,ok,by rw[hg];simp⟩,by dsimp only;omega,(zle 1)⟩
          |false=>
           repeat'(first|refine yz ?_|refine yi (ct7 ⟨key,qe⟩) hq ?_|refine yp b61 hce ?_|refine yp b63 hha ?_)
           refine ac2 ?_;exact⟨⟨j+1,by omega,cu5 qe,ok,by rw[hg];simp⟩,by dsimp only;omega,(zle 1)⟩
        ·have g6:decide ((j:Int)<((x.ps.map ct7).length:Int))=false:=by rw[hlp];simp;omega
         rw[ga2 hge2,gd8,gb7]at ok hg
         repeat'(refine yz ?_)
         refine ac2 ?_;exact⟨⟨i+1,by omega,g,ok,hg⟩,by dsimp only;omega,(zle 1)⟩
       ·have g5:decide ((i:Int)<((L.map cv2).length:Int))=false:=by rw[hlL];simp;omega
        rw[ga2 hge]at ok hg;have h0:cv7 (cv8 L)=0:=ok;have h1:(cv8 L).any cu5=g:=by rw[hg];simp[cv8]
        rw[h0,h1]
        cases g with
        |true=>
         exact Om
        |false=>
         cases cr with
         |false=>
          exact Om
         |true=>
          cases c9:es.any fun e=> !cv1 e with
          |true=>
           rw[c9]at hcq
           repeat'(first|refine yz ?_|refine qP (d:=123) rfl rfl rfl rfl rfl rfl bs5 (hcq) ?_|exact zD)
          |false=>
           rw[c9]at hcq
           repeat'(first|refine yz ?_|refine qP (d:=123) rfl rfl rfl rfl rfl rfl bs5 (hcq) ?_|exact zD)
theorem Le.same{C:Cx}{tm tm':List (Nat × X)}{ob:List aa5}(h:∀p∈tm',lk tm p.1=p.2):Le C ⟨tm,ob⟩ ⟨tm',ob⟩:=by
 rintro a w ⟨F,σ,h1,h2,h3,hi,h4,h5,hs⟩;refine⟨F,σ,h1,h2,h3,hi,h4,h5,fun t=>?_⟩
 have key:∀l:List (Nat × X),(∀p∈l,lk tm p.1=p.2)→lk l t=lk tm t∨lk l t=.top:=by
  intro l
  induction l with
  |nil=>exact fun _=>.inr rfl
  |cons p r ih=>
   intro hp;obtain⟨k,x⟩:=p;simp only[lk]
   cases hb:Nat.beq k t with
   |true=>
    obtain rfl:=fz8 hb;exact .inl (hp (k,x) Oc).symm
   |false=>exact ih fun q hq=>hp q (by simp[hq])
 rcases key tm' h with e|e
 ·show RdX w F σ (lk tm' t) _;rw[e];exact hs t
 ·show RdX w F σ (lk tm' t) _;rw[e];trivial
structure SPr(T:List Ex)(ns:List NP)(es:List EP) where
 i:Nat
 o:List Ex
 hi:i≤ns.length
 ok:T=o++cv8 (cv3 (ns.drop i) (es.drop i))
structure SPk(T:List Ex)(l:List PP)(rest:List Ex) where
 k:Nat
 o:List Ex
 hk:k≤l.length
 ok:T=o++((l.drop k).map (fun p=>p.e)++rest)
theorem dt4{ns:List NP}{es:List EP}{i:Nat}{x:NP}(hx:ns[i]? =some x):cv8 (cv3 (ns.drop i) (es.drop i))=x.ps.map (fun p=>p.e)++((match es[i]? with|some y=>y.ps.map (fun p=>p.e)|none=>[])++cv8 (cv3 (ns.drop (i+1)) (es.drop (i+1)))):=by
 rw[cz0 hx]
 cases hy:es[i]? with
 |none=>
  have hge:es.length≤i:=List.getElem?_eq_none_iff.1 hy;have he0:es.drop i=[]:=ga2 hge;have he1:es.drop (i+1)=[]:=ga2 Oa;rw[he0,he1,cv3,dt2];rfl
 |some y=>
  rw[cz0 hy,cv3,dt2,dt2];rfl
set_option maxHeartbeats 4000000 in
theorem dt5(p:PA)(hT:(cv8 (cv3 p.ns p.es)).length≤1000000)(hn:p.ns.length≤1000000):Ev E 33 [cu0 p] (.d (.sl ((cv8 (cv3 p.ns p.es)).map bz1))):=Ev.fit fun hfit=>by
 obtain⟨vr,ns,es⟩:=p;dsimp only at hn hT ⊢;have hft:=hfit (cu0 ⟨vr,ns,es⟩) Oc;have hme:=(cz2 (hft.aggs (.sl (es.map ct9)) Oc)).1;have hln:(ns.map ct8).length=ns.length:=Oc
 have hle:(es.map ct9).length=es.length:=Oc
 obtain⟨T,hTT⟩:∃T,cv8 (cv3 ns es)=T:=⟨_,rfl⟩;rw[hTT]at hT ⊢;refine ye1 func33 ntmps33 fun _ _ _=>?_
 repeat'(first|refine yz ?_|refine yx ?_|(refine yy ?_ ?_<;>intro _)|exact zD|exact zL)
 refine ac8 (α:=SPr T ns es) (fun p=>⟨[(3,bh5 1 (p.o.map bz1)),(1,.ptr 0 0),(4,.d (.int p.i))],[oPA ⟨vr,ns,es⟩]++ay0 33 9 (p.o.map bz1)⟩) (fun p=>ns.length-p.i) ⟨0,[],by omega,by rw[←hTT];simp⟩ (zle 1) ?_;rintro⟨i,o,hi,ok⟩;dsimp only at ok ⊢;have hol:(o.map bz1).length≤1000000:=by have:=congrArg List.length ok;rw[fy8]at this;rw[fz3];omega
 rcases fy5 i ns.length with hlt|hge
 ·have g1:decide ((i:Int)<((ns.map ct8).length:Int))=true:=by rw[hln];simpa using hlt
  have hx0:=fy4 hlt;generalize ns[i]=x at hx0;have hx:=cz1 (f:=ct8) hx0;rw[dt4 hx0]at ok;have hxl:(x.ps.map ct7).length=x.ps.length:=Oc
  have hmx:x.ps.length≤1000000:=by
   have:=congrArg List.length ok;simp only[fy8,fz3]at this;omega
  repeat'(first|refine yz ?_|refine yx ?_|(refine yy ?_ ?_<;>intro _)|exact zD|exact zL)
  refine ac8 (α:=SPk T x.ps ((match es[i]? with|some y=>y.ps.map (fun p=>p.e)|none=>[])++cv8 (cv3 (ns.drop (i+1)) (es.drop (i+1))))) (fun p=>⟨[(3,bh5 1 (p.o.map bz1)),(1,.ptr 0 0),(4,.d (.int i)),(5,.d (.int p.k))],[oPA ⟨vr,ns,es⟩]++ay0 33 9 (p.o.map bz1)⟩) (fun p=>x.ps.length-p.k) ⟨0,o,by omega,ok⟩ ((Le.same (by intro p hp;simp only[fz0,gf8,or_false]at hp;rcases hp with rfl|rfl|rfl|rfl<;>rfl))) ?_;clear ok;clear hol;clear o;rintro⟨k,o,hk,ok⟩;dsimp only at ok ⊢;have hol:(o.map bz1).length≤1000000:=by have:=congrArg List.length ok;rw[fy8]at this;rw[fz3];omega
  rcases fy5 k x.ps.length with hlt3|hge3
  ·have g7:decide ((k:Int)<((x.ps.map ct7).length:Int))=true:=by rw[fz3];simpa using hlt3
   have hq0:=fy4 hlt3;generalize x.ps[k]=q at hq0;have hq:=cz1 (f:=ct7) hq0;rw[cz0 hq0,fz7,gb4]at ok;have hnx:(o++ [q.e]).map bz1=o.map bz1++ [bz1 q.e]:=Oc
   have hok:T=(o++ [q.e])++((x.ps.drop (k+1)).map (fun p=>p.e)++((match es[i]? with|some y=>y.ps.map (fun p=>p.e)|none=>[])++cv8 (cv3 (ns.drop (i+1)) (es.drop (i+1))))):=by rw[ok];simp
   obtain⟨key,qe⟩:=q;dsimp only at hnx hok;generalize o.map bz1=oo at*
   match oo,hol with
   |[],hol=>
    dsimp only[bh5,ay0]
    repeat'(first|refine yz ?_|refine yi (ct8 x) hx ?_|refine yi (ct7 ⟨key,qe⟩) hq ?_|(refine qS rfl ⟨by simp,fun d hd=>by(obtain rfl:=ga4.1 hd;rfl),by(show(0+1)*120≤140737488355328;omega),by(show 0+1≤9223372036854775807;omega)⟩ ?_)|refine yx ?_|(refine yy ?_ ?_<;>intro _)|exact zD|exact zL)
    refine ac2 ?_;refine⟨⟨k+1,o++ [qe],by omega,hok⟩,by dsimp only;omega,?_⟩;dsimp only;rw[hnx];exact(bi7 [0,1])
   |a::r2,hol=>
    dsimp only[bh5,ay0];have hq2:(a::r2).length≤1000000:=hol
    repeat'(first|refine yz ?_|refine yi (ct8 x) hx ?_|refine yi (ct7 ⟨key,qe⟩) hq ?_|(refine qS rfl ⟨by simp,fun d hd=>by(obtain rfl:=ga4.1 hd;rfl),by(show((a::r2).length+1)*120≤140737488355328;omega),by(show(a::r2).length+1≤9223372036854775807;omega)⟩ ?_)|refine yx ?_|(refine yy ?_ ?_<;>intro _)|exact zD|exact zL)
    refine ac2 ?_;refine⟨⟨k+1,o++ [qe],by omega,hok⟩,by dsimp only;omega,?_⟩;dsimp only;rw[hnx];exact(bi7 [0,2])
  ·have g7:decide ((k:Int)<((x.ps.map ct7).length:Int))=false:=by rw[fz3];simp;omega
   rw[ga2 hge3,gd8,gb7]at ok;clear hge3 hk;rcases fy5 i es.length with hlt2|hge2
   ·have g2:decide ((i:Int)<((es.map ct9).length:Int))=true:=by rw[hle];simpa using hlt2
    have hy0:=fy4 hlt2;generalize es[i]=y at hy0;have hy:=cz1 (f:=ct9) hy0;rw[hy0]at ok;have hyl:(y.ps.map ct7).length=y.ps.length:=Oc
    have hmy:y.ps.length≤1000000:=by
     have:=congrArg List.length ok;simp only[fy8,fz3]at this;omega
    repeat'(first|refine yz ?_|refine yi (ct8 x) hx ?_|refine yx ?_|(refine yy ?_ ?_<;>intro _)|exact zD|exact zL)
    refine ac8 (α:=SPk T y.ps (cv8 (cv3 (ns.drop (i+1)) (es.drop (i+1))))) (fun p=>⟨[(3,bh5 1 (p.o.map bz1)),(1,.ptr 0 0),(4,.d (.int i)),(6,.d (.int p.k))],[oPA ⟨vr,ns,es⟩]++ay0 33 9 (p.o.map bz1)⟩) (fun p=>y.ps.length-p.k) ⟨0,o,by omega,ok⟩ ((Le.same (by intro p hp;simp only[fz0,gf8,or_false]at hp;rcases hp with rfl|rfl|rfl|rfl<;>rfl))) ?_;clear ok;clear hol;clear o;rintro⟨k,o,hk,ok⟩;dsimp only at ok ⊢;have hol:(o.map bz1).length≤1000000:=by have:=congrArg List.length ok;rw[fy8]at this;rw[fz3];omega
    rcases fy5 k y.ps.length with hlt3|hge3
    ·have g7:decide ((k:Int)<((y.ps.map ct7).length:Int))=true:=by rw[fz3];simpa using hlt3
     have hq0:=fy4 hlt3;generalize y.ps[k]=q at hq0;have hq:=cz1 (f:=ct7) hq0;rw[cz0 hq0,fz7,gb4]at ok;have hnx:(o++ [q.e]).map bz1=o.map bz1++ [bz1 q.e]:=Oc
     have hok:T=(o++ [q.e])++((y.ps.drop (k+1)).map (fun p=>p.e)++(cv8 (cv3 (ns.drop (i+1)) (es.drop (i+1))))):=by rw[ok];simp
     obtain⟨key,qe⟩:=q;dsimp only at hnx hok;generalize o.map bz1=oo at*
     match oo,hol with
     |[],hol=>
      dsimp only[bh5,ay0]
      repeat'(first|refine yz ?_|refine yi (ct9 y) hy ?_|refine yi (ct7 ⟨key,qe⟩) hq ?_|(refine qS rfl ⟨by simp,fun d hd=>by(obtain rfl:=ga4.1 hd;rfl),by(show(0+1)*120≤140737488355328;omega),by(show 0+1≤9223372036854775807;omega)⟩ ?_)|refine yx ?_|(refine yy ?_ ?_<;>intro _)|exact zD|exact zL)
      refine ac2 ?_;refine⟨⟨k+1,o++ [qe],by omega,hok⟩,by dsimp only;omega,?_⟩;dsimp only;rw[hnx];exact(bi7 [0,1])
     |a::r2,hol=>
      dsimp only[bh5,ay0];have hq2:(a::r2).length≤1000000:=hol
      repeat'(first|refine yz ?_|refine yi (ct9 y) hy ?_|refine yi (ct7 ⟨key,qe⟩) hq ?_|(refine qS rfl ⟨by simp,fun d hd=>by(obtain rfl:=ga4.1 hd;rfl),by(show((a::r2).length+1)*120≤140737488355328;omega),by(show(a::r2).length+1≤9223372036854775807;omega)⟩ ?_)|refine yx ?_|(refine yy ?_ ?_<;>intro _)|exact zD|exact zL)
      refine ac2 ?_;refine⟨⟨k+1,o++ [qe],by omega,hok⟩,by dsimp only;omega,?_⟩;dsimp only;rw[hnx];exact(bi7 [0,2])
    ·have g7:decide ((k:Int)<((y.ps.map ct7).length:Int))=false:=by rw[fz3];simp;omega
     rw[ga2 hge3,gd8,gb7]at ok;clear hge3 hk
     repeat'(first|refine yz ?_|refine yi (ct9 y) hy ?_|refine yx ?_|(refine yy ?_ ?_<;>intro _)|exact zD|exact zL)
     refine ac2 ?_;exact⟨⟨i+1,o,by omega,ok⟩,by dsimp only;omega,(Le.same (by intro p hp;simp only[fz0,gf8,or_false]at hp;rcases hp with rfl|rfl|rfl<;>rfl))⟩
   ·have g2:decide ((i:Int)<((es.map ct9).length:Int))=false:=by rw[hle];simp;omega
    rw[gc5 hge2,gb7]at ok
    repeat'(first|refine yz ?_|refine yi (ct8 x) hx ?_|refine yx ?_|(refine yy ?_ ?_<;>intro _)|exact zD|exact zL)
    refine ac2 ?_;exact⟨⟨i+1,o,by omega,ok⟩,by dsimp only;omega,(Le.same (by intro p hp;simp only[fz0,gf8,or_false]at hp;rcases hp with rfl|rfl|rfl<;>rfl))⟩
 ·have g1:decide ((i:Int)<((ns.map ct8).length:Int))=false:=by rw[hln];simp;omega
  rw[ga2 hge,cv3,show cv8 []=[]from rfl,ge7]at ok;rw[ok];generalize o.map bz1=oo at*
  match oo with
  |[]=>
   dsimp only[bh5,ay0]
   exact Om
  |a::q=>
   dsimp only[bh5,ay0];refine qA ?_;refine av3 1 rfl ?_
   exact Om
abbrev oEP(e:EP):aa5:=.var 76 (.w (.d (ct9 e)))
abbrev oNP(e:NP):aa5:=.var 78 (.w (.d (ct8 e)))
theorem dt6(e:Ex):Ev E 192 [bz1 e] (.d (.bool (cw0 e))):=by
 obtain⟨op,v,nm,ds,ks⟩:=e;have hb:=co2 v;have hk:=bz6 (.mk op v nm ds ks);simp only[Ex.ks]at hk;obtain⟨bv,hbv⟩:∃b,co1 v=b:=⟨_,rfl⟩;have hz:cw0 (.mk op v nm ds ks)=(op==0&&(bv&&(nm.toList==(⟨#[]⟩:ByteArray).toList&&(!ds&&ks.length==0)))):=by rw[←hbv];rfl
 rw[hbv]at hb;refine ye1 func192 ntmps192 fun _ _ _=>?_
 repeat'(first|refine yz ?_|refine yp b262 hb ?_|refine yx ?_|(refine yy ?_ ?_<;>intro _)|(refine qV rfl ?_ ?_<;>intro _)|exact zD|exact zL)
 all_goals(refine congrArg D.bool ?_;rw[hz];clear hz hb hbv;simp_all [Ex.op,Ex.nm,Ex.ds])
 all_goals(rw[gb5];simp)
 all_goals omega
theorem dt7(n:Int):Ev E 193 [.int n] (.d (.bool (cw1 n))):=by
 refine ye1 func193 ntmps193 fun _ _ _=>?_
 repeat'(first|refine yz ?_|refine yx ?_|(refine yy ?_ ?_<;>intro _)|(refine qV rfl ?_ ?_<;>intro _)|exact zD|exact zL)
 all_goals(refine congrArg D.bool ?_;simp_all [cw1])
theorem within_ev(n lo hi:Nat):Ev E 194 [.int n,.int lo,.int hi] (.d (.bool (inN n lo hi))):=by
 refine ye3 func194 ntmps194 fun _ _ _=>?_
 repeat'(first|refine yz ?_|refine yx ?_|(refine yy ?_ ?_<;>intro _)|(refine qV rfl ?_ ?_<;>intro _)|exact zD|exact zL)
 all_goals(refine congrArg D.bool ?_;simp_all [inN]<;>omega)
theorem dt8(v:V):Ev E 106 [enc v] (.d (.bool (co1 v))):=by
 obtain⟨k,n,d,s,l⟩:=v;have hk:=bp6 (.mk k n d s l);simp only[V.l]at hk;refine ye1 func106 ntmps106 fun _ _ _=>?_
 repeat'(first|refine yz ?_|(refine yy ?_ ?_<;>intro _))
 all_goals(refine congrArg D.bool ?_;unfold co1;simp_all [l0,s0])
 all_goals(rw[gb5];simp)
 all_goals omega
theorem dt9(e:Ex):Ev E 56 [bz1 e] (.d (.bool (cw0 e))):=by
 obtain⟨op,v,nm,ds,ks⟩:=e;have hb:=dt8 v;have hk:=bz6 (.mk op v nm ds ks);simp only[Ex.ks]at hk;obtain⟨bv,hbv⟩:∃b,co1 v=b:=⟨_,rfl⟩;have hz:cw0 (.mk op v nm ds ks)=(op==0&&(bv&&(nm.toList==(⟨#[]⟩:ByteArray).toList&&(!ds&&ks.length==0)))):=by rw[←hbv];rfl
 rw[hbv]at hb;refine ye1 func56 ntmps56 fun _ _ _=>?_
 repeat'(first|refine yz ?_|refine yp b106 hb ?_|(refine yy ?_ ?_<;>intro _))
 all_goals(refine congrArg D.bool ?_;rw[hz];clear hz hb hbv;simp_all [Ex.op,Ex.nm,Ex.ds])
 all_goals(rw[gb5];simp)
 all_goals omega
def du0(c:CL):Nat:=c.ps.length+c.wh.length+c.it.length+c.od.length+c.st.length+c.ns.length
theorem du1(c:CL):dp3 c=(c.k==0&&(!c.opt&&(!c.ds&&(du0 c==0&&(cw0 c.e&&(s0B c.nm&&(c.sk==0&&c.lm==0))))))):=by
 rw[gb5];unfold dp3 du0;simp only[fz4,beq_iff_eq,Bool.not_eq_true'];constructor
 ·rintro⟨h1,h2,h3,h4,h5,h6,h7,h8,h9,h10,h11,h12,h13⟩;exact⟨h1,h2,h3,by omega,h6,h7,h10,h11⟩
 ·rintro⟨h1,h2,h3,h4,h5,h6,h7,h8⟩;exact⟨h1,h2,h3,by omega,by omega,h5,h6,by omega,by omega,h7,h8,by omega,by omega⟩
set_option maxHeartbeats 2000000 in
theorem du2(c:CL)(hl:du0 c≤1000000000000):Ev E 55 [cu4 c] (.d (.bool (dp3 c))):=by
 have hb:=dt9 c.e;rw[du1];unfold du0 at*;obtain⟨k,opt,ds,ps,wh,e,nm,it,od,sk,lm,st,ns⟩:=c;simp only at hl hb ⊢;have l1:(ps.map cu0).length=ps.length:=Oc
 have l2:(bz0 wh).length=wh.length:=bz7 wh;have l3:(it.map cu1).length=it.length:=Oc
 have l4:(od.map cu2).length=od.length:=Oc
 have l5:(st.map cu3).length=st.length:=Oc
 have l6:(ns.map D.str).length=ns.length:=Oc
 obtain⟨ze,hze⟩:∃b,cw0 e=b:=⟨_,rfl⟩;rw[hze]at hb ⊢
 have hsum:(((ps.map cu0).length:Int)+((bz0 wh).length:Int)+((it.map cu1).length:Int)+((od.map cu2).length:Int)+((st.map cu3).length:Int)+((ns.map D.str).length:Int)==0)=(ps.length+wh.length+it.length+od.length+st.length+ns.length==0):=by
  rw[gb5,beq_iff_eq,beq_iff_eq];omega
 obtain⟨zs,hzs⟩:∃b,(ps.length+wh.length+it.length+od.length+st.length+ns.length==0)=b:=⟨_,rfl⟩;have hs0:(nm.toList==(⟨#[]⟩:ByteArray).toList)=s0B nm:=rfl;rw[hzs]at hsum ⊢;show Ev E 55 [.agg [.int k,.bool opt,.bool ds,.sl (ps.map cu0),.sl (bz0 wh),.int e.op,.int e.v.k,.int e.v.n,.int e.v.d,.str e.v.s,.sl (kids e.v),.str e.nm,.bool e.ds,.sl (by9 e),.str nm,.sl (it.map cu1),.sl (od.map cu2),.int sk,.int lm,.sl (st.map cu3),.sl (ns.map .str)]] _
 cases c1:k==0 with
 |false=>
  refine ye1 func55 ntmps55 fun _ _ _=>?_
  exact Om
 |true=>
 cases opt with
 |true=>
  refine ye1 func55 ntmps55 fun _ _ _=>?_
  exact Om
 |false=>
 cases ds with
 |true=>
  refine ye1 func55 ntmps55 fun _ _ _=>?_
  exact Om
 |false=>
 cases zs with
 |false=>
  refine ye1 func55 ntmps55 fun _ _ _=>?_
  exact Om
 |true=>
 cases ze with
 |false=>
  refine ye1 func55 ntmps55 fun _ _ _=>?_
  repeat'(first|refine yz ?_|refine yp b56 hb ?_|refine yx ?_|exact zD)
 |true=>
 cases c2:s0B nm with
 |false=>
  have g2:(nm.toList==(⟨#[]⟩:ByteArray).toList)=false:=c2;refine ye1 func55 ntmps55 fun _ _ _=>?_
  repeat'(first|refine yz ?_|refine yp b56 hb ?_|refine yx ?_|exact zD)
 |true=>
 have g2:(nm.toList==(⟨#[]⟩:ByteArray).toList)=true:=c2
 cases c3:sk==0 with
 |false=>
  refine ye1 func55 ntmps55 fun _ _ _=>?_
  repeat'(first|refine yz ?_|refine yp b56 hb ?_|refine yx ?_|exact zD)
 |true=>
  refine ye1 func55 ntmps55 fun _ _ _=>?_
  repeat'(first|refine yz ?_|refine yp b56 hb ?_|refine yx ?_|exact zD)
abbrev shP(k:Int)(a b c d e f g:Bool):D:=.agg [.int k,.bool a,.bool b,.bool c,.bool d,.bool e,.bool f,.bool g]
def du3(op:Int):D × Bool:=
 bif op==1 then(shP 0 false false false false false false false,true)else
 bif op==2 then(shP 0 true false false false false false false,true)else
 bif op==3||op==4 then(shP 2 false false false false false false false,true)else
 bif op==5 then(shP 1 false true false false false false false,true)else
 bif op==6 then(shP 1 false false true false false false false,true)else
 bif op==7||op==8 then(shP 1 false false false false true false false,true)else
 bif op==9 then(shP 1 false false false false false false false,true)else
 bif op==10 then(shP 1 false false false false false true false,true)else
 bif op==11 then(shP 1 false false true true false false false,true)else(shP 0 false false false false false false false,false)
theorem du4(op:Int):op=1∨op=2∨op=3∨op=4∨op=5∨op=6∨op=7∨op=8∨op=9∨op=10∨op=11∨
  ((op==1)=false∧(op==2)=false∧(op==3)=false∧(op==4)=false∧(op==5)=false∧(op==6)=false∧(op==7)=false∧(op==8)=false∧(op==9)=false∧(op==10)=false∧(op==11)=false):=by
 simp only[beq_eq_false_iff_ne];omega
theorem du5(op:Int):Ev E 54 [.int op] (.tup [(du3 op).1,.bool (du3 op).2]):=by
 unfold du3;rcases du4 op with rfl|rfl|rfl|rfl|rfl|rfl|rfl|rfl|rfl|rfl|rfl|⟨h1,h2,h3,h4,h5,h6,h7,h8,h9,h10,h11⟩
 all_goals(try rw[h1,h2,h3,h4,h5,h6,h7,h8,h9,h10,h11])
 all_goals
  refine ye1 func54 ntmps54 fun _ _ _=>?_
  exact Om
def FMp(op:Int)(b0 b1 b2 b3 b4 b5 b6 b7 b8 b9 b10 b11:Bool):Bool:=
 !b0&&(((op==2|| !b1) &&((bif op==5 then b9 else b2) &&((op==6||(op==11||b3)) &&((op==11|| !b4) &&(op==7||(op==8|| !b5)))))) &&(bif op==10 then b10&&b11 else b6&&(b7&&b8)))
theorem du6(b:PB)(n:Nat):dp5 b n=FMp b.op ((n:Int) !=dp2 b.op) (decide (((b.cj.vs.map D.str).length:Int)+((b.cj.as.map cj6).length:Int)>0)) (dp3 b.cl) (cw0 b.e) (!(s0B b.nm)) (decide (((b.it.map cu1).length:Int)>0)) (((b.od.map cu2).length:Int)==0) (b.sk==0) (b.lm==0) (b.cl.k==1) (decide (b.sk≥ -1)) (decide (b.lm≥ -1)):=by
 have e0:(dp2 b.op==(n:Int))= !((n:Int) !=dp2 b.op):=by rw[gb5];simp;exact⟨fun h=>h.symm,fun h=>h.symm⟩
 have e1:(b.cj.vs.length==0&&b.cj.as.length==0)= !(decide (((b.cj.vs.map D.str).length:Int)+((b.cj.as.map cj6).length:Int)>0)):=by
  rw[gb5];simp only[fz3,fz4,beq_iff_eq,Bool.not_eq_true',decide_eq_false_iff_not];omega
 have e2:(b.it.length==0)= !(decide (((b.it.map cu1).length:Int)>0)):=by
  rw[gb5];simp only[fz3,beq_iff_eq,Bool.not_eq_true',decide_eq_false_iff_not];omega
 have e3:(b.od.length==0)=(((b.od.map cu2).length:Int)==0):=by
  rw[gb5];simp only[fz3,beq_iff_eq];omega
 unfold dp5 fldF dp4 FMp;rw[e0,e1,e2,e3,Bool.not_not]
set_option maxHeartbeats 8000000 in
theorem du7(b:PB)(K:List D)(hK:K.length≤1000000000000)(h1:b.cj.vs.length+b.cj.as.length≤1000000000000)(h2:du0 b.cl≤1000000000000):Ev E 36 [do7 b K] (.d (.bool (dp5 b K.length))):=by
 have hs:=du5 b.op;have hb:=dt9 b.e;have hc:=du2 b.cl h2;rw[du6];obtain⟨op,cj,cl,e,nm,it,od,sk,lm⟩:=b;obtain⟨vs,as28⟩:=cj;obtain⟨ck,copt,cds,cps,cwh,ce,cnm,cit,cod,csk,clm,cst,cns⟩:=cl;simp only at hs hb hc h1 ⊢;have hlv:(vs.map D.str).length=vs.length:=Oc
 have hla:(as28.map cj6).length=as28.length:=Oc
 have g4:(!(nm.toList==(⟨#[]⟩:ByteArray).toList))= !(s0B nm):=rfl;generalize cw0 e=ze at*;generalize dp3 _=zc at*;generalize s0B nm=zn at*
 show Ev E 36 [.agg [.int op,.sl K,.sl (vs.map D.str),.sl (as28.map cj6),.int ck,.bool copt,.bool cds,.sl (cps.map cu0),.sl (bz0 cwh),.int ce.op,.int ce.v.k,.int ce.v.n,.int ce.v.d,.str ce.v.s,.sl (kids ce.v),.str ce.nm,.bool ce.ds,.sl (by9 ce),.str cnm,.sl (cit.map cu1),.sl (cod.map cu2),.int csk,.int clm,.sl (cst.map cu3),.sl (cns.map .str),
  .int e.op,.int e.v.k,.int e.v.n,.int e.v.d,.str e.v.s,.sl (kids e.v),.str e.nm,.bool e.ds,.sl (by9 e),.str nm,.sl (it.map cu1),.sl (od.map cu2),.int sk,.int lm]] _
 generalize vs.map D.str=LV at*;generalize as28.map cj6=LA at*;generalize it.map cu1=LI at*;generalize od.map cu2=LO at*;rcases du4 op with rfl|rfl|rfl|rfl|rfl|rfl|rfl|rfl|rfl|rfl|rfl|⟨q1,q2,q3,q4,q5,q6,q7,q8,q9,q10,q11⟩
 rotate_right
 ·have hk:dp2 op= -1:=by
   have:(decide (op≥5) &&decide (op≤11))=false:=by
    rw[Bool.and_eq_false_iff,decide_eq_false_iff_not,decide_eq_false_iff_not];simp only[beq_eq_false_iff_ne]at*;omega
   unfold dp2;rw[q1,q2,q3,q4,this];rfl
  have hn:((K.length:Int) !=dp2 op)=true:=by rw[hk,bne_iff_ne];omega
  have hf:(du3 op).2=false:=by unfold du3;rw[q1,q2,q3,q4,q5,q6,q7,q8,q9,q10,q11];rfl
  have hf1:(du3 op).1=shP 0 false false false false false false false:=by unfold du3;rw[q1,q2,q3,q4,q5,q6,q7,q8,q9,q10,q11];rfl
  rw[hf,hf1]at hs;rw[hn];show Ev E 36 _ (.d (.bool false));refine ye1 func36 ntmps36 fun _ _ _=>?_
  repeat'(first|refine yz ?_|refine yp b54 hs ?_|exact zD)
 ·have hs:Ev E 54 [.int 1] (.tup [shP 0 false false false false false false false,.bool true]):=hs;generalize hb0:((K.length:Int) !=dp2 1)=b0;generalize hb1:decide ((LV.length:Int)+(LA.length:Int)>0)=b1;generalize hb5:decide ((LI.length:Int)>0)=b5;generalize hb6:((LO.length:Int)==0)=b6;generalize hb7:(sk==0)=b7;generalize hb8:(lm==0)=b8;generalize hb9:(ck==1)=b9;generalize hb10:decide (sk≥ -1)=b10;generalize hb11:decide (lm≥ -1)=b11;have hb0:((K.length:Int) !=0)=b0:=hb0;refine ye1 func36 ntmps36 fun _ _ _=>?_
  repeat'(first|refine yz ?_|refine yp b54 hs ?_|refine yp b56 hb ?_|refine yp b55 hc ?_|(refine yy ?_ ?_<;>intro _)|(refine qV rfl ?_ ?_<;>intro _))
  all_goals(refine congrArg D.bool ?_;clear hs hb hc;subst hb7 hb8 hb9 hb10 hb11;simp_all [FMp]<;>omega)
 ·have hs:Ev E 54 [.int 2] (.tup [shP 0 true false false false false false false,.bool true]):=hs;generalize hb0:((K.length:Int) !=dp2 2)=b0;generalize hb1:decide ((LV.length:Int)+(LA.length:Int)>0)=b1;generalize hb5:decide ((LI.length:Int)>0)=b5;generalize hb6:((LO.length:Int)==0)=b6;generalize hb7:(sk==0)=b7;generalize hb8:(lm==0)=b8;generalize hb9:(ck==1)=b9;generalize hb10:decide (sk≥ -1)=b10;generalize hb11:decide (lm≥ -1)=b11;have hb0:((K.length:Int) !=0)=b0:=hb0;refine ye1 func36 ntmps36 fun _ _ _=>?_
  repeat'(first|refine yz ?_|refine yp b54 hs ?_|refine yp b56 hb ?_|refine yp b55 hc ?_|(refine yy ?_ ?_<;>intro _)|(refine qV rfl ?_ ?_<;>intro _))
  all_goals(refine congrArg D.bool ?_;clear hs hb hc;subst hb7 hb8 hb9 hb10 hb11;simp_all [FMp]<;>omega)
 ·have hs:Ev E 54 [.int 3] (.tup [shP 2 false false false false false false false,.bool true]):=hs;generalize hb0:((K.length:Int) !=dp2 3)=b0;generalize hb1:decide ((LV.length:Int)+(LA.length:Int)>0)=b1;generalize hb5:decide ((LI.length:Int)>0)=b5;generalize hb6:((LO.length:Int)==0)=b6;generalize hb7:(sk==0)=b7;generalize hb8:(lm==0)=b8;generalize hb9:(ck==1)=b9;generalize hb10:decide (sk≥ -1)=b10;generalize hb11:decide (lm≥ -1)=b11;have hb0:((K.length:Int) !=2)=b0:=hb0;refine ye1 func36 ntmps36 fun _ _ _=>?_
  repeat'(first|refine yz ?_|refine yp b54 hs ?_|refine yp b56 hb ?_|refine yp b55 hc ?_|(refine yy ?_ ?_<;>intro _)|(refine qV rfl ?_ ?_<;>intro _))
  all_goals(refine congrArg D.bool ?_;clear hs hb hc;subst hb7 hb8 hb9 hb10 hb11;simp_all [FMp]<;>omega)
 ·have hs:Ev E 54 [.int 4] (.tup [shP 2 false false false false false false false,.bool true]):=hs;generalize hb0:((K.length:Int) !=dp2 4)=b0;generalize hb1:decide ((LV.length:Int)+(LA.length:Int)>0)=b1;generalize hb5:decide ((LI.length:Int)>0)=b5;generalize hb6:((LO.length:Int)==0)=b6;generalize hb7:(sk==0)=b7;generalize hb8:(lm==0)=b8;generalize hb9:(ck==1)=b9;generalize hb10:decide (sk≥ -1)=b10;generalize hb11:decide (lm≥ -1)=b11;have hb0:((K.length:Int) !=2)=b0:=hb0;refine ye1 func36 ntmps36 fun _ _ _=>?_
  repeat'(first|refine yz ?_|refine yp b54 hs ?_|refine yp b56 hb ?_|refine yp b55 hc ?_|(refine yy ?_ ?_<;>intro _)|(refine qV rfl ?_ ?_<;>intro _))
  all_goals(refine congrArg D.bool ?_;clear hs hb hc;subst hb7 hb8 hb9 hb10 hb11;simp_all [FMp]<;>omega)
 ·have hs:Ev E 54 [.int 5] (.tup [shP 1 false true false false false false false,.bool true]):=hs;generalize hb0:((K.length:Int) !=dp2 5)=b0;generalize hb1:decide ((LV.length:Int)+(LA.length:Int)>0)=b1;generalize hb5:decide ((LI.length:Int)>0)=b5;generalize hb6:((LO.length:Int)==0)=b6;generalize hb7:(sk==0)=b7;generalize hb8:(lm==0)=b8;generalize hb9:(ck==1)=b9;generalize hb10:decide (sk≥ -1)=b10;generalize hb11:decide (lm≥ -1)=b11;have hb0:((K.length:Int) !=1)=b0:=hb0;refine ye1 func36 ntmps36 fun _ _ _=>?_
  repeat'(first|refine yz ?_|refine yp b54 hs ?_|refine yp b56 hb ?_|(refine yy ?_ ?_<;>intro _)|(refine qV rfl ?_ ?_<;>intro _))
  all_goals(refine congrArg D.bool ?_;clear hs hb hc;subst hb7 hb8 hb9 hb10 hb11;simp_all [FMp]<;>omega)
 ·have hs:Ev E 54 [.int 6] (.tup [shP 1 false false true false false false false,.bool true]):=hs;generalize hb0:((K.length:Int) !=dp2 6)=b0;generalize hb1:decide ((LV.length:Int)+(LA.length:Int)>0)=b1;generalize hb5:decide ((LI.length:Int)>0)=b5;generalize hb6:((LO.length:Int)==0)=b6;generalize hb7:(sk==0)=b7;generalize hb8:(lm==0)=b8;generalize hb9:(ck==1)=b9;generalize hb10:decide (sk≥ -1)=b10;generalize hb11:decide (lm≥ -1)=b11;have hb0:((K.length:Int) !=1)=b0:=hb0;refine ye1 func36 ntmps36 fun _ _ _=>?_
  repeat'(first|refine yz ?_|refine yp b54 hs ?_|refine yp b55 hc ?_|(refine yy ?_ ?_<;>intro _)|(refine qV rfl ?_ ?_<;>intro _))
  all_goals(refine congrArg D.bool ?_;clear hs hb hc;subst hb7 hb8 hb9 hb10 hb11;simp_all [FMp]<;>omega)
 ·have hs:Ev E 54 [.int 7] (.tup [shP 1 false false false false true false false,.bool true]):=hs;generalize hb0:((K.length:Int) !=dp2 7)=b0;generalize hb1:decide ((LV.length:Int)+(LA.length:Int)>0)=b1;generalize hb5:decide ((LI.length:Int)>0)=b5;generalize hb6:((LO.length:Int)==0)=b6;generalize hb7:(sk==0)=b7;generalize hb8:(lm==0)=b8;generalize hb9:(ck==1)=b9;generalize hb10:decide (sk≥ -1)=b10;generalize hb11:decide (lm≥ -1)=b11;have hb0:((K.length:Int) !=1)=b0:=hb0;refine ye1 func36 ntmps36 fun _ _ _=>?_
  repeat'(first|refine yz ?_|refine yp b54 hs ?_|refine yp b56 hb ?_|refine yp b55 hc ?_|(refine yy ?_ ?_<;>intro _)|(refine qV rfl ?_ ?_<;>intro _))
  all_goals(refine congrArg D.bool ?_;clear hs hb hc;subst hb7 hb8 hb9 hb10 hb11;simp_all [FMp]<;>omega)
 ·have hs:Ev E 54 [.int 8] (.tup [shP 1 false false false false true false false,.bool true]):=hs;generalize hb0:((K.length:Int) !=dp2 8)=b0;generalize hb1:decide ((LV.length:Int)+(LA.length:Int)>0)=b1;generalize hb5:decide ((LI.length:Int)>0)=b5;generalize hb6:((LO.length:Int)==0)=b6;generalize hb7:(sk==0)=b7;generalize hb8:(lm==0)=b8;generalize hb9:(ck==1)=b9;generalize hb10:decide (sk≥ -1)=b10;generalize hb11:decide (lm≥ -1)=b11;have hb0:((K.length:Int) !=1)=b0:=hb0;refine ye1 func36 ntmps36 fun _ _ _=>?_
  repeat'(first|refine yz ?_|refine yp b54 hs ?_|refine yp b56 hb ?_|refine yp b55 hc ?_|(refine yy ?_ ?_<;>intro _)|(refine qV rfl ?_ ?_<;>intro _))
  all_goals(refine congrArg D.bool ?_;clear hs hb hc;subst hb7 hb8 hb9 hb10 hb11;simp_all [FMp]<;>omega)
 ·have hs:Ev E 54 [.int 9] (.tup [shP 1 false false false false false false false,.bool true]):=hs;generalize hb0:((K.length:Int) !=dp2 9)=b0;generalize hb1:decide ((LV.length:Int)+(LA.length:Int)>0)=b1;generalize hb5:decide ((LI.length:Int)>0)=b5;generalize hb6:((LO.length:Int)==0)=b6;generalize hb7:(sk==0)=b7;generalize hb8:(lm==0)=b8;generalize hb9:(ck==1)=b9;generalize hb10:decide (sk≥ -1)=b10;generalize hb11:decide (lm≥ -1)=b11;have hb0:((K.length:Int) !=1)=b0:=hb0;refine ye1 func36 ntmps36 fun _ _ _=>?_
  repeat'(first|refine yz ?_|refine yp b54 hs ?_|refine yp b56 hb ?_|refine yp b55 hc ?_|(refine yy ?_ ?_<;>intro _)|(refine qV rfl ?_ ?_<;>intro _))
  all_goals(refine congrArg D.bool ?_;clear hs hb hc;subst hb7 hb8 hb9 hb10 hb11;simp_all [FMp]<;>omega)
 ·have hs:Ev E 54 [.int 10] (.tup [shP 1 false false false false false true false,.bool true]):=hs;generalize hb0:((K.length:Int) !=dp2 10)=b0;generalize hb1:decide ((LV.length:Int)+(LA.length:Int)>0)=b1;generalize hb5:decide ((LI.length:Int)>0)=b5;generalize hb6:((LO.length:Int)==0)=b6;generalize hb7:(sk==0)=b7;generalize hb8:(lm==0)=b8;generalize hb9:(ck==1)=b9;generalize hb10:decide (sk≥ -1)=b10;generalize hb11:decide (lm≥ -1)=b11;have hb0:((K.length:Int) !=1)=b0:=hb0;refine ye1 func36 ntmps36 fun _ _ _=>?_
  repeat'(first|refine yz ?_|refine yp b54 hs ?_|refine yp b56 hb ?_|refine yp b55 hc ?_|(refine yy ?_ ?_<;>intro _)|(refine qV rfl ?_ ?_<;>intro _))
  all_goals(refine congrArg D.bool ?_;clear hs hb hc;subst hb7 hb8 hb9 hb10 hb11;simp_all [FMp]<;>omega)
 ·have hs:Ev E 54 [.int 11] (.tup [shP 1 false false true true false false false,.bool true]):=hs;generalize hb0:((K.length:Int) !=dp2 11)=b0;generalize hb1:decide ((LV.length:Int)+(LA.length:Int)>0)=b1;generalize hb5:decide ((LI.length:Int)>0)=b5;generalize hb6:((LO.length:Int)==0)=b6;generalize hb7:(sk==0)=b7;generalize hb8:(lm==0)=b8;generalize hb9:(ck==1)=b9;generalize hb10:decide (sk≥ -1)=b10;generalize hb11:decide (lm≥ -1)=b11;have hb0:((K.length:Int) !=1)=b0:=hb0;refine ye1 func36 ntmps36 fun _ _ _=>?_
  repeat'(first|refine yz ?_|refine yp b54 hs ?_|refine yp b55 hc ?_|(refine yy ?_ ?_<;>intro _)|(refine qV rfl ?_ ?_<;>intro _))
  all_goals(refine congrArg D.bool ?_;clear hs hb hc;subst hb7 hb8 hb9 hb10 hb11;simp_all [FMp]<;>omega)
end Go.Proofs.YtndgolmgaenlfaaGreatDoor
namespace Go.Proofs.YtndgolmgaenlfaaGreatDoor
set_option maxRecDepth 4000
open Go Go.Abs Go.Val Go.RowKit Go.Shelf Go.Proofs.Tryz
def du8(s:ByteArray):Ex:=.mk 2 bq3 s false []
theorem du9(s:ByteArray):dp (du8 s)=1:=by rw[du8,cp5];rfl
theorem dv0(s:ByteArray):nd (du8 s)=1:=by rw[du8,cp0];rfl
theorem dv1(s:ByteArray):(ct5 (du8 s)==0)=cs4 s:=by
 have h1:ct5 (du8 s)=cs9 (du8 s) false:=by
  unfold ct5;rw[show decide (dp (du8 s)>24)=false by rw[decide_eq_false_iff_not];have:=du9 s;omega,show decide (nd (du8 s)>300)=false by rw[decide_eq_false_iff_not];have:=dv0 s;omega];rfl
 have h2:cs8 (du8 s) false=bif !(cs4 s)then 6 else 0:=by
  unfold cs8
  rw[show((decide ((du8 s).op<1)||decide ((du8 s).op>24))||(!co3 (du8 s)|| !co6 (du8 s)))=false by
   show((false||false)||(!(kn0 (du8 s)==0)|| !((false||co1 bq3) &&((co5 2||isS s ⟨#[]⟩) &&(false|| !false)))))=false;rw[show(kn0 (du8 s)==0)=true from rfl,show co1 bq3=true from by decide+kernel,show co5 2=true from rfl];rfl]
  rfl
 rw[h1];show(cs9 (.mk 2 bq3 s false []) false==0)=_;rw[cs9];show((bif cs8 (du8 s) false !=0 then cs8 (du8 s) false else ct0 [] _)==0)=_;rw[h2]
 cases cs4 s<;>rfl
def dv2(r:Nat):Bool:=decide (r<48)||decide (r>57)
theorem dv3{p:Nat→Bool}(hp:∀r,128≤r→p r=true)(s:ByteArray):∀(f pos:Nat),s.size≤pos+f→(decide (Lib.idxFuncFrom p true s f pos<0))=(s.data.toList.drop pos).all fun b=> !(p b.toNat)
 |0,pos,h=>by
  have hlen:s.data.toList.length=s.size:=Oc
  have:s.data.toList.drop pos=[]:=ga2 Oa;rw[this];simp[Lib.idxFuncFrom]
 |f+1,pos,h=>by
  have hlen:s.data.toList.length=s.size:=Oc
  unfold Lib.idxFuncFrom
  by_cases hps:pos<s.size
  ·rw[if_pos hps];have hx:=fy4 (show pos<s.data.toList.length by omega);generalize s.data.toList[pos]=b at hx;rw[bv7 hx,ge6];obtain⟨d1,d2⟩:=by1 s pos b (by2 hx)
   by_cases hb:b.toNat<128
   ·rw[d1 hb];simp only[]
    cases hbad:p b.toNat with
    |true=>rw[if_pos rfl];simp
    |false=>rw[if_neg Oc,dv3 hp s f (pos+1) Oa];simp
   ·have h128:=d2 Oa;have hbad:p (Utf8.decode s pos).1=true:=hp _ h128;rw[hbad,if_pos rfl,hp b.toNat Oa];simp
  ·rw[if_neg hps];have:s.data.toList.drop pos=[]:=ga2 Oa;rw[this];simp
theorem dv4(w:World):PredAt Tryz.prog 115 #[] encR dv2 w:=fun W r _=>by
 unfold FnGives
 by_cases h1:r<48<;>by_cases h2:r>57
 all_goals
  have z1:(r:Int)<48↔r<48:=Oa
  have z2:(57:Int)<(r:Int)↔r>57:=Oa
  go_enter func115,ntmps115
  go_wp2
  all_goals first|(exfalso;omega)|(go_ret;exact⟨by simp[dv2,h1,h2],0,rfl⟩)
theorem dv5(s:ByteArray):Ev E 114 [.str s,.imm (.func (.func 115) #[] #[])] (.d (.bool (!(s.data.toList.all fun b=> !(dv2 b.toNat))))):=by
 refine bx6 rfl fun w F _ _ _=>?_
 refine(Tryz.strings_ContainsFunc 115 #[] (enters_of func115 Ob rfl) dv2 s w (dv4 w)).mono ?_;rintro e w' ⟨rfl,hb⟩;refine⟨?_,hb⟩;have h:=dv3 (p:=dv2) (fun r hr=>by unfold dv2;simp;omega) s s.size 0 Oa;rw[gh6]at h;rw[←h];congr 2;unfold Lib.idxFunc;rw[gb5];simp
attribute [local irreducible] go SGo an9 Ev aw1 EvO EvS RGo
theorem dv6(s:ByteArray):Ev E 58 [.str s] (.d (.bool (cs4 s))):=by
 have h:=ct6 (du8 s) (by rw[du9];decide) (by rw[dv0];decide);have hc:=dv1 s;generalize ct5 (du8 s)=z at*;rw[←hc];refine ye1 func58 ntmps58 fun _ _ _=>?_
 repeat'(first|refine yz ?_|refine yp b61 h ?_|exact zD)
theorem dv7(s:ByteArray):Ev E 59 [.str s] (.d (.bool (dp6 s))):=by
 have hsz:s.data.toList.length=s.size:=Oc
 unfold dp6
 match hs:s.data.toList with
 |[]=>
  rw[hs]at hsz;have g1:decide ((s.size:Int)<2)=true:=by simp only[fz2]at hsz;simp;omega
  refine ye1 func59 ntmps59 fun _ _ _=>?_
  exact Om
 |[_]=>
  rw[hs]at hsz;have g1:decide ((s.size:Int)<2)=true:=by simp only[fy7,fz2]at hsz;simp;omega
  refine ye1 func59 ntmps59 fun _ _ _=>?_
  exact Om
 |a::b::r=>
  rw[hs]at hsz;simp only[fy7]at hsz;have g1:decide ((s.size:Int)<2)=false:=Og
  have hb0:ag5 s (0:Int).toNat=(a.toNat:Int):=by unfold ag5;rw[hs];rfl
  have hb1:ag5 s (1:Int).toNat=(b.toNat:Int):=by unfold ag5;rw[hs];rfl
  have ha:(ag5 s (0:Int).toNat !=95)= !(a==95):=by
   rw[hb0,gb5,bne_iff_ne,Bool.not_eq_true',beq_eq_false_iff_ne];exact⟨fun h e=>h (by rw[e];rfl),fun h e=>h (UInt8.toNat_inj.1 (by simpa using(by omega:a.toNat=95)))⟩
  have hb:(ag5 s (1:Int).toNat==48)=(b==48):=by
   rw[hb1,gb5,beq_iff_eq,beq_iff_eq];exact⟨fun h=>UInt8.toNat_inj.1 (by simpa using(by omega:b.toNat=48)),fun e=>by rw[e];rfl⟩
  have hx:(s.extract (1:Int).toNat s.size).data.toList=b::r:=by
   have:(s.extract (1:Int).toNat s.size).data.toList=s.data.toList.drop 1:=by
    simp;exact ga3 Oc
   rw[this,hs];rfl
  have hR:=dv5 (s.extract (1:Int).toNat s.size);rw[hx]at hR
  have hall:((b::r).all fun c=> !(dv2 c.toNat))=(b::r).all fun c=>decide (48≤c) &&decide (c≤57):=by
   congr 1
   funext c
   unfold dv2;rw[gb5];simp only[Bool.not_eq_true',gb3,decide_eq_false_iff_not,fz4,decide_eq_true_eq,UInt8.le_iff_toNat_le];show _↔48≤c.toNat∧c.toNat≤57;omega
  rw[hall]at hR;show Ev E 59 [.str s] (.d (.bool (a==95&&(b !=48&&(b::r).all fun c=>decide (48≤c) &&decide (c≤57)))));generalize((b::r).all fun c=>decide (48≤c) &&decide (c≤57))=al at*;have hbn:(b !=48)= !(b==48):=rfl;rw[hbn]
  cases c1:a==95 with
  |false=>
   rw[c1]at ha;refine ye1 func59 ntmps59 fun _ _ _=>?_
   exact Om
  |true=>
   rw[c1]at ha
   cases c2:b==48 with
   |true=>
    rw[c2]at hb;refine ye1 func59 ntmps59 fun _ _ _=>?_
    exact Om
   |false=>
    rw[c2]at hb;rw[gd1,gf3,gd1,←Bool.not_not al];refine ye1 func59 ntmps59 fun _ _ _=>?_
    repeat'(first|refine yz ?_|refine yp b114 hR ?_|(refine qS rfl ⟨⟨by omega,by omega⟩,trivial⟩ ?_)|refine yx ?_|exact zD)
end Go.Proofs.YtndgolmgaenlfaaGreatDoor
namespace Go.Proofs.YtndgolmgaenlfaaGreatDoor
set_option maxRecDepth 4000
open Go Go.Abs Go.Val Go.Proofs.Tryz
attribute [local irreducible] go SGo an9 Ev aw1 EvO EvS PGo RGo dj5
open Go.RowKit
structure SMk(ats:List AT)(n:Nat) where
 i:Nat
 f:Nat→Bool
 hi:i≤ats.length
 hf:∀j,f j=dm6 (ats.take i) j
 ok:ats.any (fun a=> !dm4 a)=(ats.drop i).any fun a=> !dm4 a
structure SMv(ats:List AT)(a:AT)(i:Nat) where
 k:Nat
 f:Nat→Bool
 hk:k≤a.vs.length
 hf:∀j:Nat,f j=(dm6 (ats.take i) j||(a.vs.take k).any fun y=>y==(j:Int))
theorem dv8{ats:List AT}{n:Int}(h:ats.any (dn6 n)=false){i:Nat}{a:AT}(ha:ats[i]? =some a):dn6 n a=false:=by
 have:=gb9.1 h a (fy6 ha);simpa using this
theorem dv9{n:Int}{a:AT}(h:dn6 n a=false){k:Nat}{y:Int}(hy:a.vs[k]? =some y):0≤y∧y<n:=by
 unfold dn6 at h;rw[gb3]at h;obtain⟨h1,h2⟩:=h;obtain⟨-,-,h3⟩:=do5 (a:=a) (by simpa using h1);have h4:=gb9.1 h3 y (fy6 hy);have h5:=gb9.1 h2 y (fy6 hy);simp at h4 h5;omega
set_option maxHeartbeats 2000000 in
theorem dw0(c:CJ):Ev E 57 [cj7 c] (.d (.int (dn8 c))):=Ev.fit fun hfit=>by
 obtain⟨vs,ats⟩:=c;have hft:=hfit (cj7 ⟨vs,ats⟩) Oc;obtain⟨hmv,hev⟩:=by7 (hft.aggs (.sl (vs.map .str)) Oc);obtain⟨hma,hea⟩:=by7 (hft.aggs (.sl (ats.map cj6)) Oc);have hlv:(vs.map D.str).length=vs.length:=Oc
 have hla:(ats.map cj6).length=ats.length:=Oc
 unfold dn8;dsimp only
 cases hbig:decide (vs.length>24)||decide (ats.length>12)with
 |true=>
  have hb1:(decide (((vs.map D.str).length:Int)>24)=true)∨(decide (((vs.map D.str).length:Int)>24)=false∧decide (((ats.map cj6).length:Int)>12)=true):=by
   rw[hlv,hla];simp at hbig ⊢;omega
  rcases hb1 with g1|⟨g1,g2⟩
  ·refine ye1 func57 ntmps57 fun _ _ _=>?_
   exact Om
  ·refine ye1 func57 ntmps57 fun _ _ _=>?_
   exact Om
 |false=>
  rw[gb3]at hbig;have hsm:vs.length≤24:=by have:=hbig.1;simp at this;omega
  have g1:decide (((vs.map D.str).length:Int)>24)=false:=by rw[hlv];simp;omega
  have g2:decide (((ats.map cj6).length:Int)>12)=false:=by rw[hla];have:=hbig.2;simp at this ⊢;omega
  simp only[cond_false];refine ye1 func57 ntmps57 fun _ _ _=>?_
  repeat'(first|refine yz ?_|refine yx ?_)
  refine ac8 (α:=SNo ats (dn6 vs.length)) (fun p=>⟨[(1,.ptr 0 0),(22,.d (.sl (ats.map cj6))),(23,.d (.int (ats.map cj6).length)),(24,.d (.int p.i))],[oCJ ⟨vs,ats⟩]⟩) (fun p=>ats.length-p.i) ⟨0,by omega,rfl⟩ (zle 1) ?_;rintro⟨i,hi,ok⟩;dsimp only at ok ⊢;rcases fy5 i ats.length with hlt|hge
  ·have g3:decide ((i:Int)<((ats.map cj6).length:Int))=true:=by rw[hla];simpa using hlt
   have hx0:=fy4 hlt;generalize ats[i]=a at hx0;have hx:=by6 (f:=cj6) hx0;have hs:=dl7 a;rw[dm7 hx0]at ok
   cases c1:dl6 a with
   |false=>
    rw[c1]at hs;rw[show dn6 vs.length a=true by unfold dn6;rw[c1];rfl]at ok;rw[ok]
    repeat'(first|refine yz ?_|refine yi (cj6 a) hx ?_|refine yp b107 hs ?_|exact zD)
   |true=>
    rw[c1]at hs;obtain⟨ha1,ha2,ha3⟩:=do5 c1;obtain⟨k,ws,nm,ty,v⟩:=a;dsimp only at ha1 ha2 ha3;obtain⟨x,r,rfl⟩:=gj2 (fun h:ws=[]=>by rw[h]at ha1;simp at ha1;omega);have hm:=dl0 x r;have hmg:=dl2 vs.length r x;have hb:dn6 vs.length ⟨k,x::r,nm,ty,v⟩=decide (r.foldl max x≥vs.length):=by unfold dn6;rw[c1,hmg];rfl
    rw[hb]at ok
    cases c2:decide (r.foldl max x≥(vs.length:Int))with
    |true=>
     have g4:decide (r.foldl max x≥((vs.map D.str).length:Int))=true:=by rw[hlv];exact c2
     rw[c2]at ok;rw[ok]
     repeat'(first|refine yz ?_|refine yi (cj6 ⟨k,x::r,nm,ty,v⟩) hx ?_|refine yp b107 hs ?_|refine yp b108 hm ?_|exact zD)
    |false=>
     have g4:decide (r.foldl max x≥((vs.map D.str).length:Int))=false:=by rw[hlv];exact c2
     rw[c2]at ok
     repeat'(first|refine yz ?_|refine yi (cj6 ⟨k,x::r,nm,ty,v⟩) hx ?_|refine yp b107 hs ?_|refine yp b108 hm ?_)
     refine ac2 ?_;exact⟨⟨i+1,by omega,by rw[ok];rfl⟩,by dsimp only;omega,(zle 1)⟩
  ·have g3:decide ((i:Int)<((ats.map cj6).length:Int))=false:=by rw[hla];simp;omega
   rw[ga2 hge,gf9]at ok;rw[ok];simp only[cond_false]
   by_cases hne:vs=[]
   ·subst hne
    have hat:ats=[]:=by
     cases ats with
     |nil=>rfl
     |cons a r=>
      have hb:=dv8 ok (i:=0) (a:=a) rfl;have hb':=hb;unfold dn6 at hb';rw[gb3]at hb';obtain⟨h1,h2,-⟩:=do5 (a:=a) (by simpa using hb'.1);obtain⟨x,hx⟩:∃x,a.vs[0]? =some x:=⟨_,fy4 Oa⟩;have:=dv9 hb hx;simp at this;omega
    subst hat;have hcb:=dm9 [] false
    repeat'(first|(refine bj5 5 rfl ?_)|refine yz ?_|refine yc [] b110 (dk6 []) ?_|refine yc [1] b109 (dn0) ?_|refine yp b111 dn1 ?_)
    refine ac8 (α:=Unit) (fun _=>⟨[(1,.ptr 0 0),(6,.own 2),(57,.d (.sl [])),(58,.d (.int 0)),(59,.d (.int 0))],[oCJ ⟨[],[]⟩,cl8 [],.row 4 1 (bL [])]⟩) (fun _=>0) () (zle 3) ?_;rintro-;have g6:decide ((0:Int)<0)=false:=rfl
    repeat'(first|(refine av3 2 rfl ?_;dsimp only[as7,as6,as9,as8,List.map,List.set])|refine yz ?_|refine yp b113 hcb ?_|exact zD)
   ·have hz:∀z∈sortU (cl9 vs),z.length≤maxLen:=by
     intro z hz;have hz':z∈cl9 vs:=(List.mergeSort_perm _ _).mem_iff.1 hz;obtain⟨s,hs,rfl⟩:=ga1.1 hz';exact(hev s hs).str
    have hso:=cm5 vs hne Oa;have hco:=cm7 (sortU (cl9 vs)) hz;have htw:=dn5 vs
    cases c3:twF vs with
    |true=>
     rw[c3]at htw
     repeat'(first|refine bj2 (id:=10) [1] [2] Ob Ob Oj ?_|refine reF (id:=10) (i:=0) 1 Ob rfl ?_|refine reF (id:=10) (i:=2) 1 Ob rfl ?_|(refine reV (id:=10) (i:=3) rfl rfl rfl rfl rfl rfl ?_ ?_;(first|exact True.intro|rfl|assumption|omega|(simp only[inR];omega)|((show _≤(9223372036854775807:Nat));(try simp only[ByteArray.size_append]);omega)|exact av7 Oa Oa|exact av8 Oa Oa|exact⟨rfl,by decide,by decide⟩))|(refine reV (id:=10) (i:=4) rfl rfl rfl rfl rfl rfl ?_ ?_;(first|exact True.intro|rfl|assumption|omega|(simp only[inR];omega)|((show _≤(9223372036854775807:Nat));(try simp only[ByteArray.size_append]);omega)|exact av7 Oa Oa|exact av8 Oa Oa|exact⟨rfl,by decide,by decide⟩))|(refine reV (id:=10) (i:=5) rfl rfl rfl rfl rfl rfl ?_ ?_;(first|exact True.intro|rfl|assumption|omega|(simp only[inR];omega)|((show _≤(9223372036854775807:Nat));(try simp only[ByteArray.size_append]);omega)|exact av7 Oa Oa|exact av8 Oa Oa|exact⟨rfl,by decide,by decide⟩))|refine reF (id:=10) (i:=6) 1 Ob rfl ?_|refine reN ?_|refine yz ?_|refine yc [] b110 (dk6 vs) ?_|refine yc [1] b109 (hso) ?_|refine bk3 [2] (id:=10) (i:=1) rfl rfl rfl rfl rfl (FnX.plain _) b111 (hco) rfl rfl rfl rfl rfl Oj ?_|exact zD)
    |false=>
     rw[c3]at htw;simp only[cond_false];have hmz:List.replicate (vs.map D.str).length (D.bool false)=bL (dn7 vs.length fun _=>false):=by rw[hlv];exact do2 vs.length
     repeat'(first|refine bj2 (id:=10) [1] [2] Ob Ob Oj ?_|refine reF (id:=10) (i:=0) 1 Ob rfl ?_|refine reF (id:=10) (i:=2) 1 Ob rfl ?_|(refine reV (id:=10) (i:=3) rfl rfl rfl rfl rfl rfl ?_ ?_;(first|exact True.intro|rfl|assumption|omega|(simp only[inR];omega)|((show _≤(9223372036854775807:Nat));(try simp only[ByteArray.size_append]);omega)|exact av7 Oa Oa|exact av8 Oa Oa|exact⟨rfl,by decide,by decide⟩))|(refine reV (id:=10) (i:=4) rfl rfl rfl rfl rfl rfl ?_ ?_;(first|exact True.intro|rfl|assumption|omega|(simp only[inR];omega)|((show _≤(9223372036854775807:Nat));(try simp only[ByteArray.size_append]);omega)|exact av7 Oa Oa|exact av8 Oa Oa|exact⟨rfl,by decide,by decide⟩))|(refine reV (id:=10) (i:=5) rfl rfl rfl rfl rfl rfl ?_ ?_;(first|exact True.intro|rfl|assumption|omega|(simp only[inR];omega)|((show _≤(9223372036854775807:Nat));(try simp only[ByteArray.size_append]);omega)|exact av7 Oa Oa|exact av8 Oa Oa|exact⟨rfl,by decide,by decide⟩))|refine reF (id:=10) (i:=6) 1 Ob rfl ?_|refine reN ?_|refine yz ?_|refine yc [] b110 (dk6 vs) ?_|refine yc [1] b109 (hso) ?_|refine bk3 [2] (id:=10) (i:=1) rfl rfl rfl rfl rfl (FnX.plain _) b111 (hco) rfl rfl rfl rfl rfl Oj ?_|(refine qS rfl ⟨rfl,by(show 1*(vs.map D.str).length≤281474976710656;rw[hlv];omega),by(show(vs.map D.str).length≤_;rw[hlv];omega)⟩ ?_))
     refine ac8 (α:=SMk ats vs.length) (fun p=>⟨[(1,.ptr 0 0),(6,.own 4),(57,.d (.sl (ats.map cj6))),(58,.d (.int (ats.map cj6).length)),(59,.d (.int p.i))],[oCJ ⟨vs,ats⟩,cl8 vs,.dead,.row 9 1 (cm0 (Lib.compact (sortU (cl9 vs)))),.row 4 1 (bL (dn7 vs.length p.f))]⟩) (fun p=>ats.length-p.i) ⟨0,fun _=>false,by omega,fun _=>rfl,rfl⟩ (by rw[←hmz];exact(zle 5)) ?_;rintro⟨j,f,hj,hf,ok2⟩;dsimp only at hf ok2 ⊢;rcases fy5 j ats.length with hlt2|hge2
     ·have g4:decide ((j:Int)<((ats.map cj6).length:Int))=true:=by rw[hla];simpa using hlt2
      have hx0:=fy4 hlt2;generalize ats[j]=a at hx0;have hx:=by6 (f:=cj6) hx0;have hn:=dm5 a;have hbd:=dv8 ok hx0;have hmw:=(by7 ((hea a (fy6 hx0)).aggs (cj5 a.vs) Oc)).1;have hlw:=cl4 a.vs;rw[dm7 hx0]at ok2
      cases c1:dm4 a with
      |false=>
       rw[c1]at hn ok2;rw[ok2]
       repeat'(first|refine yz ?_|refine yi (cj6 a) hx ?_|refine yp b112 hn ?_|exact zD)
      |true=>
       rw[c1]at hn ok2
       repeat'(first|refine yz ?_|refine yi (cj6 a) hx ?_|refine yp b112 hn ?_)
       refine ac8 (α:=SMv ats a j) (fun p=>⟨[(1,.ptr 0 0),(6,.own 4),(57,.d (.sl (ats.map cj6))),(58,.d (.int (ats.map cj6).length)),(59,.d (.int j)),(67,.d (.sl (iL a.vs))),(68,.d (.int (iL a.vs).length)),(69,.d (.int p.k))],[oCJ ⟨vs,ats⟩,cl8 vs,.dead,.row 9 1 (cm0 (Lib.compact (sortU (cl9 vs)))),.row 4 1 (bL (dn7 vs.length p.f))]⟩) (fun p=>a.vs.length-p.k) ⟨0,f,by omega,fun x=>by rw[hf x];simp⟩ (zle 5) ?_;rintro⟨k,f2,hk,hf2⟩;dsimp only at hf2 ⊢;rcases fy5 k a.vs.length with hlt3|hge3
       ·have g5:decide ((k:Int)<((iL a.vs).length:Int))=true:=by rw[hlw];simpa using hlt3
        have hy0:=fy4 hlt3;generalize a.vs[k]=y at hy0;have hy:=cl6 hy0;obtain⟨hy1,hy2⟩:=dv9 hbd hy0;have hlm:(bL (dn7 vs.length f2)).length=vs.length:=by simp[bL,dn7]
        have hgt:=do0 vs.length f2 y hy1 hy2;have hms:=dn9 vs.length f2 y hy1 hy2
        repeat'(first|refine yz ?_|refine yi (.int y) hy ?_|refine qZ (.bool (f2 y.toNat)) rfl rfl rfl rfl rfl rfl hgt rfl rfl rfl ?_)
        refine ac2 ?_;refine⟨⟨k+1,fun x=>f2 x||y==(x:Int),by omega,fun x=>?_⟩,by dsimp only;omega,by rw[←hms];exact(zle 5)⟩;rw[hf2 x,do4 hy0,gh4]
       ·have g5:decide ((k:Int)<((iL a.vs).length:Int))=false:=by rw[hlw];simp;omega
        repeat'(refine yz ?_)
        refine ac2 ?_;refine⟨⟨j+1,f2,by omega,fun x=>?_,by rw[ok2];rfl⟩,by dsimp only;omega,(zle 5)⟩;rw[hf2 x,do3 hx0,ga3 hge3]
     ·have g4:decide ((j:Int)<((ats.map cj6).length:Int))=false:=by rw[hla];simp;omega
      rw[ga2 hge2,gf9]at ok2;rw[ok2];simp only[cond_false];have hcb:=dm9 (dn7 vs.length f) false;rw[do1]at hcb
      have hff:f=fun x:Nat=>dm6 ats (x:Int):=by
       funext x
       rw[hf x,ga3 hge2]
      rw[hff]at hcb ⊢
      cases c5:(List.range vs.length).any fun j=> !dm6 ats j with
      |true=>
       rw[c5]at hcb
       repeat'(first|(refine av3 4 rfl ?_;dsimp only[as7,as6,as9,as8,List.map,List.set])|refine yz ?_|refine yp b113 hcb ?_|exact zD)
      |false=>
       rw[c5]at hcb
       repeat'(first|(refine av3 4 rfl ?_;dsimp only[as7,as6,as9,as8,List.map,List.set])|refine yz ?_|refine yp b113 hcb ?_|exact zD)
end Go.Proofs.YtndgolmgaenlfaaGreatDoor
namespace Go.Proofs.YtndgolmgaenlfaaGreatDoor
set_option maxRecDepth 4000
open Go Go.Abs Go.Val Go.RowKit Go.Sort Go.Proofs Go.Proofs.Tryz
theorem dw1{f:FuncId}{ds xs es:List D}{e:TypeId}{size:Nat}{u:Value}(h:Ev E f (ds++ .sl xs::es) (.d (.imm u))):EvS E f (ds.map .d++ .own 0::es.map .d) [.row e size xs] (.d (.imm u)) [.row e size xs]:=by
 intro w F σ vs hi hl hr;have hlen:vs.length=ds.length+1+es.length:=by simp at hl;omega
 obtain⟨v,hv⟩:∃v,vs[ds.length]? =some v:=⟨_,fy4 Oa⟩;obtain⟨b,c,n,e1,rfl⟩:=hr ds.length (.own 0) v (by rw[ga7 Oc];simp) hv;obtain⟨cs,g1,g2,g3,g4,g5,g6,g7,g8,g9,g10⟩:=hi.obs 0 _ _ rfl e1;have hbl:b<w.heap.size:=(gh1.1 g1).1
 have hnew:Rd w (fun i=>F i∨i=b) (.sl xs) (.slice (some ⟨b,0,none⟩) n c):=by
  have hex:∀i j,∃u,∀x cd,xs[i]? =some x→x.cells[j]? =some cd→cs[i*size+j]? =some u∧Rd w F cd u:=by
   intro i j
   cases hx:xs[i]? with
   |none=>exact⟨undef,fun x cd h=>by cases h⟩
   |some x=>
    cases hc:x.cells[j]? with
    |none=>exact⟨undef,fun x' cd h h'=>by cases h;rw[hc]at h';cases h'⟩
    |some cd=>
     obtain⟨u,e1,e2⟩:=g8 i x j cd hx hc;exact⟨u,fun x' cd' h h'=>by cases h;rw[hc]at h';cases h';exact⟨e1,e2⟩⟩
  rw[g3];refine .sl size xs ⟨b,0,none⟩ c (fun i j=>Classical.choose (hex i j)) Oa g5 (fun _=>.inr rfl) g6 g7 (fun i x j cd hx hc=>?_) (fun i x j cd hx hc=>?_)
  ·have:=(Classical.choose_spec (hex i j) x cd hx hc).1;rw[aa2,gc3];unfold World.cell?;simp only[g1];simpa using this
  ·exact(Classical.choose_spec (hex i j) x cd hx hc).2.mono (fun _ h=>.inl h) fun _ _=>rfl
 refine(h w (fun i=>F i∨i=b) vs (fun k hk=>?_) (hi.glob.mono (fun _ h=>.inl h) fun _ _=>rfl) Og fun i d v' hd hv'=>?_).mono ?_
 ·rcases hk with hk|rfl
  ·exact hi.flt k hk
  ·exact hbl
 ·rcases fy5 i ds.length with hlt|hge
  ·rw[ga0 hlt]at hd;exact Rd.mono (hr i (.d d) v' (by rw[ga0 (by simpa using hlt),fz1,hd];rfl) hv') (fun _ h=>.inl h) fun _ _=>rfl
  ·rw[ga7 hge]at hd;rcases gh7 (i-ds.length)with h0|h0
   ·have h1:i=ds.length:=by omega
    subst h1;rw[Nat.sub_self]at hd
    cases hd
    rw[hv]at hv'
    cases hv'
    exact hnew
   ·obtain⟨m,hm⟩:∃m,i-ds.length=m+1:=⟨i-ds.length-1,by omega⟩;rw[hm,gj5]at hd;exact Rd.mono (hr i (.d d) v' (by rw[ga7 (by simpa using hge),fz3,hm,gj5,fz1,hd];rfl) hv') (fun _ h=>.inl h) fun _ _=>rfl
 ·rintro ev w' ⟨v',F',rfl,hext,hrd⟩;have hb:=hext.below;obtain⟨rfl,hok⟩:=Rd.imm_inv (show Rd w' F' (.imm u) v' from hrd);exact⟨_,F,σ,rfl,aa7.of_below hb fun k hk=>hk.1,fun _ h=>h,fun _ h=>.inl h,fun i p _ hp=>hp,(ab2.lend hi).ext (Ext.of_below hb hi.flt),Rd.imm _ hok⟩
end Go.Proofs.YtndgolmgaenlfaaGreatDoor
namespace Go.Proofs.YtndgolmgaenlfaaGreatDoor
set_option maxRecDepth 4000
open Go Go.Abs Go.Val Go.Proofs.Tryz
attribute [local irreducible] go SGo an9 Ev aw1 EvO EvS
theorem dw2:Ev E 45 [.sl []] (.d (.sl [])):=by
 refine ye1 func45 ntmps45 fun _ _ _=>?_
 repeat'(first|refine yz ?_|(refine ay1 rfl (fun _=>?_) ?_)|refine ay8 rfl rfl rfl rfl rfl rfl rfl rfl ?_|refine yx ?_|(refine yy ?_ ?_<;>intro _)|exact zD|exact zL)
theorem dw3(l:List ByteArray)(h0:l≠ [])(hn:l.length≤2000000):EvO E 45 [.sl (l.map .str)] 9 1 (l.map .str):=by
 have hle:(l.map D.str).length=l.length:=Oc
 have hne:l.map D.str≠ []:=by simpa using h0
 have hc:∀d∈l.map D.str,d.cells.length=1:=fun d hd=>by
  obtain⟨u,-,rfl⟩:=ga1.1 hd;rfl
 generalize l.map D.str=xs at*;refine ay9 func45 ntmps45 rfl rfl fun w0 F0 O=>?_
 repeat'(first|refine ay5 rfl rfl rfl rfl rfl rfl rfl Od Od ?_|refine yz ?_|(refine ay1 rfl (fun h=>absurd h hne) ?_)|refine yx ?_|(refine yy ?_ ?_<;>intro _)|exact zD|exact zL)
 refine qS rfl ⟨hne,hc,by(show(0+xs.length)*16≤140737488355328;omega),by(show 0+xs.length≤9223372036854775807;omega)⟩ ?_
 exact Om
theorem dw4(l:List ByteArray)(hn:l.length≤2000000):Ev E 45 [.sl (l.map .str)] (.d (.sl (l.map .str))):=by
 by_cases h0:l=[]
 ·subst h0;exact dw2
 ·exact(dw3 l h0 hn).ev
end Go.Proofs.YtndgolmgaenlfaaGreatDoor
