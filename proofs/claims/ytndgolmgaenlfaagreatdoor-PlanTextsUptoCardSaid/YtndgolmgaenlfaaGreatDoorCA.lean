/- As each says. -/
import Derived.Test.YtndgolmgaenlfaaGreatDoorFB
import Derived.Test.YtndgolmgaenlfaaGreatDoorMA
import Derived.Test.YtndgolmgaenlfaaGreatDoorGC
import Derived.Test.YtndgolmgaenlfaaGreatDoorLA
set_option linter.unusedVariables false
set_option linter.unusedSimpArgs false
namespace Go.Proofs.YtndgolmgaenlfaaGreatDoor
set_option maxRecDepth 4000
open Go Go.Abs Go.Val Go.RowKit Go.Proofs.Tryz
attribute [local irreducible] go SGo an1 Ev au8 EvO EvS RGo
abbrev oPA(p:PA):aa5:=.var 69 (.w (.d (cp4 p)))
structure SPa(ns:List NP)(es:List EP) where
 i:Nat
 o:List PT
 hi:i≤ns.length
 ho:o.length≤2*i
 ok:cq8 ns es=o++cq8 (ns.drop i) (es.drop i)
set_option maxHeartbeats 4000000 in
theorem dr4(p:PA)(hn:p.ns.length≤1000000):Ev E 199 [cp4 p] (.d (.sl ((cq8 p.ns p.es).map cq7))):=Ev.fit fun hfit=>by
 obtain⟨vr,ns,es⟩:=p;dsimp only at hn ⊢;have hft:=hfit (cp4 ⟨vr,ns,es⟩) Oc;have hme:=(cv4 (hft.aggs (.sl (es.map cp3)) Oc)).1;have hln:(ns.map cp2).length=ns.length:=Oc
 have hle:(es.map cp3).length=es.length:=Oc
 refine ye1 func199 ntmps199 fun _ _ _=>?_
 repeat'(first|refine yz ?_|refine yx ?_|(refine yy ?_ ?_<;>intro _)|exact zD|exact zL)
 refine ac7 (α:=SPa ns es) (fun p=>⟨[(3,bf9 1 (p.o.map cq7)),(1,.ptr 0 0),(7,.d (.sl (ns.map cp2))),(8,.d (.int (ns.map cp2).length)),(9,.d (.int p.i))],[oPA ⟨vr,ns,es⟩]++aw7 211 3 (p.o.map cq7)⟩) (fun p=>ns.length-p.i) ⟨0,[],by omega,by simp,by simp⟩ (zle 1) ?_;rintro⟨i,o,hi,ho,ok⟩;dsimp only at ho ok ⊢;have hol:(o.map cq7).length≤2000000:=Og
 rcases fp2 i ns.length with hlt|hge
 ·have g1:decide ((i:Int)<((ns.map cp2).length:Int))=true:=by rw[hln];simpa using hlt
  have hx0:=fp1 hlt;generalize ns[i]=x at hx0;have hx:=cv3 (f:=cp2) hx0;rw[cv2 hx0]at ok;rcases fp2 i es.length with hlt2|hge2
  ·have g2:decide ((i:Int)<((es.map cp3).length:Int))=true:=by rw[hle];simpa using hlt2
   have hy0:=fp1 hlt2;generalize es[i]=y at hy0;have hy:=cv3 (f:=cp3) hy0;rw[cv2 hy0,cq8]at ok;have hnx:(o++ [ptN x,ptE y]).map cq7=o.map cq7++ [cq7 (ptN x)]++ [cq7 (ptE y)]:=Oc
   have hok:cq8 ns es=(o++ [ptN x,ptE y])++cq8 (ns.drop (i+1)) (es.drop (i+1)):=by rw[ok];simp
   have hon:(o++ [ptN x,ptE y]).length≤2*(i+1):=Og
   generalize o.map cq7=oo at*
   match oo,hol with
   |[],hol=>
    dsimp only[bf9,aw7]
    repeat'(first|refine yq 7 [21] ?_|refine yf 7 0 21 ?_|refine yw ?_|refine yf 7 22 1 ?_|refine rgN ?_|refine yv ?_|refine yz ?_|refine yi (cp2 x) hx ?_|refine yi (cp3 y) hy ?_|refine rgS (id:=7) (i:=21) rfl rfl rfl rfl (⟨by simp,fun d hd=>by(obtain rfl:=fq2.1 hd;rfl),by(show(1+1)*64≤140737488355328;omega),by(show 1+1≤9223372036854775807;omega)⟩) Oj ?_|(refine qS rfl ⟨by simp,fun d hd=>by(obtain rfl:=fq2.1 hd;rfl),by(show(0+1)*64≤140737488355328;omega),by(show 0+1≤9223372036854775807;omega)⟩ ?_)|refine yx ?_|(refine yy ?_ ?_<;>intro _)|exact zD|exact zL)
    refine ac1 ?_;refine⟨⟨i+1,o++ [ptN x,ptE y],by omega,hon,hok⟩,by dsimp only;omega,?_⟩;dsimp only;rw[hnx];exact(bh0 [0,3])
   |a::q,hol=>
    dsimp only[bf9,aw7];have hq2:(a::q++ [cq7 (ptN x)]).length≤2000001:=by rw[fp4];exact Nat.add_le_add_right hol 1
    repeat'(first|refine yq 7 [21] ?_|refine yf 7 0 21 ?_|refine yw ?_|refine yf 7 22 1 ?_|refine rgN ?_|refine yv ?_|refine yz ?_|refine yi (cp2 x) hx ?_|refine yi (cp3 y) hy ?_|refine rgS (id:=7) (i:=21) rfl rfl rfl rfl (⟨by simp,fun d hd=>by(obtain rfl:=fq2.1 hd;rfl),by(show((a::q++ [cq7 (ptN x)]).length+1)*64≤140737488355328;omega),by(show(a::q++ [cq7 (ptN x)]).length+1≤9223372036854775807;omega)⟩) Oj ?_|(refine qS rfl ⟨by simp,fun d hd=>by(obtain rfl:=fq2.1 hd;rfl),by(show((a::q).length+1)*64≤140737488355328;omega),by(show(a::q).length+1≤9223372036854775807;omega)⟩ ?_)|refine yx ?_|(refine yy ?_ ?_<;>intro _)|exact zD|exact zL)
    refine ac1 ?_;refine⟨⟨i+1,o++ [ptN x,ptE y],by omega,hon,hok⟩,by dsimp only;omega,?_⟩;dsimp only;rw[hnx];exact(bh0 [0,4])
  ·have g2:decide ((i:Int)<((es.map cp3).length:Int))=false:=by rw[hle];simp;omega
   have he0:es.drop i=[]:=fp8 hge2;have he1:es.drop (i+1)=[]:=fp8 Oa;rw[he0,cq8]at ok;have hnx:(o++ [ptN x]).map cq7=o.map cq7++ [cq7 (ptN x)]:=Oc
   have hok:cq8 ns es=(o++ [ptN x])++cq8 (ns.drop (i+1)) (es.drop (i+1)):=by rw[ok,he1];simp
   have hon:(o++ [ptN x]).length≤2*(i+1):=Og
   generalize o.map cq7=oo at*
   match oo,hol with
   |[],hol=>
    dsimp only[bf9,aw7]
    repeat'(first|refine yz ?_|refine yi (cp2 x) hx ?_|(refine qS rfl ⟨by simp,fun d hd=>by(obtain rfl:=fq2.1 hd;rfl),by(show(0+1)*64≤140737488355328;omega),by(show 0+1≤9223372036854775807;omega)⟩ ?_)|refine yx ?_|(refine yy ?_ ?_<;>intro _)|exact zD|exact zL)
    refine ac1 ?_;refine⟨⟨i+1,o++ [ptN x],by omega,hon,hok⟩,by dsimp only;omega,?_⟩;dsimp only;rw[hnx];exact(bh0 [0,2])
   |a::q,hol=>
    dsimp only[bf9,aw7]
    repeat'(first|refine yz ?_|refine yi (cp2 x) hx ?_|(refine qS rfl ⟨by simp,fun d hd=>by(obtain rfl:=fq2.1 hd;rfl),by(show((a::q).length+1)*64≤140737488355328;omega),by(show(a::q).length+1≤9223372036854775807;omega)⟩ ?_)|refine yx ?_|(refine yy ?_ ?_<;>intro _)|exact zD|exact zL)
    refine ac1 ?_;refine⟨⟨i+1,o++ [ptN x],by omega,hon,hok⟩,by dsimp only;omega,?_⟩;dsimp only;rw[hnx];exact(bh0 [0,3])
 ·have g1:decide ((i:Int)<((ns.map cp2).length:Int))=false:=by rw[hln];simp;omega
  rw[fp8 hge,cq8,fv3]at ok;rw[ok];generalize o.map cq7=oo at*
  match oo with
  |[]=>
   dsimp only[bf9,aw7]
   exact Ok
  |a::q=>
   dsimp only[bf9,aw7];refine qA ?_;refine au2 1 rfl ?_
   exact Ok
def dr5(e:Ex):Prop:=dp e≤1000000∧nd e≤1000000
structure OkPA(p:PA):Prop where
 n:p.ns.length≤1000000
 x:(cr3 (cq8 p.ns p.es)).length≤1000000
 e:∀e∈cr3 (cq8 p.ns p.es),dr5 e
theorem dr6{L:List PT}{x:PT}{q:PP}(hx:x∈L)(hq:q∈x.ps):q.e∈cr3 L:=fw3.2 ⟨x,hx,fq8.2 ⟨q,hq,rfl⟩⟩
theorem dr7{x:PT}:∀{L:List PT},x∈L→x.ps.length≤(cr3 L).length
 |y::r,h=>by
  have e:cr3 (y::r)=y.ps.map (fun p=>p.e)++cr3 r:=by unfold cr3;rw[fs2]
  rw[e,fp4,fp6];rcases fq1.1 h with rfl|h
  ·omega
  ·have:=dr7 h;omega
theorem dr8:∀(ns:List NP) (es:List EP),(cq8 ns es).length≤2*ns.length
 |[],es=>by cases es<;>simp[cq8]
 |n::r,[]=>by
  have:=dr8 r [];simp[cq8];omega
 |n::r,e::q=>by
  have:=dr8 r q;simp[cq8];omega
structure SNc{α:Type}(l:List α)(f:α→Bool) where
 i:Nat
 hi:i≤l.length
 ok:l.any f=(l.drop i).any f
theorem dr9{α:Type}{l:List α}{f:α→Bool}{i:Nat}{x:α}(h:l[i]? =some x):(l.drop i).any f=(f x||(l.drop (i+1)).any f):=by rw[cv2 h,ft8]
theorem ds0(x:PT)(r:List PT):cr3 (x::r)=x.ps.map (fun p=>p.e)++cr3 r:=by unfold cr3;rw[fs2]
structure SEx(L:List PT) where
 i:Nat
 hi:i≤L.length
 g:Bool
 ok:cr2 (cr3 L)=cr2 (cr3 (L.drop i))
 hg:(cr3 L).any cp9=(g||(cr3 (L.drop i)).any cp9)
structure SEy(L:List PT)(x:PT)(i:Nat) where
 j:Nat
 hj:j≤x.ps.length
 g:Bool
 ok:cr2 (cr3 L)=cr2 ((x.ps.drop j).map (fun p=>p.e)++cr3 (L.drop (i+1)))
 hg:(cr3 L).any cp9=(g||((x.ps.drop j).map (fun p=>p.e)++cr3 (L.drop (i+1))).any cp9)
set_option maxHeartbeats 4000000 in
theorem ds1(p:PA)(cr:Bool)(hok:OkPA p):Ev E 126 [cp4 p,.bool cr] (.d (.int (cr4 p cr))):=Ev.fit fun hfit=>by
 have hlg:=cy2 p;have hpt:=dr4 p hok.n;have hwv:=cn6 p.vr;have hcp:=cw4 197 b197 (fun e=> !cq5 e) p.es fun e _=>cx7 e
 have hcq:=cw4 204 b204 (fun e=> !cq6 e) p.es fun e _=>cx8 e
 have hLl:(cq8 p.ns p.es).length≤2000000:=fs8 (dr8 _ _) (by have:=hok.n;omega);have hopn:=hok.x;have hope:=hok.e;unfold cr4;generalize cq8 p.ns p.es=L at*;obtain⟨vr,ns,es⟩:=p;dsimp only at hwv hcp hcq ⊢;have hft:=hfit (cp4 ⟨vr,ns,es⟩) Oc;have hmn:=(cv4 (hft.aggs (.sl (ns.map cp2)) Oc)).1;have hme:=(cv4 (hft.aggs (.sl (es.map cp3)) Oc)).1;have hln:(ns.map cp2).length=ns.length:=Oc
 have hle:(es.map cp3).length=es.length:=Oc
 have hlL:(L.map cq7).length=L.length:=Oc
 cases c1:cq4 ⟨vr,ns,es⟩with
 |true=>
  rw[c1]at hlg;refine ye2 func126 ntmps126 fun _ _ _=>?_
  repeat'(first|refine yz ?_|refine yp br0 hlg ?_|exact zD)
 |false=>
  have h6:es.length≤6:=by
   unfold cq4 at c1;dsimp only at c1;rw[ft4,ft4]at c1;have:=c1.1.2;simp at this;omega
  rw[c1]at hlg;simp only[cond_false]
  cases c2:ns.length !=es.length+1 with
  |true=>
   have g2:(((ns.map cp2).length:Int) !=((es.map cp3).length:Int)+1)=true:=by rw[hln,hle];simp at c2 ⊢;omega
   refine ye2 func126 ntmps126 fun _ _ _=>?_
   repeat'(first|refine yz ?_|refine yp br0 hlg ?_|refine yx ?_|exact zD)
  |false=>
   have g2:(((ns.map cp2).length:Int) !=((es.map cp3).length:Int)+1)=false:=by rw[hln,hle];simp at c2 ⊢;omega
   cases c3:es.any fun e=> !cq5 e with
   |true=>
    rw[c3]at hcp;refine ye2 func126 ntmps126 fun _ _ _=>?_
    repeat'(first|refine yz ?_|refine yp br0 hlg ?_|refine qP (d:=29) rfl rfl rfl rfl rfl rfl br1 (hcp) ?_|refine yx ?_|exact zD)
   |false=>
    rw[c3]at hcp;simp only[cond_false,fs4];have hsv:s0B vr=(vr.toList==(⟨#[]⟩:ByteArray).toList):=rfl
    cases c4:cq9 vr with
    |false=>
     refine ye2 func126 ntmps126 fun _ _ _=>?_
     repeat'(first|refine bd3 6 (fun b=>⟨[(41,.d (.bool b)),(1,.d (.bool cr)),(2,.ptr 0 0),(5,.d (.sl (L.map cq7)))],[oPA ⟨vr,ns,es⟩]⟩) (true) ?_ ?_|refine yz ?_|refine yp br0 hlg ?_|refine qP (d:=29) rfl rfl rfl rfl rfl rfl br1 (hcp) ?_|refine yp b199 hpt ?_|refine yp br2 hwv ?_|refine ac1 ⟨_,?_,(zle 1)⟩|refine yx ?_|(refine yy ?_ ?_<;>intro _)|exact zD)
     all_goals(clear hlg hpt hcp hcq hwv;simp_all [cq9])
    |true=>
     rw[fu7,fs4];refine ye2 func126 ntmps126 fun _ _ _=>?_
     repeat'(first|refine bd3 6 (fun b=>⟨[(41,.d (.bool b)),(1,.d (.bool cr)),(2,.ptr 0 0),(5,.d (.sl (L.map cq7)))],[oPA ⟨vr,ns,es⟩]⟩) (false) ?_ ?_|refine yz ?_|refine yp br0 hlg ?_|refine qP (d:=29) rfl rfl rfl rfl rfl rfl br1 (hcp) ?_|refine yp b199 hpt ?_|refine yp br2 hwv ?_|refine ac1 ⟨_,?_,(zle 1)⟩|refine yx ?_|(refine yy ?_ ?_<;>intro _))
     rotate_left
     all_goals first|(clear hlg hpt hcp hcq hwv;simp_all [cq9];done)|skip
     have hnb:∀x∈L,x.ps.length≤1000000:=fun x hx=>fs8 (dr7 hx) hopn
     refine ac7 (α:=SNc L cr0) (fun p=>⟨[(1,.d (.bool cr)),(2,.ptr 0 0),(5,.d (.sl (L.map cq7))),(42,.d (.sl (L.map cq7))),(43,.d (.int (L.map cq7).length)),(44,.d (.int p.i))],[oPA ⟨vr,ns,es⟩]⟩) (fun p=>L.length-p.i) ⟨0,by omega,rfl⟩ (zle 1) ?_;rintro⟨i,hi,ok⟩;dsimp only at ok ⊢;rcases fp2 i L.length with hlt|hge
     ·have g5:decide ((i:Int)<((L.map cq7).length:Int))=true:=by rw[hlL];simpa using hlt
      have hx0:=fp1 hlt;generalize L[i]=x at hx0;have hx:=cv3 (f:=cq7) hx0;have hk:=cy0 x.ps (hnb x (fp3 hx0));have hw0:=cn6 x.nm;have hw1:=cx1 x.ns;have hw2:=cx1 (cq0 x.ps);obtain⟨a0,h0⟩:∃b,cn4 x.nm=b:=⟨_,rfl⟩;obtain⟨a1,h1⟩:∃b,x.ns.all cn4=b:=⟨_,rfl⟩;obtain⟨a2,h2⟩:∃b,(cq0 x.ps).all cn4=b:=⟨_,rfl⟩;have hbad:cr0 x=(!((x.nm.toList==(⟨#[]⟩:ByteArray).toList)||a0)||(!a1|| !a2)):=by rw[←h0,←h1,←h2];rfl
      rw[h0]at hw0;rw[h1]at hw1;rw[h2]at hw2;rw[dr9 hx0,hbad]at ok
      cases hb:(!((x.nm.toList==(⟨#[]⟩:ByteArray).toList)||a0)||(!a1|| !a2))with
      |true=>
       rw[hb,fx6]at ok;rw[ok]
       repeat'(first|refine bd3 11 (fun b=>⟨[(69,.d (.bool b))],[oPA ⟨vr,ns,es⟩]⟩) (true) ?_ ?_|refine yz ?_|refine yi (cq7 x) hx ?_|refine yp br2 hw0 ?_|refine qP (d:=60) rfl rfl rfl rfl rfl rfl b201 (hw1) ?_|refine yp b202 hk ?_|refine qP (d:=67) rfl rfl rfl rfl rfl rfl b201 (hw2) ?_|refine ac1 ⟨_,?_,(zle 1)⟩|(refine yy ?_ ?_<;>intro _)|exact zD)
       all_goals(clear hlg hpt hcp hcq hwv hk hw0 hw1 hw2 ok hbad h0 h1 h2 hfit hft hnb hope hopn hok c1 c2 c3 c4;simp_all)
      |false=>
       rw[hb,fs4]at ok
       repeat'(first|refine bd3 11 (fun b=>⟨[(69,.d (.bool b)),(1,.d (.bool cr)),(2,.ptr 0 0),(5,.d (.sl (L.map cq7))),(42,.d (.sl (L.map cq7))),(43,.d (.int (L.map cq7).length)),(44,.d (.int i))],[oPA ⟨vr,ns,es⟩]⟩) (false) ?_ ?_|refine yz ?_|refine yi (cq7 x) hx ?_|refine yp br2 hw0 ?_|refine qP (d:=60) rfl rfl rfl rfl rfl rfl b201 (hw1) ?_|refine yp b202 hk ?_|refine qP (d:=67) rfl rfl rfl rfl rfl rfl b201 (hw2) ?_|refine ac1 ⟨_,?_,(zle 1)⟩|(refine yy ?_ ?_<;>intro _))
       all_goals first|(refine ac1 ?_;exact⟨⟨i+1,by omega,ok⟩,by dsimp only;omega,(zle 1)⟩)|(clear hlg hpt hcp hcq hwv hk hw0 hw1 hw2 ok hbad h0 h1 h2 hfit hft hnb hope hopn hok c1 c2 c3 c4;simp_all;done)
     ·have g5:decide ((i:Int)<((L.map cq7).length:Int))=false:=by rw[hlL];simp;omega
      rw[fp8 hge,fv4]at ok;rw[ok];simp only[cond_false]
      repeat'(refine yz ?_)
      clear ok hge hi g5;refine ac7 (α:=SNc L cr1) (fun p=>⟨[(1,.d (.bool cr)),(2,.ptr 0 0),(5,.d (.sl (L.map cq7))),(71,.d (.sl (L.map cq7))),(72,.d (.int (L.map cq7).length)),(73,.d (.int p.i))],[oPA ⟨vr,ns,es⟩]⟩) (fun p=>L.length-p.i) ⟨0,by omega,rfl⟩ (zle 1) ?_;rintro⟨i,hi,ok⟩;dsimp only at ok ⊢;rcases fp2 i L.length with hlt|hge
      ·have g5:decide ((i:Int)<((L.map cq7).length:Int))=true:=by rw[hlL];simpa using hlt
       have hx0:=fp1 hlt;generalize L[i]=x at hx0;have hx:=cv3 (f:=cq7) hx0;have hk:=cy0 x.ps (hnb x (fp3 hx0));have hw1:=cw9 x.ns;have hw2:=cw9 (cq0 x.ps);obtain⟨a1,h1⟩:∃b,cq1 x.ns=b:=⟨_,rfl⟩;obtain⟨a2,h2⟩:∃b,cq1 (cq0 x.ps)=b:=⟨_,rfl⟩;have hbad:cr1 x=(!a1|| !a2):=by rw[←h1,←h2];rfl
       rw[h1]at hw1;rw[h2]at hw2;rw[dr9 hx0,hbad]at ok
       cases hb:(!a1|| !a2)with
       |true=>
        rw[hb,fx6]at ok;rw[ok]
        repeat'(first|refine bd3 17 (fun b=>⟨[(87,.d (.bool b))],[oPA ⟨vr,ns,es⟩]⟩) (true) ?_ ?_|refine yz ?_|refine yi (cq7 x) hx ?_|refine qP (d:=79) rfl rfl rfl rfl rfl rfl b203 (hw1) ?_|refine yp b202 hk ?_|refine qP (d:=85) rfl rfl rfl rfl rfl rfl b203 (hw2) ?_|refine ac1 ⟨_,?_,(zle 1)⟩|(refine yy ?_ ?_<;>intro _)|exact zD)
        all_goals(clear hlg hpt hcp hcq hwv hk hw1 hw2 ok hbad h1 h2 hfit hft hnb hope hopn hok c1 c2 c3 c4;simp_all)
       |false=>
        rw[hb,fs4]at ok
        repeat'(first|refine bd3 17 (fun b=>⟨[(87,.d (.bool b)),(1,.d (.bool cr)),(2,.ptr 0 0),(5,.d (.sl (L.map cq7))),(71,.d (.sl (L.map cq7))),(72,.d (.int (L.map cq7).length)),(73,.d (.int i))],[oPA ⟨vr,ns,es⟩]⟩) (false) ?_ ?_|refine yz ?_|refine yi (cq7 x) hx ?_|refine qP (d:=79) rfl rfl rfl rfl rfl rfl b203 (hw1) ?_|refine yp b202 hk ?_|refine qP (d:=85) rfl rfl rfl rfl rfl rfl b203 (hw2) ?_|refine ac1 ⟨_,?_,(zle 1)⟩|(refine yy ?_ ?_<;>intro _))
        all_goals first|(refine ac1 ?_;exact⟨⟨i+1,by omega,ok⟩,by dsimp only;omega,(zle 1)⟩)|(clear hlg hpt hcp hcq hwv hk hw1 hw2 ok hbad h1 h2 hfit hft hnb hope hopn hok c1 c2 c3 c4;simp_all;done)
      ·have g5:decide ((i:Int)<((L.map cq7).length:Int))=false:=by rw[hlL];simp;omega
       rw[fp8 hge,fv4]at ok;rw[ok];simp only[cond_false]
       repeat'(refine yz ?_)
       clear ok hge hi g5;refine ac7 (α:=SEx L) (fun p=>⟨[(1,.d (.bool cr)),(2,.ptr 0 0),(10,.d (.bool p.g)),(89,.d (.sl (L.map cq7))),(90,.d (.int (L.map cq7).length)),(91,.d (.int p.i))],[oPA ⟨vr,ns,es⟩]⟩) (fun p=>L.length-p.i) ⟨0,by omega,false,rfl,by simp⟩ (zle 1) ?_;rintro⟨i,hi,g,ok,hg⟩;dsimp only at ok hg ⊢;rcases fp2 i L.length with hlt|hge
       ·have g5:decide ((i:Int)<((L.map cq7).length:Int))=true:=by rw[hlL];simpa using hlt
        have hx0:=fp1 hlt;generalize L[i]=x at hx0;have hx:=cv3 (f:=cq7) hx0;have hlp:(x.ps.map cp1).length=x.ps.length:=Oc
        have hxn:=hnb x (fp3 hx0);rw[cv2 hx0,ds0]at ok hg
        repeat'(first|refine yz ?_|refine yi (cq7 x) hx ?_)
        refine ac7 (α:=SEy L x i) (fun p=>⟨[(1,.d (.bool cr)),(2,.ptr 0 0),(10,.d (.bool p.g)),(89,.d (.sl (L.map cq7))),(90,.d (.int (L.map cq7).length)),(91,.d (.int i)),(96,.d (.sl (x.ps.map cp1))),(97,.d (.int (x.ps.map cp1).length)),(98,.d (.int p.j))],[oPA ⟨vr,ns,es⟩]⟩) (fun p=>x.ps.length-p.j) ⟨0,by omega,g,ok,hg⟩ (zle 1) ?_;clear ok hg g;rintro⟨j,hj,g,ok,hg⟩;dsimp only at ok hg ⊢;rcases fp2 j x.ps.length with hlt2|hge2
        ·have g6:decide ((j:Int)<((x.ps.map cp1).length:Int))=true:=by rw[hlp];simpa using hlt2
         have hq0:=fp1 hlt2;generalize x.ps[j]=q at hq0;have hq:=cv3 (f:=cp1) hq0;have hqe:=hope q.e (dr6 (fp3 hx0) (fp3 hq0));have hce:=co9 q.e hqe.1 hqe.2;have hha:=cx4 q.e;rw[cv2 hq0,fs1,fs9]at ok hg;rw[cr2]at ok;rw[ft8]at hg;obtain⟨key,qe⟩:=q;dsimp only at hce hha ok hg
         cases he:co8 qe !=0 with
         |true=>
          rw[he,cond_true]at ok;rw[ok,he,cond_true]
          repeat'(first|refine yz ?_|refine yi (cp1 ⟨key,qe⟩) hq ?_|refine yp b61 hce ?_|exact zD)
         |false=>
          rw[he,cond_false]at ok
          cases g with
          |true=>
           repeat'(first|refine yz ?_|refine yi (cp1 ⟨key,qe⟩) hq ?_|refine yp b61 hce ?_)
           refine ac1 ?_;exact⟨⟨j+1,by omega,true,ok,by rw[hg];simp⟩,by dsimp only;omega,(zle 1)⟩
          |false=>
           repeat'(first|refine yz ?_|refine yi (cp1 ⟨key,qe⟩) hq ?_|refine yp b61 hce ?_|refine yp b63 hha ?_)
           refine ac1 ?_;exact⟨⟨j+1,by omega,cp9 qe,ok,by rw[hg];simp⟩,by dsimp only;omega,(zle 1)⟩
        ·have g6:decide ((j:Int)<((x.ps.map cp1).length:Int))=false:=by rw[hlp];simp;omega
         rw[fp8 hge2,fv9,fr8]at ok hg
         repeat'(refine yz ?_)
         refine ac1 ?_;exact⟨⟨i+1,by omega,g,ok,hg⟩,by dsimp only;omega,(zle 1)⟩
       ·have g5:decide ((i:Int)<((L.map cq7).length:Int))=false:=by rw[hlL];simp;omega
        rw[fp8 hge]at ok hg;have h0:cr2 (cr3 L)=0:=ok;have h1:(cr3 L).any cp9=g:=by rw[hg];simp[cr3]
        rw[h0,h1]
        cases g with
        |true=>
         exact Ok
        |false=>
         cases cr with
         |false=>
          exact Ok
         |true=>
          cases c9:es.any fun e=> !cq6 e with
          |true=>
           rw[c9]at hcq
           repeat'(first|refine yz ?_|refine qP (d:=123) rfl rfl rfl rfl rfl rfl br1 (hcq) ?_|exact zD)
          |false=>
           rw[c9]at hcq
           repeat'(first|refine yz ?_|refine qP (d:=123) rfl rfl rfl rfl rfl rfl br1 (hcq) ?_|exact zD)
theorem ds2(l:List ByteArray):Ev E 349 [.sl (l.map .str)] (.d (.bool (cq1 l))):=Ev.fit fun hfit=>by
 have hmax:=(cv4 (hfit (.sl (l.map .str)) Oc)).1;have hle:(l.map D.str).length=l.length:=Oc
 by_cases h0:l=[]
 ·subst h0;refine ye1 func349 ntmps349 fun _ _ _=>?_
  repeat'(first|refine yz ?_|refine yx ?_|(refine yy ?_ ?_<;>intro _)|exact zD|exact zL)
  refine ac7 (α:=Unit) (fun p=>⟨[(0,.d (.sl [])),(3,.d (.int 1))],[]⟩) (fun p=>0) () (zle 0) ?_;rintro-;have g1:decide ((1:Int)<(([]:List D).length:Int))=false:=rfl
  exact Ok
 have hp:=fy9.2 h0;refine ye1 func349 ntmps349 fun _ _ _=>?_
 repeat'(first|refine yz ?_|refine yx ?_|(refine yy ?_ ?_<;>intro _)|exact zD|exact zL)
 refine ac7 (α:=SRc l) (fun p=>⟨[(0,.d (.sl (l.map .str))),(3,.d (.int ((p.i+1:Nat):Int)))],[]⟩) (fun p=>l.length-p.i) ⟨0,by omega,rfl⟩ (zle 0) ?_;rintro⟨i,hi,ok⟩;dsimp only;rcases fp2 (i+1) l.length with hlt|hge
 ·have g1:decide (((i+1:Nat):Int)<((l.map D.str).length:Int))=true:=by rw[hle];simp;omega
  have ha0:=fp1 (show i<l.length by omega);have hb0:=fp1 hlt;generalize l[i]=a at ha0;generalize l[i+1]=b at hb0;have hb:=cv3 (f:=D.str) hb0
  have ha:(l.map D.str)[(((i+1:Nat):Int) -1).toNat]? =some (.str a):=by
   rw[show(((i+1:Nat):Int) -1)=(i:Int) by omega];exact cv3 (f:=D.str) ha0
  have g2:=cw6 a b;rw[ok,cw7 ha0 hb0]
  cases hc:Op.bytesLess a.toList b.toList with
  |true=>
   have hcn:(!Op.bytesLess a.toList b.toList)=false:=by rw[hc];rfl
   rw[hc]at g2
   repeat'(first|refine yz ?_|refine yi (.str b) hb ?_|refine yi (.str a) ha ?_|refine yx ?_|(refine yy ?_ ?_<;>intro _)|exact zD|exact zL)
   refine ac1 ?_;exact⟨⟨i+1,hlt,by rw[ok,cw7 ha0 hb0,hc];rfl⟩,by dsimp only;omega,(zle 0)⟩
  |false=>
   have hcn:(!Op.bytesLess a.toList b.toList)=true:=by rw[hc];rfl
   rw[hc]at g2
   repeat'(first|refine yz ?_|refine yi (.str b) hb ?_|refine yi (.str a) ha ?_|refine yx ?_|(refine yy ?_ ?_<;>intro _)|exact zD|exact zL)
 ·have g1:decide (((i+1:Nat):Int)<((l.map D.str).length:Int))=false:=by rw[hle];simp;omega
  rw[ok,cw8 Oa]
  exact Ok
theorem ds3(s:ByteArray):Ev E 346 [.str s] (.d (.bool (cq9 s))):=by
 have h:=cn7 s;have hs:s0B s=(s.toList==(⟨#[]⟩:ByteArray).toList):=rfl;unfold cq9;rw[hs]
 cases c1:s.toList==(⟨#[]⟩:ByteArray).toList with
 |true=>
  refine ye1 func346 ntmps346 fun _ _ _=>?_
  exact Ok
 |false=>
  refine ye1 func346 ntmps346 fun _ _ _=>?_
  repeat'(first|refine yz ?_|refine yp b77 h ?_|refine yx ?_|(refine yy ?_ ?_<;>intro _)|exact zD|exact zL)
structure SAc{α:Type}(l:List α)(f:α→Bool) where
 i:Nat
 hi:i≤l.length
 ok:l.all f=(l.drop i).all f
theorem ds4{α:Type}{l:List α}{f:α→Bool}{i:Nat}{x:α}(h:l[i]? =some x):(l.drop i).all f=(f x&&(l.drop (i+1)).all f):=by rw[cv2 h,ft3]
theorem ds5(l:List ByteArray):Ev E 275 [.sl (l.map .str)] (.d (.bool (l.all cn4))):=Ev.fit fun hfit=>by
 have hmax:=(cv4 (hfit (.sl (l.map .str)) Oc)).1;have hle:(l.map D.str).length=l.length:=Oc
 refine ye1 func275 ntmps275 fun _ _ _=>?_
 repeat'(first|refine yz ?_|refine yx ?_|(refine yy ?_ ?_<;>intro _)|exact zD|exact zL)
 refine ac7 (α:=SAc l cn4) (fun p=>⟨[(0,.d (.sl (l.map .str))),(3,.d (.int p.i))],[]⟩) (fun p=>l.length-p.i) ⟨0,by omega,rfl⟩ (zle 0) ?_;rintro⟨i,hi,ok⟩;dsimp only at ok ⊢;rcases fp2 i l.length with hlt|hge
 ·have g1:decide ((i:Int)<((l.map D.str).length:Int))=true:=by rw[hle];simpa using hlt
  have hx0:=fp1 hlt;generalize l[i]=x at hx0;have hx:=cv3 (f:=D.str) hx0;have h:=cn7 x;rw[ds4 hx0]at ok
  cases hc:cn4 x with
  |true=>
   rw[hc]at h ok
   repeat'(first|refine yz ?_|refine yi (.str x) hx ?_|refine yp b77 h ?_|refine yx ?_|(refine yy ?_ ?_<;>intro _)|exact zD|exact zL)
   refine ac1 ?_;exact⟨⟨i+1,by omega,by rw[ok];rfl⟩,by dsimp only;omega,(zle 0)⟩
  |false=>
   rw[hc]at h ok;rw[ok]
   repeat'(first|refine yz ?_|refine yi (.str x) hx ?_|refine yp b77 h ?_|refine yx ?_|(refine yy ?_ ?_<;>intro _)|exact zD|exact zL)
 ·have g1:decide ((i:Int)<((l.map D.str).length:Int))=false:=by rw[hle];simp;omega
  rw[ok,fp8 hge]
  exact Ok
theorem ds6(e:Ex):Ev E 140 [by6 e] (.d (.bool (cp9 e))):=by
 refine bz5 (P:=fun e=>Ev E 140 [by6 e] (.d (.bool (cp9 e)))) (fun op v nm ds ks ih=>Ev.fit fun hfit=>?_) e;have hk:=cx2 (.mk op v nm ds ks);simp only[Ex.ks]at hk;have hle:(by4 (.mk op v nm ds ks)).length=ks.length:=by rw[hk];simp
 obtain⟨-,-,-,hmax,-⟩:=bz3 (hfit (by6 (.mk op v nm ds ks)) Oc);simp only[Ex.ks]at hmax;rw[cx3]
 cases c1:op==24 with
 |true=>
  refine ye1 func140 ntmps140 fun _ _ _=>?_
  exact Ok
 |false=>
  rw[fs4];refine ye1 func140 ntmps140 fun _ _ _=>?_
  repeat'(first|refine yz ?_|refine yx ?_|(refine yy ?_ ?_<;>intro _)|exact zD|exact zL)
  refine ac7 (α:=SNc ks cp9) (fun p=>⟨[(1,.ptr 0 0),(3,.d (.int p.i))],[.var 33 (.w (.d (by6 (.mk op v nm ds ks))))]⟩) (fun p=>ks.length-p.i) ⟨0,by omega,rfl⟩ (zle 1) ?_;rintro⟨i,hi,ok⟩;dsimp only at ok ⊢;rcases fp2 i ks.length with hlt|hge
  ·have g1:decide ((i:Int)<((by4 (.mk op v nm ds ks)).length:Int))=true:=by rw[hle];simpa using hlt
   have hx0:=fp1 hlt;generalize ks[i]=x at hx0;have hx:(by4 (.mk op v nm ds ks))[((i:Nat):Int).toNat]? =some (by6 x):=by rw[hk];exact cv3 (f:=by6) hx0
   have h:=ih x (fp3 hx0);rw[dr9 hx0]at ok
   cases hc:cp9 x with
   |true=>
    rw[hc]at h ok;rw[ok]
    repeat'(first|refine yz ?_|refine yi (by6 x) hx ?_|refine yp bp9 h ?_|refine yx ?_|(refine yy ?_ ?_<;>intro _)|exact zD|exact zL)
   |false=>
    rw[hc]at h ok
    repeat'(first|refine yz ?_|refine yi (by6 x) hx ?_|refine yp bp9 h ?_|refine yx ?_|(refine yy ?_ ?_<;>intro _)|exact zD|exact zL)
    refine ac1 ?_;exact⟨⟨i+1,by omega,by rw[ok];rfl⟩,by dsimp only;omega,(zle 1)⟩
  ·have g1:decide ((i:Int)<((by4 (.mk op v nm ds ks)).length:Int))=false:=by rw[hle];simp;omega
   rw[ok,fp8 hge]
   exact Ok
theorem ds7(e:EP):Ev E 347 [cp3 e] (.d (.bool (cq5 e))):=by
 obtain⟨vr,ty,dir,mode,mn,mx,ps⟩:=e;refine ye1 func347 ntmps347 fun _ _ _=>?_
 repeat'(first|refine yz ?_|refine yx ?_|(refine yy ?_ ?_<;>intro _)|(refine qV rfl ?_ ?_<;>intro _)|exact zD|exact zL)
 all_goals(refine congrArg D.bool ?_;simp_all [cq5,fs3])
 all_goals first|omega|(rw[fq3];simp;omega)
theorem ds8(l:List PP)(hl:l.length≤1000000):Ev E 348 [.sl (l.map cp1)] (.d (.sl ((cq0 l).map .str))):=by
 have hle:(l.map cp1).length=l.length:=Oc
 refine ye1 func348 ntmps348 fun _ _ _=>?_
 repeat'(first|refine yz ?_|refine yx ?_|(refine yy ?_ ?_<;>intro _)|exact zD|exact zL)
 refine ac7 (α:=SKy l) (fun p=>⟨[(3,bf9 0 ((cq0 (l.take p.i)).map .str)),(0,.d (.sl (l.map cp1))),(4,.d (.int p.i))],aw7 9 1 ((cq0 (l.take p.i)).map .str)⟩) (fun p=>l.length-p.i) ⟨0,by omega⟩ (zle 0) ?_;rintro⟨i,hi⟩;dsimp only;have hol:((cq0 (l.take i)).map D.str).length≤1000000:=by simp[cq0];omega
 rcases fp2 i l.length with hlt|hge
 ·have g1:decide ((i:Int)<((l.map cp1).length:Int))=true:=by rw[hle];simpa using hlt
  have hx0:=fp1 hlt;generalize l[i]=x at hx0;have hx:=cv3 (f:=cp1) hx0;have hnx:=cx9 hx0;generalize(cq0 (l.take i)).map D.str=o at*
  match o,hol with
  |[],hol=>
   dsimp only[bf9,aw7]
   repeat'(first|refine yz ?_|refine yi (cp1 x) hx ?_|(refine qS rfl ⟨by simp,fun d hd=>by(obtain rfl:=fq2.1 hd;rfl),by(show(0+1)*16≤140737488355328;omega),by(show 0+1≤9223372036854775807;omega)⟩ ?_)|refine yx ?_|(refine yy ?_ ?_<;>intro _)|exact zD|exact zL)
   refine ac1 ?_;refine⟨⟨i+1,by omega⟩,by dsimp only;omega,?_⟩;dsimp only;rw[hnx];exact(bh0 [0])
  |a::q,hol=>
   dsimp only[bf9,aw7]
   repeat'(first|refine yz ?_|refine yi (cp1 x) hx ?_|(refine qS rfl ⟨by simp,fun d hd=>by(obtain rfl:=fq2.1 hd;rfl),by(show((a::q).length+1)*16≤140737488355328;omega),by(show(a::q).length+1≤9223372036854775807;omega)⟩ ?_)|refine yx ?_|(refine yy ?_ ?_<;>intro _)|exact zD|exact zL)
   refine ac1 ?_;refine⟨⟨i+1,by omega⟩,by dsimp only;omega,?_⟩;dsimp only;rw[hnx];exact(bh0 [1])
 ·have g1:decide ((i:Int)<((l.map cp1).length:Int))=false:=by rw[hle];simp;omega
  rw[fq6 hge];generalize(cq0 l).map D.str=o at*
  match o with
  |[]=>
   dsimp only[bf9,aw7]
   exact Ok
  |a::q=>
   dsimp only[bf9,aw7];refine qA ?_;refine au2 0 rfl ?_
   exact Ok
theorem ds9:∀(l:List EP) (n:Int),n≤l.foldl (fun n e=>n+cq2 e) n
 |[],n=>Int.le_refl _
 |e::r,n=>by
  have h1:=ds9 r (n+cq2 e);have h2:=(cy1 e).1;rw[ft5];omega
theorem dt0(p:PA):Ev E 345 [cp4 p] (.d (.bool (!cq4 p))):=Ev.fit fun hfit=>by
 obtain⟨vr,ns,es⟩:=p;have hft:=hfit (cp4 ⟨vr,ns,es⟩) Oc;have hmn:=(cv4 (hft.aggs (.sl (ns.map cp2)) Oc)).1;have hme:=(cv4 (hft.aggs (.sl (es.map cp3)) Oc)).1;have hln:(ns.map cp2).length=ns.length:=Oc
 have hle:(es.map cp3).length=es.length:=Oc
 unfold cq4;dsimp only
 cases c1:ns.length==0 with
 |true=>
  have g1:(((ns.map cp2).length:Int)==0)=true:=by rw[hln];simp at c1 ⊢;omega
  refine ye1 func345 ntmps345 fun _ _ _=>?_
  exact Ok
 |false=>
  have g1:(((ns.map cp2).length:Int)==0)=false:=by rw[hln];simp at c1 ⊢;omega
  cases c2:decide (es.length>6)with
  |true=>
   have g2:decide (((es.map cp3).length:Int)>6)=true:=by rw[hle];simp at c2 ⊢;omega
   refine ye1 func345 ntmps345 fun _ _ _=>?_
   exact Ok
  |false=>
   have g2:decide (((es.map cp3).length:Int)>6)=false:=by rw[hle];simp at c2 ⊢;omega
   have h6:es.length≤6:=by simp at c2;omega
   rw[fs4,fs4];refine ye1 func345 ntmps345 fun _ _ _=>?_
   repeat'(first|refine yz ?_|refine yx ?_|(refine yy ?_ ?_<;>intro _)|exact zD|exact zL)
   refine ac7 (α:=SLo es) (fun p=>⟨[(1,.ptr 0 0),(3,.d (.int p.n)),(4,.d (.int p.i))],[oPA ⟨vr,ns,es⟩]⟩) (fun p=>es.length-p.i) ⟨0,0,by omega,by omega,by omega,rfl⟩ (zle 1) ?_;rintro⟨i,n,hi,h0,h1,ok⟩;dsimp only at ok ⊢;rcases fp2 i es.length with hlt|hge
   ·have g3:decide ((i:Int)<((es.map cp3).length:Int))=true:=by rw[hle];simpa using hlt
    have hx0:=fp1 hlt;generalize es[i]=e at hx0;have hx:=cv3 (f:=cp3) hx0;have hr:=cy1 e;rw[cv2 hx0,ft5]at ok
    cases c3:e.mode==0 with
    |true=>
     have hn:cq2 e=1:=by unfold cq2;rw[c3];rfl
     rw[hn]at ok
     repeat'(first|refine yz ?_|refine yi (cp3 e) hx ?_|refine yx ?_|(refine yy ?_ ?_<;>intro _)|exact zD|exact zL)
     refine ac1 ?_;exact⟨⟨i+1,n+1,by omega,by omega,by omega,ok⟩,by dsimp only;omega,(zle 1)⟩
    |false=>
     have hn:cq2 e=min (max e.mx 0) 13:=by unfold cq2;rw[c3];rfl
     rw[hn]at ok hr
     cases c4:decide (e.mx>12)with
     |true=>
      have h13:min (max e.mx 0) 13=13:=by simp at c4;omega
      have hgt:decide (cq3 es>12)=true:=by
       have:=ds9 (es.drop (i+1)) (n+min (max e.mx 0) 13);simp;omega
      rw[hgt]
      repeat'(first|refine yz ?_|refine yi (cp3 e) hx ?_|refine yx ?_|(refine yy ?_ ?_<;>intro _)|exact zD|exact zL)
     |false=>
      cases c5:decide (e.mx>0)with
      |true=>
       have hmx:min (max e.mx 0) 13=e.mx:=by simp at c4 c5;omega
       rw[hmx]at ok hr
       repeat'(first|refine yz ?_|refine yi (cp3 e) hx ?_|refine yx ?_|(refine yy ?_ ?_<;>intro _)|exact zD|exact zL)
       refine ac1 ?_;exact⟨⟨i+1,n+e.mx,by omega,by omega,by omega,ok⟩,by dsimp only;omega,(zle 1)⟩
      |false=>
       have hmx:min (max e.mx 0) 13=0:=by simp at c4 c5;omega
       rw[hmx,Int.add_zero]at ok
       repeat'(first|refine yz ?_|refine yi (cp3 e) hx ?_|refine yx ?_|(refine yy ?_ ?_<;>intro _)|exact zD|exact zL)
       refine ac1 ?_;exact⟨⟨i+1,n,by omega,by omega,by omega,ok⟩,by dsimp only;omega,(zle 1)⟩
   ·have g3:decide ((i:Int)<((es.map cp3).length:Int))=false:=by rw[hle];simp;omega
    have hn:cq3 es=n:=by rw[ok,fp8 hge];rfl
    have e:(!decide (n>12))=decide (n≤12):=by by_cases h:n>12<;>simp[h]<;>omega
    rw[hn,e]
    exact Ok
theorem Le.same{C:Cx}{tm tm':List (Nat × X)}{ob:List aa5}(h:∀p∈tm',lk tm p.1=p.2):Le C ⟨tm,ob⟩ ⟨tm',ob⟩:=by
 rintro a w ⟨F,σ,h1,h2,h3,hi,h4,h5,hs⟩;refine⟨F,σ,h1,h2,h3,hi,h4,h5,fun t=>?_⟩
 have key:∀l:List (Nat × X),(∀p∈l,lk tm p.1=p.2)→lk l t=lk tm t∨lk l t=.top:=by
  intro l
  induction l with
  |nil=>exact fun _=>.inr rfl
  |cons p r ih=>
   intro hp;obtain⟨k,x⟩:=p;simp only[lk]
   cases hb:Nat.beq k t with
   |true=>
    obtain rfl:=fq4 hb;exact .inl (hp (k,x) Oc).symm
   |false=>exact ih fun q hq=>hp q (by simp[hq])
 rcases key tm' h with e|e
 ·show RdX w F σ (lk tm' t) _;rw[e];exact hs t
 ·show RdX w F σ (lk tm' t) _;rw[e];trivial
structure SPr(T:List Ex)(ns:List NP)(es:List EP) where
 i:Nat
 o:List Ex
 hi:i≤ns.length
 ok:T=o++cr3 (cq8 (ns.drop i) (es.drop i))
structure SPk(T:List Ex)(l:List PP)(rest:List Ex) where
 k:Nat
 o:List Ex
 hk:k≤l.length
 ok:T=o++((l.drop k).map (fun p=>p.e)++rest)
theorem dt1{ns:List NP}{es:List EP}{i:Nat}{x:NP}(hx:ns[i]? =some x):cr3 (cq8 (ns.drop i) (es.drop i))=x.ps.map (fun p=>p.e)++((match es[i]? with|some y=>y.ps.map (fun p=>p.e)|none=>[])++cr3 (cq8 (ns.drop (i+1)) (es.drop (i+1)))):=by
 rw[cv2 hx]
 cases hy:es[i]? with
 |none=>
  have hge:es.length≤i:=List.getElem?_eq_none_iff.1 hy;have he0:es.drop i=[]:=fp8 hge;have he1:es.drop (i+1)=[]:=fp8 Oa;rw[he0,he1,cq8,ds0];rfl
 |some y=>
  rw[cv2 hy,cq8,ds0,ds0];rfl
set_option maxHeartbeats 4000000 in
theorem dt2(p:PA)(hT:(cr3 (cq8 p.ns p.es)).length≤1000000)(hn:p.ns.length≤1000000):Ev E 33 [cp4 p] (.d (.sl ((cr3 (cq8 p.ns p.es)).map by6))):=Ev.fit fun hfit=>by
 obtain⟨vr,ns,es⟩:=p;dsimp only at hn hT ⊢;have hft:=hfit (cp4 ⟨vr,ns,es⟩) Oc;have hme:=(cv4 (hft.aggs (.sl (es.map cp3)) Oc)).1;have hln:(ns.map cp2).length=ns.length:=Oc
 have hle:(es.map cp3).length=es.length:=Oc
 obtain⟨T,hTT⟩:∃T,cr3 (cq8 ns es)=T:=⟨_,rfl⟩;rw[hTT]at hT ⊢;refine ye1 func33 ntmps33 fun _ _ _=>?_
 repeat'(first|refine yz ?_|refine yx ?_|(refine yy ?_ ?_<;>intro _)|exact zD|exact zL)
 refine ac7 (α:=SPr T ns es) (fun p=>⟨[(3,bf9 1 (p.o.map by6)),(1,.ptr 0 0),(4,.d (.int p.i))],[oPA ⟨vr,ns,es⟩]++aw7 33 9 (p.o.map by6)⟩) (fun p=>ns.length-p.i) ⟨0,[],by omega,by rw[←hTT];simp⟩ (zle 1) ?_;rintro⟨i,o,hi,ok⟩;dsimp only at ok ⊢;have hol:(o.map by6).length≤1000000:=by have:=congrArg List.length ok;rw[fp4]at this;rw[fp6];omega
 rcases fp2 i ns.length with hlt|hge
 ·have g1:decide ((i:Int)<((ns.map cp2).length:Int))=true:=by rw[hln];simpa using hlt
  have hx0:=fp1 hlt;generalize ns[i]=x at hx0;have hx:=cv3 (f:=cp2) hx0;rw[dt1 hx0]at ok;have hxl:(x.ps.map cp1).length=x.ps.length:=Oc
  have hmx:x.ps.length≤1000000:=by
   have:=congrArg List.length ok;simp only[fp4,fp6]at this;omega
  repeat'(first|refine yz ?_|refine yx ?_|(refine yy ?_ ?_<;>intro _)|exact zD|exact zL)
  refine ac7 (α:=SPk T x.ps ((match es[i]? with|some y=>y.ps.map (fun p=>p.e)|none=>[])++cr3 (cq8 (ns.drop (i+1)) (es.drop (i+1))))) (fun p=>⟨[(3,bf9 1 (p.o.map by6)),(1,.ptr 0 0),(4,.d (.int i)),(5,.d (.int p.k))],[oPA ⟨vr,ns,es⟩]++aw7 33 9 (p.o.map by6)⟩) (fun p=>x.ps.length-p.k) ⟨0,o,by omega,ok⟩ ((Le.same (by intro p hp;simp only[fq1,fx0,or_false]at hp;rcases hp with rfl|rfl|rfl|rfl<;>rfl))) ?_;clear ok;clear hol;clear o;rintro⟨k,o,hk,ok⟩;dsimp only at ok ⊢;have hol:(o.map by6).length≤1000000:=by have:=congrArg List.length ok;rw[fp4]at this;rw[fp6];omega
  rcases fp2 k x.ps.length with hlt3|hge3
  ·have g7:decide ((k:Int)<((x.ps.map cp1).length:Int))=true:=by rw[fp6];simpa using hlt3
   have hq0:=fp1 hlt3;generalize x.ps[k]=q at hq0;have hq:=cv3 (f:=cp1) hq0;rw[cv2 hq0,fs1,fs9]at ok;have hnx:(o++ [q.e]).map by6=o.map by6++ [by6 q.e]:=Oc
   have hok:T=(o++ [q.e])++((x.ps.drop (k+1)).map (fun p=>p.e)++((match es[i]? with|some y=>y.ps.map (fun p=>p.e)|none=>[])++cr3 (cq8 (ns.drop (i+1)) (es.drop (i+1))))):=by rw[ok];simp
   obtain⟨key,qe⟩:=q;dsimp only at hnx hok;generalize o.map by6=oo at*
   match oo,hol with
   |[],hol=>
    dsimp only[bf9,aw7]
    repeat'(first|refine yz ?_|refine yi (cp2 x) hx ?_|refine yi (cp1 ⟨key,qe⟩) hq ?_|(refine qS rfl ⟨by simp,fun d hd=>by(obtain rfl:=fq2.1 hd;rfl),by(show(0+1)*120≤140737488355328;omega),by(show 0+1≤9223372036854775807;omega)⟩ ?_)|refine yx ?_|(refine yy ?_ ?_<;>intro _)|exact zD|exact zL)
    refine ac1 ?_;refine⟨⟨k+1,o++ [qe],by omega,hok⟩,by dsimp only;omega,?_⟩;dsimp only;rw[hnx];exact(bh0 [0,1])
   |a::r2,hol=>
    dsimp only[bf9,aw7];have hq2:(a::r2).length≤1000000:=hol
    repeat'(first|refine yz ?_|refine yi (cp2 x) hx ?_|refine yi (cp1 ⟨key,qe⟩) hq ?_|(refine qS rfl ⟨by simp,fun d hd=>by(obtain rfl:=fq2.1 hd;rfl),by(show((a::r2).length+1)*120≤140737488355328;omega),by(show(a::r2).length+1≤9223372036854775807;omega)⟩ ?_)|refine yx ?_|(refine yy ?_ ?_<;>intro _)|exact zD|exact zL)
    refine ac1 ?_;refine⟨⟨k+1,o++ [qe],by omega,hok⟩,by dsimp only;omega,?_⟩;dsimp only;rw[hnx];exact(bh0 [0,2])
  ·have g7:decide ((k:Int)<((x.ps.map cp1).length:Int))=false:=by rw[fp6];simp;omega
   rw[fp8 hge3,fv9,fr8]at ok;clear hge3 hk;rcases fp2 i es.length with hlt2|hge2
   ·have g2:decide ((i:Int)<((es.map cp3).length:Int))=true:=by rw[hle];simpa using hlt2
    have hy0:=fp1 hlt2;generalize es[i]=y at hy0;have hy:=cv3 (f:=cp3) hy0;rw[hy0]at ok;have hyl:(y.ps.map cp1).length=y.ps.length:=Oc
    have hmy:y.ps.length≤1000000:=by
     have:=congrArg List.length ok;simp only[fp4,fp6]at this;omega
    repeat'(first|refine yz ?_|refine yi (cp2 x) hx ?_|refine yx ?_|(refine yy ?_ ?_<;>intro _)|exact zD|exact zL)
    refine ac7 (α:=SPk T y.ps (cr3 (cq8 (ns.drop (i+1)) (es.drop (i+1))))) (fun p=>⟨[(3,bf9 1 (p.o.map by6)),(1,.ptr 0 0),(4,.d (.int i)),(6,.d (.int p.k))],[oPA ⟨vr,ns,es⟩]++aw7 33 9 (p.o.map by6)⟩) (fun p=>y.ps.length-p.k) ⟨0,o,by omega,ok⟩ ((Le.same (by intro p hp;simp only[fq1,fx0,or_false]at hp;rcases hp with rfl|rfl|rfl|rfl<;>rfl))) ?_;clear ok;clear hol;clear o;rintro⟨k,o,hk,ok⟩;dsimp only at ok ⊢;have hol:(o.map by6).length≤1000000:=by have:=congrArg List.length ok;rw[fp4]at this;rw[fp6];omega
    rcases fp2 k y.ps.length with hlt3|hge3
    ·have g7:decide ((k:Int)<((y.ps.map cp1).length:Int))=true:=by rw[fp6];simpa using hlt3
     have hq0:=fp1 hlt3;generalize y.ps[k]=q at hq0;have hq:=cv3 (f:=cp1) hq0;rw[cv2 hq0,fs1,fs9]at ok;have hnx:(o++ [q.e]).map by6=o.map by6++ [by6 q.e]:=Oc
     have hok:T=(o++ [q.e])++((y.ps.drop (k+1)).map (fun p=>p.e)++(cr3 (cq8 (ns.drop (i+1)) (es.drop (i+1))))):=by rw[ok];simp
     obtain⟨key,qe⟩:=q;dsimp only at hnx hok;generalize o.map by6=oo at*
     match oo,hol with
     |[],hol=>
      dsimp only[bf9,aw7]
      repeat'(first|refine yz ?_|refine yi (cp3 y) hy ?_|refine yi (cp1 ⟨key,qe⟩) hq ?_|(refine qS rfl ⟨by simp,fun d hd=>by(obtain rfl:=fq2.1 hd;rfl),by(show(0+1)*120≤140737488355328;omega),by(show 0+1≤9223372036854775807;omega)⟩ ?_)|refine yx ?_|(refine yy ?_ ?_<;>intro _)|exact zD|exact zL)
      refine ac1 ?_;refine⟨⟨k+1,o++ [qe],by omega,hok⟩,by dsimp only;omega,?_⟩;dsimp only;rw[hnx];exact(bh0 [0,1])
     |a::r2,hol=>
      dsimp only[bf9,aw7];have hq2:(a::r2).length≤1000000:=hol
      repeat'(first|refine yz ?_|refine yi (cp3 y) hy ?_|refine yi (cp1 ⟨key,qe⟩) hq ?_|(refine qS rfl ⟨by simp,fun d hd=>by(obtain rfl:=fq2.1 hd;rfl),by(show((a::r2).length+1)*120≤140737488355328;omega),by(show(a::r2).length+1≤9223372036854775807;omega)⟩ ?_)|refine yx ?_|(refine yy ?_ ?_<;>intro _)|exact zD|exact zL)
      refine ac1 ?_;refine⟨⟨k+1,o++ [qe],by omega,hok⟩,by dsimp only;omega,?_⟩;dsimp only;rw[hnx];exact(bh0 [0,2])
    ·have g7:decide ((k:Int)<((y.ps.map cp1).length:Int))=false:=by rw[fp6];simp;omega
     rw[fp8 hge3,fv9,fr8]at ok;clear hge3 hk
     repeat'(first|refine yz ?_|refine yi (cp3 y) hy ?_|refine yx ?_|(refine yy ?_ ?_<;>intro _)|exact zD|exact zL)
     refine ac1 ?_;exact⟨⟨i+1,o,by omega,ok⟩,by dsimp only;omega,(Le.same (by intro p hp;simp only[fq1,fx0,or_false]at hp;rcases hp with rfl|rfl|rfl<;>rfl))⟩
   ·have g2:decide ((i:Int)<((es.map cp3).length:Int))=false:=by rw[hle];simp;omega
    rw[ft2 hge2,fr8]at ok
    repeat'(first|refine yz ?_|refine yi (cp2 x) hx ?_|refine yx ?_|(refine yy ?_ ?_<;>intro _)|exact zD|exact zL)
    refine ac1 ?_;exact⟨⟨i+1,o,by omega,ok⟩,by dsimp only;omega,(Le.same (by intro p hp;simp only[fq1,fx0,or_false]at hp;rcases hp with rfl|rfl|rfl<;>rfl))⟩
 ·have g1:decide ((i:Int)<((ns.map cp2).length:Int))=false:=by rw[hln];simp;omega
  rw[fp8 hge,cq8,show cr3 []=[]from rfl,fv3]at ok;rw[ok];generalize o.map by6=oo at*
  match oo with
  |[]=>
   dsimp only[bf9,aw7]
   exact Ok
  |a::q=>
   dsimp only[bf9,aw7];refine qA ?_;refine au2 1 rfl ?_
   exact Ok
theorem dt3(f:PT→Bool):∀(ns:List NP) (es:List EP),ns.length=es.length+1→(cq8 ns es).any f=((es.any fun e=>f (ptE e))||(ns.any fun n=>f (ptN n)))
 |[],es,h=>by simp at h
 |[n],[],_=>by simp[cq8]
 |n::m::r,[],h=>by simp at h
 |n::r,e::q,h=>by
  have ih:=dt3 f r q (by simpa using h);simp only[cq8,ft8,ih]
  cases f (ptN n)<;>cases f (ptE e)<;>cases(q.any fun e=>f (ptE e))<;>rfl
theorem dt4:∀{ns:List NP} {es:List EP},ns.length=es.length+1→∀e∈es,ptE e∈cq8 ns es
 |[],es,h=>by simp at h
 |n::r,[],_=>by simp
 |n::r,e::q,h=>fun x hx=>by
  simp only[cq8];rcases fq1.1 hx with rfl|hx
  ·simp
  ·have:=dt4 (ns:=r) (es:=q) (by simpa using h) x hx;simp[this]
theorem dt5:∀{ns:List NP} {es:List EP},∀n∈ns,ptN n∈cq8 ns es
 |n::r,[],x,hx=>by
  simp only[cq8];rcases fq1.1 hx with rfl|hx
  ·simp
  ·have:=dt5 (ns:=r) (es:=[]) x hx;simp[this]
 |n::r,e::q,x,hx=>by
  simp only[cq8];rcases fq1.1 hx with rfl|hx
  ·simp
  ·have:=dt5 (ns:=r) (es:=q) x hx;simp[this]
theorem dt6(a a0 a1 a2 z:Bool):(a&& !((!a0||(!a1|| !a2))||z))=((a&& !(!a0||(!a1|| !a2))) && !z):=by cases a<;>cases a0<;>cases a1<;>cases a2<;>cases z<;>rfl
theorem dt7(b b1 b2 z:Bool):(b&& !((!b1|| !b2)||z))=((b&& !(!b1|| !b2)) && !z):=by cases b<;>cases b1<;>cases b2<;>cases z<;>rfl
def dt8(p:PA):Int:=
 bif cq4 p then 4 else
 bif p.ns.length !=p.es.length+1||p.es.any fun e=> !cq5 e then 1 else
 bif !(cq9 p.vr)||(cq8 p.ns p.es).any cr0 then 6 else
 bif (cq8 p.ns p.es).any cr1 then 26 else 0
abbrev oEP(e:EP):aa5:=.var 76 (.w (.d (cp3 e)))
abbrev oNP(e:NP):aa5:=.var 78 (.w (.d (cp2 e)))
structure SSh{α:Type}(l:List α)(f g:α→Bool)(K S:Bool) where
 i:Nat
 a:Bool
 b:Bool
 hi:i≤l.length
 ha:(K&& !(l.any f))=(a&& !((l.drop i).any f))
 hb:(S&& !(l.any g))=(b&& !((l.drop i).any g))
structure SSi(l:List EP)(K:Bool) extends SSh l (fun e=>cr0 (ptE e)) (fun e=>cr1 (ptE e)) K true where
 hc:(l.any fun e=> !cq5 e)=(l.drop i).any fun e=> !cq5 e
set_option maxHeartbeats 4000000 in
theorem dt9(p:PA)(hok:OkPA p):Ev E 319 [cp4 p] (.d (.int (dt8 p))):=Ev.fit fun hfit=>by
 have hho:=dt0 p;have hfv:=ds3 p.vr;have hopn:=hok.x;have hnn:=hok.n;unfold dt8;obtain⟨vr,ns,es⟩:=p;dsimp only at hfv hopn hnn ⊢;have hft:=hfit (cp4 ⟨vr,ns,es⟩) Oc;have hme:=(cv4 (hft.aggs (.sl (es.map cp3)) Oc)).1;have hln:(ns.map cp2).length=ns.length:=Oc
 have hle:(es.map cp3).length=es.length:=Oc
 cases c1:cq4 ⟨vr,ns,es⟩with
 |true=>
  rw[c1]at hho;refine ye1 func319 ntmps319 fun _ _ _=>?_
  repeat'(first|refine yz ?_|refine yp b345 hho ?_|refine yx ?_|(refine yy ?_ ?_<;>intro _)|exact zD|exact zL)
 |false=>
  have h6:es.length≤6:=by
   unfold cq4 at c1;dsimp only at c1;rw[ft4,ft4]at c1;have:=c1.1.2;simp at this;omega
  rw[c1]at hho;simp only[cond_false]
  cases c2:ns.length !=es.length+1 with
  |true=>
   have g2:(((ns.map cp2).length:Int) !=((es.map cp3).length:Int)+1)=true:=by rw[hln,hle];simp at c2 ⊢;omega
   refine ye1 func319 ntmps319 fun _ _ _=>?_
   repeat'(first|refine yz ?_|refine yp b345 hho ?_|refine yx ?_|(refine yy ?_ ?_<;>intro _)|exact zD|exact zL)
  |false=>
   have g2:(((ns.map cp2).length:Int) !=((es.map cp3).length:Int)+1)=false:=by rw[hln,hle];simp at c2 ⊢;omega
   have hlen:ns.length=es.length+1:=by simpa using c2
   rw[fs4,dt3 cr0 ns es hlen,dt3 cr1 ns es hlen];have hme2:∀e∈es,e.ps.length≤1000000:=fun e he=>fs8 (dr7 (x:=ptE e) (dt4 hlen e he)) hopn
   have hmn2:∀e∈ns,e.ps.length≤1000000:=fun e he=>fs8 (dr7 (x:=ptN e) (dt5 e he)) hopn
   obtain⟨K,hK⟩:∃K,cq9 vr=K:=⟨_,rfl⟩;rw[hK]at hfv ⊢;refine ye1 func319 ntmps319 fun _ _ _=>?_
   repeat'(first|refine yz ?_|refine yp b345 hho ?_|refine qP (d:=22) rfl rfl rfl rfl rfl rfl b346 (hfv) ?_|refine yx ?_|(refine yy ?_ ?_<;>intro _)|exact zD|exact zL)
   refine ac7 (α:=SSi es K) (fun p=>⟨[(1,.ptr 0 0),(3,.d (.bool p.a)),(4,.d (.bool p.b)),(5,.d (.int p.i))],[oPA ⟨vr,ns,es⟩]⟩) (fun p=>es.length-p.i) ⟨⟨0,K,true,by omega,rfl,rfl⟩,rfl⟩ (zle 1) ?_;rintro⟨⟨i,a,b,hi,ha,hb⟩,hc⟩;dsimp only at ha hb hc ⊢;rcases fp2 i es.length with hlt|hge
   ·have g5:decide ((i:Int)<((es.map cp3).length:Int))=true:=by rw[hle];simpa using hlt
    have hx0:=fp1 hlt;generalize es[i]=x at hx0;have hx:=cv3 (f:=cp3) hx0;have hbo:=ds7 x;have hk:=ds8 x.ps (hme2 x (fp3 hx0));have hw0:=ds3 x.vr;have hw1:=ds5 x.ty;have hw2:=ds5 (cq0 x.ps);have hr1:=ds2 x.ty;have hr2:=ds2 (cq0 x.ps);rw[dr9 hx0]at ha hb hc
    cases hh:cq5 x with
    |false=>
     rw[hh]at hbo hc;rw[hc]
     repeat'(first|refine yz ?_|refine yi (cp3 x) hx ?_|refine yp b347 hbo ?_|refine yx ?_|(refine yy ?_ ?_<;>intro _)|exact zD|exact zL)
    |true=>
     rw[hh]at hbo hc;obtain⟨a0,h0⟩:∃b,cq9 x.vr=b:=⟨_,rfl⟩;obtain⟨a1,h1⟩:∃b,x.ty.all cn4=b:=⟨_,rfl⟩;obtain⟨a2,h2⟩:∃b,(cq0 x.ps).all cn4=b:=⟨_,rfl⟩;obtain⟨b1,h3⟩:∃b,cq1 x.ty=b:=⟨_,rfl⟩;obtain⟨b2,h4⟩:∃b,cq1 (cq0 x.ps)=b:=⟨_,rfl⟩;have hbad:cr0 (ptE x)=(!a0||(!a1|| !a2)):=by rw[←h0,←h1,←h2];rfl
     have hbae:cr1 (ptE x)=(!b1|| !b2):=by rw[←h3,←h4];rfl
     rw[h0]at hw0;rw[h1]at hw1;rw[h2]at hw2;rw[h3]at hr1;rw[h4]at hr2;rw[hbad]at ha;rw[hbae]at hb
     have na:(K&& !(es.any fun e=>cr0 (ptE e)))=((a&& !(!a0||(!a1|| !a2))) && !((es.drop (i+1)).any fun e=>cr0 (ptE e))):=by
      rw[ha];exact dt6 _ _ _ _ _
     have nb:(true&& !(es.any fun e=>cr1 (ptE e)))=((b&& !(!b1|| !b2)) && !((es.drop (i+1)).any fun e=>cr1 (ptE e))):=by
      rw[hb];exact dt7 _ _ _ _
     repeat'(first|refine bd3 12 (fun v=>⟨[(3,.d (.bool v)),(1,.ptr 0 0),(4,.d (.bool b)),(5,.d (.int i)),(6,.ptr 1 0)],[oPA ⟨vr,ns,es⟩,oEP x]⟩) ((a&& !(!a0||(!a1|| !a2)))) ?_ ?_|refine yz ?_|refine yi (cp3 x) hx ?_|refine yp b347 hbo ?_|refine yp b346 hw0 ?_|refine qP (d:=47) rfl rfl rfl rfl rfl rfl bs0 (hw1) ?_|refine yp b348 hk ?_|refine qP (d:=53) rfl rfl rfl rfl rfl rfl bs0 (hw2) ?_|refine qP (d:=59) rfl rfl rfl rfl rfl rfl b349 (hr1) ?_|refine qP (d:=65) rfl rfl rfl rfl rfl rfl b349 (hr2) ?_|refine ac1 ⟨_,?_,(zle 2)⟩|refine yx ?_|(refine yy ?_ ?_<;>intro _)|(refine qV rfl ?_ ?_<;>intro _)|exact zD|exact zL)
     all_goals clear hho hfv hbo hk hw0 hw1 hw2 hr1 hr2 ha hb hbad hbae h0 h1 h2 h3 h4 hfit hft hme2 hmn2 hopn hok c1 c2 hh
     all_goals first|(refine ac1 ?_;refine⟨⟨⟨i+1,a&& !(!a0||(!a1|| !a2)),_,by omega,na,?nb⟩,hc⟩,?ms,(zle 1)⟩;(case ms=>(dsimp only;omega));(case nb=>(rw[nb];clear na nb hc;simp_all;done)))|(clear hc na nb;simp_all;done)|skip
   ·have g5:decide ((i:Int)<((es.map cp3).length:Int))=false:=by rw[hle];simp;omega
    rw[fp8 hge,fv4,fu4,Bool.and_true]at ha hb;rw[fp8 hge,fv4]at hc;rw[hc];simp only[cond_false]
    repeat'(first|refine yz ?_|refine yx ?_|(refine yy ?_ ?_<;>intro _)|exact zD|exact zL)
    clear hge hi g5 hc;refine ac7 (α:=SSh ns (fun n=>cr0 (ptN n)) (fun n=>cr1 (ptN n)) a b) (fun p=>⟨[(1,.ptr 0 0),(3,.d (.bool p.a)),(4,.d (.bool p.b)),(7,.d (.int p.i))],[oPA ⟨vr,ns,es⟩]⟩) (fun p=>ns.length-p.i) ⟨0,a,b,by omega,rfl,rfl⟩ (zle 1) ?_;rintro⟨j,a',b',hj,ha',hb'⟩;dsimp only at ha' hb' ⊢;rcases fp2 j ns.length with hlt|hge
    ·have g5:decide ((j:Int)<((ns.map cp2).length:Int))=true:=by rw[hln];simpa using hlt
     have hx0:=fp1 hlt;generalize ns[j]=x at hx0;have hx:=cv3 (f:=cp2) hx0;have hk:=ds8 x.ps (hmn2 x (fp3 hx0));have hw0:=ds3 x.vr;have hw1:=ds5 x.lb;have hw2:=ds5 (cq0 x.ps);have hr1:=ds2 x.lb;have hr2:=ds2 (cq0 x.ps);rw[dr9 hx0]at ha' hb';obtain⟨a0,h0⟩:∃b,cq9 x.vr=b:=⟨_,rfl⟩;obtain⟨a1,h1⟩:∃b,x.lb.all cn4=b:=⟨_,rfl⟩;obtain⟨a2,h2⟩:∃b,(cq0 x.ps).all cn4=b:=⟨_,rfl⟩;obtain⟨b1,h3⟩:∃b,cq1 x.lb=b:=⟨_,rfl⟩;obtain⟨b2,h4⟩:∃b,cq1 (cq0 x.ps)=b:=⟨_,rfl⟩;have hbad:cr0 (ptN x)=(!a0||(!a1|| !a2)):=by rw[←h0,←h1,←h2];rfl
     have hbae:cr1 (ptN x)=(!b1|| !b2):=by rw[←h3,←h4];rfl
     rw[h0]at hw0;rw[h1]at hw1;rw[h2]at hw2;rw[h3]at hr1;rw[h4]at hr2;rw[hbad]at ha';rw[hbae]at hb'
     have na:(a&& !(ns.any fun e=>cr0 (ptN e)))=((a'&& !(!a0||(!a1|| !a2))) && !((ns.drop (j+1)).any fun e=>cr0 (ptN e))):=by
      rw[ha'];exact dt6 _ _ _ _ _
     have nb:(b&& !(ns.any fun e=>cr1 (ptN e)))=((b'&& !(!b1|| !b2)) && !((ns.drop (j+1)).any fun e=>cr1 (ptN e))):=by
      rw[hb'];exact dt7 _ _ _ _
     repeat'(first|refine bd3 18 (fun v=>⟨[(3,.d (.bool v)),(1,.ptr 0 0),(4,.d (.bool b')),(7,.d (.int j)),(8,.ptr 1 0)],[oPA ⟨vr,ns,es⟩,oNP x]⟩) ((a'&& !(!a0||(!a1|| !a2)))) ?_ ?_|refine yz ?_|refine yi (cp2 x) hx ?_|refine qP (d:=83) rfl rfl rfl rfl rfl rfl b346 (hw0) ?_|refine qP (d:=88) rfl rfl rfl rfl rfl rfl bs0 (hw1) ?_|refine yp b348 hk ?_|refine qP (d:=94) rfl rfl rfl rfl rfl rfl bs0 (hw2) ?_|refine qP (d:=100) rfl rfl rfl rfl rfl rfl b349 (hr1) ?_|refine qP (d:=106) rfl rfl rfl rfl rfl rfl b349 (hr2) ?_|refine ac1 ⟨_,?_,(zle 2)⟩|refine yx ?_|(refine yy ?_ ?_<;>intro _)|(refine qV rfl ?_ ?_<;>intro _)|exact zD|exact zL)
     all_goals clear hho hfv hk hw0 hw1 hw2 hr1 hr2 ha hb ha' hb' hbad hbae h0 h1 h2 h3 h4 hfit hft hme2 hmn2 hopn hok c1 c2
     all_goals first|(refine ac1 ?_;refine⟨⟨j+1,a'&& !(!a0||(!a1|| !a2)),_,by omega,na,?nb⟩,?ms,(zle 1)⟩;(case ms=>(dsimp only;omega));(case nb=>(rw[nb];clear na nb;simp_all;done)))|(clear na nb;simp_all;done)|skip
    ·have g5:decide ((j:Int)<((ns.map cp2).length:Int))=false:=by rw[hln];simp;omega
     rw[fp8 hge,fv4,fu4,Bool.and_true]at ha' hb'
     have e1:(!K||((es.any fun e=>cr0 (ptE e))||ns.any fun n=>cr0 (ptN n)))= !a':=by
      rw[←ha',←ha]
      cases K<;>cases(es.any fun e=>cr0 (ptE e))<;>cases(ns.any fun n=>cr0 (ptN n))<;>rfl
     have e2:((es.any fun e=>cr1 (ptE e))||ns.any fun n=>cr1 (ptN n))= !b':=by
      rw[←hb',←hb]
      cases(es.any fun e=>cr1 (ptE e))<;>cases(ns.any fun n=>cr1 (ptN n))<;>rfl
     rw[e1,e2];clear ha hb ha' hb' e1 e2
     cases a' with
     |false=>
      exact Ok
     |true=>
      cases b' with
      |false=>
      exact Ok
      |true=>
       exact Ok
def du0(p:PA)(cr:Bool):Int:=
 bif cr2 (cr3 (cq8 p.ns p.es)) !=0 then cr2 (cr3 (cq8 p.ns p.es))else
 bif (cr3 (cq8 p.ns p.es)).any cp9 then 9 else
 bif cr&&p.es.any fun e=> !cq6 e then 1 else 0
theorem du1(p:PA)(cr:Bool):cr4 p cr=bif dt8 p !=0 then dt8 p else du0 p cr:=by
 unfold cr4 dt8 du0
 cases cq4 p
 ·cases(p.ns.length !=p.es.length+1||p.es.any fun e=> !cq5 e)
  ·cases(!(cq9 p.vr)||(cq8 p.ns p.es).any cr0)
   ·cases(cq8 p.ns p.es).any cr1<;>rfl
   ·rfl
  ·rfl
 ·rfl
structure SFi8(T:List Ex) where
 i:Nat
 hi:i≤T.length
 ok:cr2 T=cr2 (T.drop i)
structure SCr8(cr:Bool)(es:List EP) where
 i:Nat
 hi:i≤es.length
 ok:(cr&&es.any fun e=> !cq6 e)=(cr&&(es.drop i).any fun e=> !cq6 e)
theorem bool3(a b c:Bool):(a&&(b||c))=((a&&b)||(a&&c)):=by cases a<;>cases b<;>cases c<;>rfl
set_option maxHeartbeats 2000000 in
theorem du2(p:PA)(cr:Bool)(hok:OkPA p):Ev E 273 [cp4 p,.bool cr] (.d (.int (cr4 p cr))):=Ev.fit fun hfit=>by
 have hsh:=dt9 p hok;have hpr:=dt2 p hok.x hok.n;have hopn:=hok.x;have hope:=hok.e;rw[du1];unfold du0;generalize cr3 (cq8 p.ns p.es)=T at*;generalize dt8 p=z at*;obtain⟨vr,ns,es⟩:=p;dsimp only;have hft:=hfit (cp4 ⟨vr,ns,es⟩) Oc;have hme:=(cv4 (hft.aggs (.sl (es.map cp3)) Oc)).1;have hle:(es.map cp3).length=es.length:=Oc
 have hlT:(T.map by6).length=T.length:=Oc
 cases c1:z !=0 with
 |true=>
  refine ye2 func273 ntmps273 fun _ _ _=>?_
  repeat'(first|refine yz ?_|refine yp b319 hsh ?_|refine yx ?_|(refine yy ?_ ?_<;>intro _)|exact zD|exact zL)
 |false=>
  rw[cond_false];refine ye2 func273 ntmps273 fun _ _ _=>?_
  repeat'(first|refine yz ?_|refine yp b319 hsh ?_|refine yp b33 hpr ?_|refine yx ?_|(refine yy ?_ ?_<;>intro _)|exact zD|exact zL)
  refine ac7 (α:=SFi8 T) (fun p=>⟨[(1,.d (.bool cr)),(2,.ptr 0 0),(6,.d (.sl (T.map by6))),(7,.d (.int p.i))],[oPA ⟨vr,ns,es⟩]⟩) (fun p=>T.length-p.i) ⟨0,by omega,rfl⟩ (zle 1) ?_;rintro⟨i,hi,ok⟩;dsimp only at ok ⊢;rcases fp2 i T.length with hlt|hge
  ·have g1:decide ((i:Int)<((T.map by6).length:Int))=true:=by rw[hlT];simpa using hlt
   have hx0:=fp1 hlt;generalize T[i]=x at hx0;have hx:=cv3 (f:=by6) hx0;have hxe:=hope x (fp3 hx0);have hce:=cp0 x hxe.1 hxe.2;rw[cv2 hx0,cr2]at ok
   cases he:co8 x !=0 with
   |true=>
    rw[he,cond_true]at ok;rw[ok,he,cond_true]
    repeat'(first|refine yz ?_|refine yi (by6 x) hx ?_|refine yp b76 hce ?_|refine yx ?_|(refine yy ?_ ?_<;>intro _)|exact zD|exact zL)
   |false=>
    rw[he,cond_false]at ok
    repeat'(first|refine yz ?_|refine yi (by6 x) hx ?_|refine yp b76 hce ?_|refine yx ?_|(refine yy ?_ ?_<;>intro _)|exact zD|exact zL)
    refine ac1 ?_;exact⟨⟨i+1,by omega,ok⟩,by dsimp only;omega,(zle 1)⟩
  ·have g1:decide ((i:Int)<((T.map by6).length:Int))=false:=by rw[hlT];simp;omega
   rw[fp8 hge]at ok;rw[show cr2 T=0 from ok,show((0:Int) !=0)=false from rfl,cond_false]
   repeat'(first|refine yz ?_|refine yx ?_|(refine yy ?_ ?_<;>intro _)|exact zD|exact zL)
   clear ok hge hi g1;refine ac7 (α:=SNc T cp9) (fun p=>⟨[(1,.d (.bool cr)),(2,.ptr 0 0),(6,.d (.sl (T.map by6))),(9,.d (.int p.i))],[oPA ⟨vr,ns,es⟩]⟩) (fun p=>T.length-p.i) ⟨0,by omega,rfl⟩ (zle 1) ?_;rintro⟨i,hi,ok⟩;dsimp only at ok ⊢;rcases fp2 i T.length with hlt|hge
   ·have g1:decide ((i:Int)<((T.map by6).length:Int))=true:=by rw[hlT];simpa using hlt
    have hx0:=fp1 hlt;generalize T[i]=x at hx0;have hx:=cv3 (f:=by6) hx0;have hha:=ds6 x;rw[dr9 hx0]at ok
    cases hb:cp9 x with
    |true=>
     rw[hb]at hha ok;rw[ok,fx6,cond_true]
     repeat'(first|refine yz ?_|refine yi (by6 x) hx ?_|refine yp bp9 hha ?_|refine yx ?_|(refine yy ?_ ?_<;>intro _)|exact zD|exact zL)
    |false=>
     rw[hb]at hha ok
     repeat'(first|refine yz ?_|refine yi (by6 x) hx ?_|refine yp bp9 hha ?_|refine yx ?_|(refine yy ?_ ?_<;>intro _)|exact zD|exact zL)
     refine ac1 ?_;exact⟨⟨i+1,by omega,by rw[ok];rfl⟩,by dsimp only;omega,(zle 1)⟩
   ·have g1:decide ((i:Int)<((T.map by6).length:Int))=false:=by rw[hlT];simp;omega
    rw[fp8 hge,fv4]at ok;rw[ok,cond_false]
    repeat'(first|refine yz ?_|refine yx ?_|(refine yy ?_ ?_<;>intro _)|exact zD|exact zL)
    clear ok hge hi g1;refine ac7 (α:=SCr8 cr es) (fun p=>⟨[(1,.d (.bool cr)),(2,.ptr 0 0),(10,.d (.int p.i))],[oPA ⟨vr,ns,es⟩]⟩) (fun p=>es.length-p.i) ⟨0,by omega,rfl⟩ (zle 1) ?_;rintro⟨i,hi,ok⟩;dsimp only at ok ⊢;rcases fp2 i es.length with hlt|hge
    ·have g1:decide ((i:Int)<((es.map cp3).length:Int))=true:=by rw[hle];simpa using hlt
     have hx0:=fp1 hlt;generalize es[i]=x at hx0;have hx:=cv3 (f:=cp3) hx0;rw[dr9 hx0,bool3]at ok;have hcr:cq6 x=(x.mode==0&&(x.ty.length==1&&x.dir !=3)):=rfl;have hlx:(x.ty.map D.str).length=x.ty.length:=Oc
     cases hb:cr&& !cq6 x with
     |true=>
      rw[hb,fx6]at ok;rw[ok,cond_true]
      repeat'(first|refine bd3 20 (fun b=>⟨[(72,.d (.bool b))],[oPA ⟨vr,ns,es⟩]⟩) (true) ?_ ?_|refine yz ?_|refine yi (cp3 x) hx ?_|refine ac1 ⟨_,?_,(zle 1)⟩|refine yx ?_|(refine yy ?_ ?_<;>intro _)|(refine qV rfl ?_ ?_<;>intro _)|exact zD|exact zL)
      all_goals(clear hsh hpr hfit hft hok hope ok;simp_all)
      all_goals omega
     |false=>
      rw[hb,fs4]at ok
      repeat'(first|refine bd3 20 (fun b=>⟨[(72,.d (.bool b)),(1,.d (.bool cr)),(2,.ptr 0 0),(10,.d (.int i))],[oPA ⟨vr,ns,es⟩]⟩) (false) ?_ ?_|refine yz ?_|refine yi (cp3 x) hx ?_|refine ac1 ⟨_,?_,(zle 1)⟩|refine yx ?_|(refine yy ?_ ?_<;>intro _)|(refine qV rfl ?_ ?_<;>intro _)|exact zD|exact zL)
      all_goals first|(refine ac1 ?_;exact⟨⟨i+1,by omega,ok⟩,by dsimp only;omega,(zle 1)⟩)|(clear hsh hpr hfit hft hok hope ok;simp_all;done)|(clear hsh hpr hfit hft hok hope ok;simp_all;omega)
    ·have g1:decide ((i:Int)<((es.map cp3).length:Int))=false:=by rw[hle];simp;omega
     rw[fp8 hge,fv4,Bool.and_false]at ok;rw[ok,cond_false]
     exact Ok
theorem du3(e:Ex):Ev E 192 [by6 e] (.d (.bool (cr5 e))):=by
 obtain⟨op,v,nm,ds,ks⟩:=e;have hb:=ci2 v;have hk:=bz1 (.mk op v nm ds ks);simp only[Ex.ks]at hk;obtain⟨bv,hbv⟩:∃b,ci1 v=b:=⟨_,rfl⟩;have hz:cr5 (.mk op v nm ds ks)=(op==0&&(bv&&(nm.toList==(⟨#[]⟩:ByteArray).toList&&(!ds&&ks.length==0)))):=by rw[←hbv];rfl
 rw[hbv]at hb;refine ye1 func192 ntmps192 fun _ _ _=>?_
 repeat'(first|refine yz ?_|refine yp b262 hb ?_|refine yx ?_|(refine yy ?_ ?_<;>intro _)|(refine qV rfl ?_ ?_<;>intro _)|exact zD|exact zL)
 all_goals(refine congrArg D.bool ?_;rw[hz];clear hz hb hbv;simp_all [Ex.op,Ex.nm,Ex.ds])
 all_goals(rw[fq3];simp)
 all_goals omega
theorem du4(e:Ex):Ev E 133 [by6 e] (.d (.bool (cr5 e))):=by
 obtain⟨op,v,nm,ds,ks⟩:=e;have hb:=ci3 v;have hk:=bz1 (.mk op v nm ds ks);simp only[Ex.ks]at hk;obtain⟨bv,hbv⟩:∃b,ci1 v=b:=⟨_,rfl⟩;have hz:cr5 (.mk op v nm ds ks)=(op==0&&(bv&&(nm.toList==(⟨#[]⟩:ByteArray).toList&&(!ds&&ks.length==0)))):=by rw[←hbv];rfl
 rw[hbv]at hb;refine ye1 func133 ntmps133 fun _ _ _=>?_
 repeat'(first|refine yz ?_|refine yp b206 hb ?_|refine yx ?_|(refine yy ?_ ?_<;>intro _)|(refine qV rfl ?_ ?_<;>intro _)|exact zD|exact zL)
 all_goals(refine congrArg D.bool ?_;rw[hz];clear hz hb hbv;simp_all [Ex.op,Ex.nm,Ex.ds])
 all_goals(rw[fq3];simp)
 all_goals omega
theorem du5(n:Int):Ev E 193 [.int n] (.d (.bool (cr6 n))):=by
 refine ye1 func193 ntmps193 fun _ _ _=>?_
 repeat'(first|refine yz ?_|refine yx ?_|(refine yy ?_ ?_<;>intro _)|(refine qV rfl ?_ ?_<;>intro _)|exact zD|exact zL)
 all_goals(refine congrArg D.bool ?_;simp_all [cr6])
theorem within_ev(n lo hi:Nat):Ev E 194 [.int n,.int lo,.int hi] (.d (.bool (inN n lo hi))):=by
 refine ye3 func194 ntmps194 fun _ _ _=>?_
 repeat'(first|refine yz ?_|refine yx ?_|(refine yy ?_ ?_<;>intro _)|(refine qV rfl ?_ ?_<;>intro _)|exact zD|exact zL)
 all_goals(refine congrArg D.bool ?_;simp_all [inN]<;>omega)
theorem du6(v:V):Ev E 106 [enc v] (.d (.bool (ci1 v))):=by
 obtain⟨k,n,d,s,l⟩:=v;have hk:=bn5 (.mk k n d s l);simp only[V.l]at hk;refine ye1 func106 ntmps106 fun _ _ _=>?_
 repeat'(first|refine yz ?_|(refine yy ?_ ?_<;>intro _))
 all_goals(refine congrArg D.bool ?_;unfold ci1;simp_all [l0,s0])
 all_goals(rw[fq3];simp)
 all_goals omega
theorem du7(e:Ex):Ev E 56 [by6 e] (.d (.bool (cr5 e))):=by
 obtain⟨op,v,nm,ds,ks⟩:=e;have hb:=du6 v;have hk:=bz1 (.mk op v nm ds ks);simp only[Ex.ks]at hk;obtain⟨bv,hbv⟩:∃b,ci1 v=b:=⟨_,rfl⟩;have hz:cr5 (.mk op v nm ds ks)=(op==0&&(bv&&(nm.toList==(⟨#[]⟩:ByteArray).toList&&(!ds&&ks.length==0)))):=by rw[←hbv];rfl
 rw[hbv]at hb;refine ye1 func56 ntmps56 fun _ _ _=>?_
 repeat'(first|refine yz ?_|refine yp b106 hb ?_|(refine yy ?_ ?_<;>intro _))
 all_goals(refine congrArg D.bool ?_;rw[hz];clear hz hb hbv;simp_all [Ex.op,Ex.nm,Ex.ds])
 all_goals(rw[fq3];simp)
 all_goals omega
def du8(c:CL):Nat:=c.ps.length+c.wh.length+c.it.length+c.od.length+c.st.length+c.ns.length
theorem du9(c:CL):do1 c=(c.k==0&&(!c.opt&&(!c.ds&&(du8 c==0&&(cr5 c.e&&(s0B c.nm&&(c.sk==0&&c.lm==0))))))):=by
 rw[fq3];unfold do1 du8;simp only[fq9,beq_iff_eq,Bool.not_eq_true'];constructor
 ·rintro⟨h1,h2,h3,h4,h5,h6,h7,h8,h9,h10,h11,h12,h13⟩;exact⟨h1,h2,h3,by omega,h6,h7,h10,h11⟩
 ·rintro⟨h1,h2,h3,h4,h5,h6,h7,h8⟩;exact⟨h1,h2,h3,by omega,by omega,h5,h6,by omega,by omega,h7,h8,by omega,by omega⟩
set_option maxHeartbeats 2000000 in
theorem dv0(c:CL)(hl:du8 c≤1000000000000):Ev E 55 [cp8 c] (.d (.bool (do1 c))):=by
 have hb:=du7 c.e;rw[du9];unfold du8 at*;obtain⟨k,opt,ds,ps,wh,e,nm,it,od,sk,lm,st,ns⟩:=c;simp only at hl hb ⊢;have l1:(ps.map cp4).length=ps.length:=Oc
 have l2:(by5 wh).length=wh.length:=bz2 wh;have l3:(it.map cp5).length=it.length:=Oc
 have l4:(od.map cp6).length=od.length:=Oc
 have l5:(st.map cp7).length=st.length:=Oc
 have l6:(ns.map D.str).length=ns.length:=Oc
 obtain⟨ze,hze⟩:∃b,cr5 e=b:=⟨_,rfl⟩;rw[hze]at hb ⊢
 have hsum:(((ps.map cp4).length:Int)+((by5 wh).length:Int)+((it.map cp5).length:Int)+((od.map cp6).length:Int)+((st.map cp7).length:Int)+((ns.map D.str).length:Int)==0)=(ps.length+wh.length+it.length+od.length+st.length+ns.length==0):=by
  rw[fq3,beq_iff_eq,beq_iff_eq];omega
 obtain⟨zs,hzs⟩:∃b,(ps.length+wh.length+it.length+od.length+st.length+ns.length==0)=b:=⟨_,rfl⟩;have hs0:(nm.toList==(⟨#[]⟩:ByteArray).toList)=s0B nm:=rfl;rw[hzs]at hsum ⊢;show Ev E 55 [.agg [.int k,.bool opt,.bool ds,.sl (ps.map cp4),.sl (by5 wh),.int e.op,.int e.v.k,.int e.v.n,.int e.v.d,.str e.v.s,.sl (kids e.v),.str e.nm,.bool e.ds,.sl (by4 e),.str nm,.sl (it.map cp5),.sl (od.map cp6),.int sk,.int lm,.sl (st.map cp7),.sl (ns.map .str)]] _
 cases c1:k==0 with
 |false=>
  refine ye1 func55 ntmps55 fun _ _ _=>?_
  exact Ok
 |true=>
 cases opt with
 |true=>
  refine ye1 func55 ntmps55 fun _ _ _=>?_
  exact Ok
 |false=>
 cases ds with
 |true=>
  refine ye1 func55 ntmps55 fun _ _ _=>?_
  exact Ok
 |false=>
 cases zs with
 |false=>
  refine ye1 func55 ntmps55 fun _ _ _=>?_
  exact Ok
 |true=>
 cases ze with
 |false=>
  refine ye1 func55 ntmps55 fun _ _ _=>?_
  repeat'(first|refine yz ?_|refine yp b56 hb ?_|refine yx ?_|exact zD)
 |true=>
 cases c2:s0B nm with
 |false=>
  have g2:(nm.toList==(⟨#[]⟩:ByteArray).toList)=false:=c2;refine ye1 func55 ntmps55 fun _ _ _=>?_
  repeat'(first|refine yz ?_|refine yp b56 hb ?_|refine yx ?_|exact zD)
 |true=>
 have g2:(nm.toList==(⟨#[]⟩:ByteArray).toList)=true:=c2
 cases c3:sk==0 with
 |false=>
  refine ye1 func55 ntmps55 fun _ _ _=>?_
  repeat'(first|refine yz ?_|refine yp b56 hb ?_|refine yx ?_|exact zD)
 |true=>
  refine ye1 func55 ntmps55 fun _ _ _=>?_
  repeat'(first|refine yz ?_|refine yp b56 hb ?_|refine yx ?_|exact zD)
abbrev shP(k:Int)(a b c d e f g:Bool):D:=.agg [.int k,.bool a,.bool b,.bool c,.bool d,.bool e,.bool f,.bool g]
def dv1(op:Int):D × Bool:=
 bif op==1 then(shP 0 false false false false false false false,true)else
 bif op==2 then(shP 0 true false false false false false false,true)else
 bif op==3||op==4 then(shP 2 false false false false false false false,true)else
 bif op==5 then(shP 1 false true false false false false false,true)else
 bif op==6 then(shP 1 false false true false false false false,true)else
 bif op==7||op==8 then(shP 1 false false false false true false false,true)else
 bif op==9 then(shP 1 false false false false false false false,true)else
 bif op==10 then(shP 1 false false false false false true false,true)else
 bif op==11 then(shP 1 false false true true false false false,true)else(shP 0 false false false false false false false,false)
theorem dv2(op:Int):op=1∨op=2∨op=3∨op=4∨op=5∨op=6∨op=7∨op=8∨op=9∨op=10∨op=11∨
  ((op==1)=false∧(op==2)=false∧(op==3)=false∧(op==4)=false∧(op==5)=false∧(op==6)=false∧(op==7)=false∧(op==8)=false∧(op==9)=false∧(op==10)=false∧(op==11)=false):=by
 simp only[beq_eq_false_iff_ne];omega
theorem dv3(op:Int):Ev E 54 [.int op] (.tup [(dv1 op).1,.bool (dv1 op).2]):=by
 unfold dv1;rcases dv2 op with rfl|rfl|rfl|rfl|rfl|rfl|rfl|rfl|rfl|rfl|rfl|⟨h1,h2,h3,h4,h5,h6,h7,h8,h9,h10,h11⟩
 all_goals(try rw[h1,h2,h3,h4,h5,h6,h7,h8,h9,h10,h11])
 all_goals
  refine ye1 func54 ntmps54 fun _ _ _=>?_
  exact Ok
def FMp(op:Int)(b0 b1 b2 b3 b4 b5 b6 b7 b8 b9 b10 b11:Bool):Bool:=
 !b0&&(((op==2|| !b1) &&((bif op==5 then b9 else b2) &&((op==6||(op==11||b3)) &&((op==11|| !b4) &&(op==7||(op==8|| !b5)))))) &&(bif op==10 then b10&&b11 else b6&&(b7&&b8)))
theorem dv4(b:PB)(n:Nat):do2 b n=FMp b.op ((n:Int) !=do0 b.op) (decide (((b.cj.vs.map D.str).length:Int)+((b.cj.as.map cd8).length:Int)>0)) (do1 b.cl) (cr5 b.e) (!(s0B b.nm)) (decide (((b.it.map cp5).length:Int)>0)) (((b.od.map cp6).length:Int)==0) (b.sk==0) (b.lm==0) (b.cl.k==1) (decide (b.sk≥ -1)) (decide (b.lm≥ -1)):=by
 have e0:(do0 b.op==(n:Int))= !((n:Int) !=do0 b.op):=by rw[fq3];simp;exact⟨fun h=>h.symm,fun h=>h.symm⟩
 have e1:(b.cj.vs.length==0&&b.cj.as.length==0)= !(decide (((b.cj.vs.map D.str).length:Int)+((b.cj.as.map cd8).length:Int)>0)):=by
  rw[fq3];simp only[fp6,fq9,beq_iff_eq,Bool.not_eq_true',decide_eq_false_iff_not];omega
 have e2:(b.it.length==0)= !(decide (((b.it.map cp5).length:Int)>0)):=by
  rw[fq3];simp only[fp6,beq_iff_eq,Bool.not_eq_true',decide_eq_false_iff_not];omega
 have e3:(b.od.length==0)=(((b.od.map cp6).length:Int)==0):=by
  rw[fq3];simp only[fp6,beq_iff_eq];omega
 unfold do2 fldF endF FMp;rw[e0,e1,e2,e3,Bool.not_not]
set_option maxHeartbeats 8000000 in
theorem dv5(b:PB)(K:List D)(hK:K.length≤1000000000000)(h1:b.cj.vs.length+b.cj.as.length≤1000000000000)(h2:du8 b.cl≤1000000000000):Ev E 36 [dn5 b K] (.d (.bool (do2 b K.length))):=by
 have hs:=dv3 b.op;have hb:=du7 b.e;have hc:=dv0 b.cl h2;rw[dv4];obtain⟨op,cj,cl,e,nm,it,od,sk,lm⟩:=b;obtain⟨vs,as28⟩:=cj;obtain⟨ck,copt,cds,cps,cwh,ce,cnm,cit,cod,csk,clm,cst,cns⟩:=cl;simp only at hs hb hc h1 ⊢;have hlv:(vs.map D.str).length=vs.length:=Oc
 have hla:(as28.map cd8).length=as28.length:=Oc
 have g4:(!(nm.toList==(⟨#[]⟩:ByteArray).toList))= !(s0B nm):=rfl;generalize cr5 e=ze at*;generalize do1 _=zc at*;generalize s0B nm=zn at*
 show Ev E 36 [.agg [.int op,.sl K,.sl (vs.map D.str),.sl (as28.map cd8),.int ck,.bool copt,.bool cds,.sl (cps.map cp4),.sl (by5 cwh),.int ce.op,.int ce.v.k,.int ce.v.n,.int ce.v.d,.str ce.v.s,.sl (kids ce.v),.str ce.nm,.bool ce.ds,.sl (by4 ce),.str cnm,.sl (cit.map cp5),.sl (cod.map cp6),.int csk,.int clm,.sl (cst.map cp7),.sl (cns.map .str),
  .int e.op,.int e.v.k,.int e.v.n,.int e.v.d,.str e.v.s,.sl (kids e.v),.str e.nm,.bool e.ds,.sl (by4 e),.str nm,.sl (it.map cp5),.sl (od.map cp6),.int sk,.int lm]] _
 generalize vs.map D.str=LV at*;generalize as28.map cd8=LA at*;generalize it.map cp5=LI at*;generalize od.map cp6=LO at*;rcases dv2 op with rfl|rfl|rfl|rfl|rfl|rfl|rfl|rfl|rfl|rfl|rfl|⟨q1,q2,q3,q4,q5,q6,q7,q8,q9,q10,q11⟩
 rotate_right
 ·have hk:do0 op= -1:=by
   have:(decide (op≥5) &&decide (op≤11))=false:=by
    rw[Bool.and_eq_false_iff,decide_eq_false_iff_not,decide_eq_false_iff_not];simp only[beq_eq_false_iff_ne]at*;omega
   unfold do0;rw[q1,q2,q3,q4,this];rfl
  have hn:((K.length:Int) !=do0 op)=true:=by rw[hk,bne_iff_ne];omega
  have hf:(dv1 op).2=false:=by unfold dv1;rw[q1,q2,q3,q4,q5,q6,q7,q8,q9,q10,q11];rfl
  have hf1:(dv1 op).1=shP 0 false false false false false false false:=by unfold dv1;rw[q1,q2,q3,q4,q5,q6,q7,q8,q9,q10,q11];rfl
  rw[hf,hf1]at hs;rw[hn];show Ev E 36 _ (.d (.bool false));refine ye1 func36 ntmps36 fun _ _ _=>?_
  repeat'(first|refine yz ?_|refine yp b54 hs ?_|exact zD)
 ·have hs:Ev E 54 [.int 1] (.tup [shP 0 false false false false false false false,.bool true]):=hs;generalize hb0:((K.length:Int) !=do0 1)=b0;generalize hb1:decide ((LV.length:Int)+(LA.length:Int)>0)=b1;generalize hb5:decide ((LI.length:Int)>0)=b5;generalize hb6:((LO.length:Int)==0)=b6;generalize hb7:(sk==0)=b7;generalize hb8:(lm==0)=b8;generalize hb9:(ck==1)=b9;generalize hb10:decide (sk≥ -1)=b10;generalize hb11:decide (lm≥ -1)=b11;have hb0:((K.length:Int) !=0)=b0:=hb0;refine ye1 func36 ntmps36 fun _ _ _=>?_
  repeat'(first|refine yz ?_|refine yp b54 hs ?_|refine yp b56 hb ?_|refine yp b55 hc ?_|(refine yy ?_ ?_<;>intro _)|(refine qV rfl ?_ ?_<;>intro _))
  all_goals(refine congrArg D.bool ?_;clear hs hb hc;subst hb7 hb8 hb9 hb10 hb11;simp_all [FMp]<;>omega)
 ·have hs:Ev E 54 [.int 2] (.tup [shP 0 true false false false false false false,.bool true]):=hs;generalize hb0:((K.length:Int) !=do0 2)=b0;generalize hb1:decide ((LV.length:Int)+(LA.length:Int)>0)=b1;generalize hb5:decide ((LI.length:Int)>0)=b5;generalize hb6:((LO.length:Int)==0)=b6;generalize hb7:(sk==0)=b7;generalize hb8:(lm==0)=b8;generalize hb9:(ck==1)=b9;generalize hb10:decide (sk≥ -1)=b10;generalize hb11:decide (lm≥ -1)=b11;have hb0:((K.length:Int) !=0)=b0:=hb0;refine ye1 func36 ntmps36 fun _ _ _=>?_
  repeat'(first|refine yz ?_|refine yp b54 hs ?_|refine yp b56 hb ?_|refine yp b55 hc ?_|(refine yy ?_ ?_<;>intro _)|(refine qV rfl ?_ ?_<;>intro _))
  all_goals(refine congrArg D.bool ?_;clear hs hb hc;subst hb7 hb8 hb9 hb10 hb11;simp_all [FMp]<;>omega)
 ·have hs:Ev E 54 [.int 3] (.tup [shP 2 false false false false false false false,.bool true]):=hs;generalize hb0:((K.length:Int) !=do0 3)=b0;generalize hb1:decide ((LV.length:Int)+(LA.length:Int)>0)=b1;generalize hb5:decide ((LI.length:Int)>0)=b5;generalize hb6:((LO.length:Int)==0)=b6;generalize hb7:(sk==0)=b7;generalize hb8:(lm==0)=b8;generalize hb9:(ck==1)=b9;generalize hb10:decide (sk≥ -1)=b10;generalize hb11:decide (lm≥ -1)=b11;have hb0:((K.length:Int) !=2)=b0:=hb0;refine ye1 func36 ntmps36 fun _ _ _=>?_
  repeat'(first|refine yz ?_|refine yp b54 hs ?_|refine yp b56 hb ?_|refine yp b55 hc ?_|(refine yy ?_ ?_<;>intro _)|(refine qV rfl ?_ ?_<;>intro _))
  all_goals(refine congrArg D.bool ?_;clear hs hb hc;subst hb7 hb8 hb9 hb10 hb11;simp_all [FMp]<;>omega)
 ·have hs:Ev E 54 [.int 4] (.tup [shP 2 false false false false false false false,.bool true]):=hs;generalize hb0:((K.length:Int) !=do0 4)=b0;generalize hb1:decide ((LV.length:Int)+(LA.length:Int)>0)=b1;generalize hb5:decide ((LI.length:Int)>0)=b5;generalize hb6:((LO.length:Int)==0)=b6;generalize hb7:(sk==0)=b7;generalize hb8:(lm==0)=b8;generalize hb9:(ck==1)=b9;generalize hb10:decide (sk≥ -1)=b10;generalize hb11:decide (lm≥ -1)=b11;have hb0:((K.length:Int) !=2)=b0:=hb0;refine ye1 func36 ntmps36 fun _ _ _=>?_
  repeat'(first|refine yz ?_|refine yp b54 hs ?_|refine yp b56 hb ?_|refine yp b55 hc ?_|(refine yy ?_ ?_<;>intro _)|(refine qV rfl ?_ ?_<;>intro _))
  all_goals(refine congrArg D.bool ?_;clear hs hb hc;subst hb7 hb8 hb9 hb10 hb11;simp_all [FMp]<;>omega)
 ·have hs:Ev E 54 [.int 5] (.tup [shP 1 false true false false false false false,.bool true]):=hs;generalize hb0:((K.length:Int) !=do0 5)=b0;generalize hb1:decide ((LV.length:Int)+(LA.length:Int)>0)=b1;generalize hb5:decide ((LI.length:Int)>0)=b5;generalize hb6:((LO.length:Int)==0)=b6;generalize hb7:(sk==0)=b7;generalize hb8:(lm==0)=b8;generalize hb9:(ck==1)=b9;generalize hb10:decide (sk≥ -1)=b10;generalize hb11:decide (lm≥ -1)=b11;have hb0:((K.length:Int) !=1)=b0:=hb0;refine ye1 func36 ntmps36 fun _ _ _=>?_
  repeat'(first|refine yz ?_|refine yp b54 hs ?_|refine yp b56 hb ?_|(refine yy ?_ ?_<;>intro _)|(refine qV rfl ?_ ?_<;>intro _))
  all_goals(refine congrArg D.bool ?_;clear hs hb hc;subst hb7 hb8 hb9 hb10 hb11;simp_all [FMp]<;>omega)
 ·have hs:Ev E 54 [.int 6] (.tup [shP 1 false false true false false false false,.bool true]):=hs;generalize hb0:((K.length:Int) !=do0 6)=b0;generalize hb1:decide ((LV.length:Int)+(LA.length:Int)>0)=b1;generalize hb5:decide ((LI.length:Int)>0)=b5;generalize hb6:((LO.length:Int)==0)=b6;generalize hb7:(sk==0)=b7;generalize hb8:(lm==0)=b8;generalize hb9:(ck==1)=b9;generalize hb10:decide (sk≥ -1)=b10;generalize hb11:decide (lm≥ -1)=b11;have hb0:((K.length:Int) !=1)=b0:=hb0;refine ye1 func36 ntmps36 fun _ _ _=>?_
  repeat'(first|refine yz ?_|refine yp b54 hs ?_|refine yp b55 hc ?_|(refine yy ?_ ?_<;>intro _)|(refine qV rfl ?_ ?_<;>intro _))
  all_goals(refine congrArg D.bool ?_;clear hs hb hc;subst hb7 hb8 hb9 hb10 hb11;simp_all [FMp]<;>omega)
 ·have hs:Ev E 54 [.int 7] (.tup [shP 1 false false false false true false false,.bool true]):=hs;generalize hb0:((K.length:Int) !=do0 7)=b0;generalize hb1:decide ((LV.length:Int)+(LA.length:Int)>0)=b1;generalize hb5:decide ((LI.length:Int)>0)=b5;generalize hb6:((LO.length:Int)==0)=b6;generalize hb7:(sk==0)=b7;generalize hb8:(lm==0)=b8;generalize hb9:(ck==1)=b9;generalize hb10:decide (sk≥ -1)=b10;generalize hb11:decide (lm≥ -1)=b11;have hb0:((K.length:Int) !=1)=b0:=hb0;refine ye1 func36 ntmps36 fun _ _ _=>?_
  repeat'(first|refine yz ?_|refine yp b54 hs ?_|refine yp b56 hb ?_|refine yp b55 hc ?_|(refine yy ?_ ?_<;>intro _)|(refine qV rfl ?_ ?_<;>intro _))
  all_goals(refine congrArg D.bool ?_;clear hs hb hc;subst hb7 hb8 hb9 hb10 hb11;simp_all [FMp]<;>omega)
 ·have hs:Ev E 54 [.int 8] (.tup [shP 1 false false false false true false false,.bool true]):=hs;generalize hb0:((K.length:Int) !=do0 8)=b0;generalize hb1:decide ((LV.length:Int)+(LA.length:Int)>0)=b1;generalize hb5:decide ((LI.length:Int)>0)=b5;generalize hb6:((LO.length:Int)==0)=b6;generalize hb7:(sk==0)=b7;generalize hb8:(lm==0)=b8;generalize hb9:(ck==1)=b9;generalize hb10:decide (sk≥ -1)=b10;generalize hb11:decide (lm≥ -1)=b11;have hb0:((K.length:Int) !=1)=b0:=hb0;refine ye1 func36 ntmps36 fun _ _ _=>?_
  repeat'(first|refine yz ?_|refine yp b54 hs ?_|refine yp b56 hb ?_|refine yp b55 hc ?_|(refine yy ?_ ?_<;>intro _)|(refine qV rfl ?_ ?_<;>intro _))
  all_goals(refine congrArg D.bool ?_;clear hs hb hc;subst hb7 hb8 hb9 hb10 hb11;simp_all [FMp]<;>omega)
 ·have hs:Ev E 54 [.int 9] (.tup [shP 1 false false false false false false false,.bool true]):=hs;generalize hb0:((K.length:Int) !=do0 9)=b0;generalize hb1:decide ((LV.length:Int)+(LA.length:Int)>0)=b1;generalize hb5:decide ((LI.length:Int)>0)=b5;generalize hb6:((LO.length:Int)==0)=b6;generalize hb7:(sk==0)=b7;generalize hb8:(lm==0)=b8;generalize hb9:(ck==1)=b9;generalize hb10:decide (sk≥ -1)=b10;generalize hb11:decide (lm≥ -1)=b11;have hb0:((K.length:Int) !=1)=b0:=hb0;refine ye1 func36 ntmps36 fun _ _ _=>?_
  repeat'(first|refine yz ?_|refine yp b54 hs ?_|refine yp b56 hb ?_|refine yp b55 hc ?_|(refine yy ?_ ?_<;>intro _)|(refine qV rfl ?_ ?_<;>intro _))
  all_goals(refine congrArg D.bool ?_;clear hs hb hc;subst hb7 hb8 hb9 hb10 hb11;simp_all [FMp]<;>omega)
 ·have hs:Ev E 54 [.int 10] (.tup [shP 1 false false false false false true false,.bool true]):=hs;generalize hb0:((K.length:Int) !=do0 10)=b0;generalize hb1:decide ((LV.length:Int)+(LA.length:Int)>0)=b1;generalize hb5:decide ((LI.length:Int)>0)=b5;generalize hb6:((LO.length:Int)==0)=b6;generalize hb7:(sk==0)=b7;generalize hb8:(lm==0)=b8;generalize hb9:(ck==1)=b9;generalize hb10:decide (sk≥ -1)=b10;generalize hb11:decide (lm≥ -1)=b11;have hb0:((K.length:Int) !=1)=b0:=hb0;refine ye1 func36 ntmps36 fun _ _ _=>?_
  repeat'(first|refine yz ?_|refine yp b54 hs ?_|refine yp b56 hb ?_|refine yp b55 hc ?_|(refine yy ?_ ?_<;>intro _)|(refine qV rfl ?_ ?_<;>intro _))
  all_goals(refine congrArg D.bool ?_;clear hs hb hc;subst hb7 hb8 hb9 hb10 hb11;simp_all [FMp]<;>omega)
 ·have hs:Ev E 54 [.int 11] (.tup [shP 1 false false true true false false false,.bool true]):=hs;generalize hb0:((K.length:Int) !=do0 11)=b0;generalize hb1:decide ((LV.length:Int)+(LA.length:Int)>0)=b1;generalize hb5:decide ((LI.length:Int)>0)=b5;generalize hb6:((LO.length:Int)==0)=b6;generalize hb7:(sk==0)=b7;generalize hb8:(lm==0)=b8;generalize hb9:(ck==1)=b9;generalize hb10:decide (sk≥ -1)=b10;generalize hb11:decide (lm≥ -1)=b11;have hb0:((K.length:Int) !=1)=b0:=hb0;refine ye1 func36 ntmps36 fun _ _ _=>?_
  repeat'(first|refine yz ?_|refine yp b54 hs ?_|refine yp b55 hc ?_|(refine yy ?_ ?_<;>intro _)|(refine qV rfl ?_ ?_<;>intro _))
  all_goals(refine congrArg D.bool ?_;clear hs hb hc;subst hb7 hb8 hb9 hb10 hb11;simp_all [FMp]<;>omega)
end Go.Proofs.YtndgolmgaenlfaaGreatDoor
namespace Go.Proofs.YtndgolmgaenlfaaGreatDoor
set_option maxRecDepth 4000
open Go Go.Abs Go.Val Go.RowKit Go.Shelf Go.Proofs.Tryz
def dv6(s:ByteArray):Ex:=.mk 2 bo3 s false []
theorem dv7(s:ByteArray):dp (dv6 s)=1:=by rw[dv6,cj9];rfl
theorem dv8(s:ByteArray):nd (dv6 s)=1:=by rw[dv6,cj4];rfl
theorem dv9(s:ByteArray):(co8 (dv6 s)==0)=cn4 s:=by
 have h1:co8 (dv6 s)=co0 (dv6 s) false:=by
  unfold co8;rw[show decide (dp (dv6 s)>24)=false by rw[decide_eq_false_iff_not];have:=dv7 s;omega,show decide (nd (dv6 s)>300)=false by rw[decide_eq_false_iff_not];have:=dv8 s;omega];rfl
 have h2:cn9 (dv6 s) false=bif !(cn4 s)then 6 else 0:=by
  unfold cn9
  rw[show((decide ((dv6 s).op<1)||decide ((dv6 s).op>24))||(!ci4 (dv6 s)|| !cj0 (dv6 s)))=false by
   show((false||false)||(!(kn0 (dv6 s)==0)|| !((false||ci1 bo3) &&((ci8 2||isS s ⟨#[]⟩) &&(false|| !false)))))=false;rw[show(kn0 (dv6 s)==0)=true from rfl,show ci1 bo3=true from by decide+kernel,show ci8 2=true from rfl];rfl]
  rfl
 rw[h1];show(co0 (.mk 2 bo3 s false []) false==0)=_;rw[co0];show((bif cn9 (dv6 s) false !=0 then cn9 (dv6 s) false else co1 [] _)==0)=_;rw[h2]
 cases cn4 s<;>rfl
def dw0(r:Nat):Bool:=decide (r<48)||decide (r>57)
theorem dw1{p:Nat→Bool}(hp:∀r,128≤r→p r=true)(s:ByteArray):∀(f pos:Nat),s.size≤pos+f→(decide (Lib.idxFuncFrom p true s f pos<0))=(s.data.toList.drop pos).all fun b=> !(p b.toNat)
 |0,pos,h=>by
  have hlen:s.data.toList.length=s.size:=Oc
  have:s.data.toList.drop pos=[]:=fp8 Oa;rw[this];simp[Lib.idxFuncFrom]
 |f+1,pos,h=>by
  have hlen:s.data.toList.length=s.size:=Oc
  unfold Lib.idxFuncFrom
  by_cases hps:pos<s.size
  ·rw[if_pos hps];have hx:=fp1 (show pos<s.data.toList.length by omega);generalize s.data.toList[pos]=b at hx;rw[bu9 hx,ft3];obtain⟨d1,d2⟩:=bx4 s pos b (bx5 hx)
   by_cases hb:b.toNat<128
   ·rw[d1 hb];simp only[]
    cases hbad:p b.toNat with
    |true=>rw[if_pos rfl];simp
    |false=>rw[if_neg Oc,dw1 hp s f (pos+1) Oa];simp
   ·have h128:=d2 Oa;have hbad:p (Utf8.decode s pos).1=true:=hp _ h128;rw[hbad,if_pos rfl,hp b.toNat Oa];simp
  ·rw[if_neg hps];have:s.data.toList.drop pos=[]:=fp8 Oa;rw[this];simp
theorem dw2(w:World):PredAt Tryz.prog 115 #[] encR dw0 w:=fun W r _=>by
 unfold FnGives
 by_cases h1:r<48<;>by_cases h2:r>57
 all_goals
  have z1:(r:Int)<48↔r<48:=Oa
  have z2:(57:Int)<(r:Int)↔r>57:=Oa
  go_enter func115,ntmps115
  go_wp2
  all_goals first|(exfalso;omega)|(go_ret;exact⟨by simp[dw0,h1,h2],0,rfl⟩)
theorem dw3(s:ByteArray):Ev E 114 [.str s,.imm (.func (.func 115) #[] #[])] (.d (.bool (!(s.data.toList.all fun b=> !(dw0 b.toNat))))):=by
 refine bw9 rfl fun w F _ _ _=>?_
 refine(Tryz.strings_ContainsFunc 115 #[] (enters_of func115 Ob rfl) dw0 s w (dw2 w)).mono ?_;rintro e w' ⟨rfl,hb⟩;refine⟨?_,hb⟩;have h:=dw1 (p:=dw0) (fun r hr=>by unfold dw0;simp;omega) s s.size 0 Oa;rw[fu8]at h;rw[←h];congr 2;unfold Lib.idxFunc;rw[fq3];simp
attribute [local irreducible] go SGo an1 Ev au8 EvO EvS RGo
theorem dw4(s:ByteArray):Ev E 58 [.str s] (.d (.bool (cn4 s))):=by
 have h:=co9 (dv6 s) (by rw[dv7];decide) (by rw[dv8];decide);have hc:=dv9 s;generalize co8 (dv6 s)=z at*;rw[←hc];refine ye1 func58 ntmps58 fun _ _ _=>?_
 repeat'(first|refine yz ?_|refine yp b61 h ?_|exact zD)
theorem dw5(s:ByteArray):Ev E 59 [.str s] (.d (.bool (do3 s))):=by
 have hsz:s.data.toList.length=s.size:=Oc
 unfold do3
 match hs:s.data.toList with
 |[]=>
  rw[hs]at hsz;have g1:decide ((s.size:Int)<2)=true:=by simp only[fq0]at hsz;simp;omega
  refine ye1 func59 ntmps59 fun _ _ _=>?_
  exact Ok
 |[_]=>
  rw[hs]at hsz;have g1:decide ((s.size:Int)<2)=true:=by simp only[fp5,fq0]at hsz;simp;omega
  refine ye1 func59 ntmps59 fun _ _ _=>?_
  exact Ok
 |a::b::r=>
  rw[hs]at hsz;simp only[fp5]at hsz;have g1:decide ((s.size:Int)<2)=false:=Og
  have hb0:ag0 s (0:Int).toNat=(a.toNat:Int):=by unfold ag0;rw[hs];rfl
  have hb1:ag0 s (1:Int).toNat=(b.toNat:Int):=by unfold ag0;rw[hs];rfl
  have ha:(ag0 s (0:Int).toNat !=95)= !(a==95):=by
   rw[hb0,fq3,bne_iff_ne,Bool.not_eq_true',beq_eq_false_iff_ne];exact⟨fun h e=>h (by rw[e];rfl),fun h e=>h (UInt8.toNat_inj.1 (by simpa using(by omega:a.toNat=95)))⟩
  have hb:(ag0 s (1:Int).toNat==48)=(b==48):=by
   rw[hb1,fq3,beq_iff_eq,beq_iff_eq];exact⟨fun h=>UInt8.toNat_inj.1 (by simpa using(by omega:b.toNat=48)),fun e=>by rw[e];rfl⟩
  have hx:(s.extract (1:Int).toNat s.size).data.toList=b::r:=by
   have:(s.extract (1:Int).toNat s.size).data.toList=s.data.toList.drop 1:=by
    simp;exact fq6 Oc
   rw[this,hs];rfl
  have hR:=dw3 (s.extract (1:Int).toNat s.size);rw[hx]at hR
  have hall:((b::r).all fun c=> !(dw0 c.toNat))=(b::r).all fun c=>decide (48≤c) &&decide (c≤57):=by
   congr 1
   funext c
   unfold dw0;rw[fq3];simp only[Bool.not_eq_true',ft4,decide_eq_false_iff_not,fq9,decide_eq_true_eq,UInt8.le_iff_toNat_le];show _↔48≤c.toNat∧c.toNat≤57;omega
  rw[hall]at hR;show Ev E 59 [.str s] (.d (.bool (a==95&&(b !=48&&(b::r).all fun c=>decide (48≤c) &&decide (c≤57)))));generalize((b::r).all fun c=>decide (48≤c) &&decide (c≤57))=al at*;have hbn:(b !=48)= !(b==48):=rfl;rw[hbn]
  cases c1:a==95 with
  |false=>
   rw[c1]at ha;refine ye1 func59 ntmps59 fun _ _ _=>?_
   exact Ok
  |true=>
   rw[c1]at ha
   cases c2:b==48 with
   |true=>
    rw[c2]at hb;refine ye1 func59 ntmps59 fun _ _ _=>?_
    exact Ok
   |false=>
    rw[c2]at hb;rw[fs6,fu4,fs6,←Bool.not_not al];refine ye1 func59 ntmps59 fun _ _ _=>?_
    repeat'(first|refine yz ?_|refine yp b114 hR ?_|(refine qS rfl ⟨⟨by omega,by omega⟩,trivial⟩ ?_)|refine yx ?_|exact zD)
end Go.Proofs.YtndgolmgaenlfaaGreatDoor
namespace Go.Proofs.YtndgolmgaenlfaaGreatDoor
set_option maxRecDepth 4000
open Go Go.Abs Go.Val Go.Proofs.Tryz
attribute [local irreducible] go SGo an1 Ev au8 EvO EvS PGo RGo dg0
set_option maxHeartbeats 2000000 in
theorem dw6(c:CJ):Ev E 134 [cd9 c] (.d (.int (dm6 c))):=Ev.fit fun hfit=>by
 obtain⟨vs,ats⟩:=c;have hft:=hfit (cd9 ⟨vs,ats⟩) Oc;obtain⟨hmv,-⟩:=by0 (hft.aggs (.sl (vs.map .str)) Oc);obtain⟨hma,-⟩:=by0 (hft.aggs (.sl (ats.map cd8)) Oc);have hlv:(vs.map D.str).length=vs.length:=Oc
 have hla:(ats.map cd8).length=ats.length:=Oc
 unfold dm6;dsimp only
 cases hbig:decide (vs.length>24)||decide (ats.length>12)with
 |true=>
  have hb1:(decide (((vs.map D.str).length:Int)>24)=true)∨(decide (((vs.map D.str).length:Int)>24)=false∧decide (((ats.map cd8).length:Int)>12)=true):=by
   rw[hlv,hla];simp at hbig ⊢;omega
  rcases hb1 with g1|⟨g1,g2⟩
  ·refine ye1 func134 ntmps134 fun _ _ _=>?_
   exact Ok
  ·refine ye1 func134 ntmps134 fun _ _ _=>?_
   exact Ok
 |false=>
  rw[ft4]at hbig;have g1:decide (((vs.map D.str).length:Int)>24)=false:=by rw[hlv];have:=hbig.1;simp at this ⊢;omega
  have g2:decide (((ats.map cd8).length:Int)>12)=false:=by rw[hla];have:=hbig.2;simp at this ⊢;omega
  simp only[cond_false];refine ye1 func134 ntmps134 fun _ _ _=>?_
  repeat'(first|refine yz ?_|refine yx ?_)
  refine ac7 (α:=SNo ats (dm2 vs.length)) (fun p=>⟨[(1,.ptr 0 0),(3,.d (.int p.i))],[oCJ ⟨vs,ats⟩]⟩) (fun p=>ats.length-p.i) ⟨0,by omega,rfl⟩ (zle 1) ?_;rintro⟨i,hi,ok⟩;dsimp only at ok ⊢;rcases fp2 i ats.length with hlt|hge
  ·have g3:decide ((i:Int)<((ats.map cd8).length:Int))=true:=by rw[hla];simpa using hlt
   have hx0:=fp1 hlt;generalize ats[i]=a at hx0;have hx:=bx9 (f:=cd8) hx0;have hf:=dj5 a;have hr:=dj8 a ((vs.map D.str).length:Int);rw[show dj6 a.vs ((vs.map D.str).length:Int)=dj6 a.vs vs.length by rw[hlv]]at hr;have hfs:=dm4 vs.length a;rw[dl2 hx0,←hfs]at ok
   cases c1:dj4 a with
   |false=>
    rw[c1]at hf ok;rw[ok]
    repeat'(first|refine yz ?_|refine yi (cd8 a) hx ?_|refine yp b207 hf ?_|exact zD)
   |true=>
    rw[c1]at hf
    cases c2:dj6 a.vs vs.length with
    |false=>
     rw[c2]at hr ok;rw[c1]at ok;rw[ok]
     repeat'(first|refine yz ?_|refine yi (cd8 a) hx ?_|refine yp b207 hf ?_|refine yp b208 hr ?_|exact zD)
    |true=>
     rw[c2]at hr;rw[c1,c2]at ok
     repeat'(first|refine yz ?_|refine yi (cd8 a) hx ?_|refine yp b207 hf ?_|refine yp b208 hr ?_)
     refine ac1 ?_;exact⟨⟨i+1,by omega,by rw[ok];rfl⟩,by dsimp only;omega,(zle 1)⟩
  ·have g3:decide ((i:Int)<((ats.map cd8).length:Int))=false:=by rw[hla];simp;omega
   rw[ok,fp8 hge,fv4];have ht:=dl0 vs;simp only[cond_false]
   cases c3:twF vs with
   |true=>
    rw[c3]at ht
    repeat'(first|refine yz ?_|refine yp b209 ht ?_|exact zD)
   |false=>
    rw[c3]at ht;simp only[cond_false]
    repeat'(first|refine yz ?_|refine yp b209 ht ?_)
    refine ac7 (α:=SNo ats fun a=> !dk5 a) (fun p=>⟨[(1,.ptr 0 0),(4,.d (.int p.i))],[oCJ ⟨vs,ats⟩]⟩) (fun p=>ats.length-p.i) ⟨0,by omega,rfl⟩ (zle 1) ?_;rintro⟨j,hj,ok2⟩;dsimp only at ok2 ⊢;rcases fp2 j ats.length with hlt2|hge2
    ·have g4:decide ((j:Int)<((ats.map cd8).length:Int))=true:=by rw[hla];simpa using hlt2
     have hx0:=fp1 hlt2;generalize ats[j]=a at hx0;have hx:=bx9 (f:=cd8) hx0;have hf:=dk7 a;rw[dl2 hx0]at ok2
     cases c1:dk5 a with
     |false=>
      rw[c1]at hf ok2;rw[ok2]
      repeat'(first|refine yz ?_|refine yi (cd8 a) hx ?_|refine yp b210 hf ?_|exact zD)
     |true=>
      rw[c1]at hf ok2
      repeat'(first|refine yz ?_|refine yi (cd8 a) hx ?_|refine yp b210 hf ?_)
      refine ac1 ?_;exact⟨⟨j+1,by omega,by rw[ok2];rfl⟩,by dsimp only;omega,(zle 1)⟩
    ·have g4:decide ((j:Int)<((ats.map cd8).length:Int))=false:=by rw[hla];simp;omega
     rw[ok2,fp8 hge2,fv4];simp only[cond_false]
     repeat'(refine yz ?_)
     refine ac7 (α:=SRg (fun j=> !dl1 ats j) vs.length) (fun p=>⟨[(1,.ptr 0 0),(5,.d (.int p.i))],[oCJ ⟨vs,ats⟩]⟩) (fun p=>vs.length-p.i) ⟨0,by omega,rfl⟩ (zle 1) ?_;rintro⟨k,hk,ok3⟩;dsimp only at ok3 ⊢;rcases fp2 k vs.length with hlt3|hge3
     ·have g5:decide ((k:Int)<((vs.map D.str).length:Int))=true:=by rw[hlv];simpa using hlt3
      have hu:=dl3 ats k
      cases c4:dl1 ats k with
      |true=>
       rw[c4]at hu
       repeat'(first|refine yz ?_|refine yp b211 hu ?_)
       refine ac1 ?_;exact⟨⟨k+1,by omega,dk8 ok3 (by rw[c4];rfl)⟩,by dsimp only;omega,(zle 1)⟩
      |false=>
       rw[c4]at hu;rw[dk9 hlt3 (f:=fun j=> !dl1 ats (j:Int)) (by rw[c4];rfl)]
       repeat'(first|refine yz ?_|refine yp b211 hu ?_|exact zD)
     ·have g5:decide ((k:Int)<((vs.map D.str).length:Int))=false:=by rw[hlv];simp;omega
      obtain rfl:k=vs.length:=Oa
      rw[ok3]
      exact Ok
open Go.RowKit
structure SMk(ats:List AT)(n:Nat) where
 i:Nat
 f:Nat→Bool
 hi:i≤ats.length
 hf:∀j,f j=dl1 (ats.take i) j
 ok:ats.any (fun a=> !dk5 a)=(ats.drop i).any fun a=> !dk5 a
structure SMv(ats:List AT)(a:AT)(i:Nat) where
 k:Nat
 f:Nat→Bool
 hk:k≤a.vs.length
 hf:∀j:Nat,f j=(dl1 (ats.take i) j||(a.vs.take k).any fun y=>y==(j:Int))
theorem dw7{ats:List AT}{n:Int}(h:ats.any (dm2 n)=false){i:Nat}{a:AT}(ha:ats[i]? =some a):dm2 n a=false:=by
 have:=fv8.1 h a (fp3 ha);simpa using this
theorem dw8{n:Int}{a:AT}(h:dm2 n a=false){k:Nat}{y:Int}(hy:a.vs[k]? =some y):0≤y∧y<n:=by
 unfold dm2 at h;rw[ft4]at h;obtain⟨h1,h2⟩:=h;obtain⟨-,-,h3⟩:=dn3 (a:=a) (by simpa using h1);have h4:=fv8.1 h3 y (fp3 hy);have h5:=fv8.1 h2 y (fp3 hy);simp at h4 h5;omega
set_option maxHeartbeats 2000000 in
theorem dw9(c:CJ):Ev E 57 [cd9 c] (.d (.int (dm6 c))):=Ev.fit fun hfit=>by
 obtain⟨vs,ats⟩:=c;have hft:=hfit (cd9 ⟨vs,ats⟩) Oc;obtain⟨hmv,hev⟩:=by0 (hft.aggs (.sl (vs.map .str)) Oc);obtain⟨hma,hea⟩:=by0 (hft.aggs (.sl (ats.map cd8)) Oc);have hlv:(vs.map D.str).length=vs.length:=Oc
 have hla:(ats.map cd8).length=ats.length:=Oc
 unfold dm6;dsimp only
 cases hbig:decide (vs.length>24)||decide (ats.length>12)with
 |true=>
  have hb1:(decide (((vs.map D.str).length:Int)>24)=true)∨(decide (((vs.map D.str).length:Int)>24)=false∧decide (((ats.map cd8).length:Int)>12)=true):=by
   rw[hlv,hla];simp at hbig ⊢;omega
  rcases hb1 with g1|⟨g1,g2⟩
  ·refine ye1 func57 ntmps57 fun _ _ _=>?_
   exact Ok
  ·refine ye1 func57 ntmps57 fun _ _ _=>?_
   exact Ok
 |false=>
  rw[ft4]at hbig;have hsm:vs.length≤24:=by have:=hbig.1;simp at this;omega
  have g1:decide (((vs.map D.str).length:Int)>24)=false:=by rw[hlv];simp;omega
  have g2:decide (((ats.map cd8).length:Int)>12)=false:=by rw[hla];have:=hbig.2;simp at this ⊢;omega
  simp only[cond_false];refine ye1 func57 ntmps57 fun _ _ _=>?_
  repeat'(first|refine yz ?_|refine yx ?_)
  refine ac7 (α:=SNo ats (dm2 vs.length)) (fun p=>⟨[(1,.ptr 0 0),(22,.d (.sl (ats.map cd8))),(23,.d (.int (ats.map cd8).length)),(24,.d (.int p.i))],[oCJ ⟨vs,ats⟩]⟩) (fun p=>ats.length-p.i) ⟨0,by omega,rfl⟩ (zle 1) ?_;rintro⟨i,hi,ok⟩;dsimp only at ok ⊢;rcases fp2 i ats.length with hlt|hge
  ·have g3:decide ((i:Int)<((ats.map cd8).length:Int))=true:=by rw[hla];simpa using hlt
   have hx0:=fp1 hlt;generalize ats[i]=a at hx0;have hx:=bx9 (f:=cd8) hx0;have hs:=dj3 a;rw[dl2 hx0]at ok
   cases c1:dj2 a with
   |false=>
    rw[c1]at hs;rw[show dm2 vs.length a=true by unfold dm2;rw[c1];rfl]at ok;rw[ok]
    repeat'(first|refine yz ?_|refine yi (cd8 a) hx ?_|refine yp b107 hs ?_|exact zD)
   |true=>
    rw[c1]at hs;obtain⟨ha1,ha2,ha3⟩:=dn3 c1;obtain⟨k,ws,nm,ty,v⟩:=a;dsimp only at ha1 ha2 ha3;obtain⟨x,r,rfl⟩:=fz6 (fun h:ws=[]=>by rw[h]at ha1;simp at ha1;omega);have hm:=di3 x r;have hmg:=di5 vs.length r x;have hb:dm2 vs.length ⟨k,x::r,nm,ty,v⟩=decide (r.foldl max x≥vs.length):=by unfold dm2;rw[c1,hmg];rfl
    rw[hb]at ok
    cases c2:decide (r.foldl max x≥(vs.length:Int))with
    |true=>
     have g4:decide (r.foldl max x≥((vs.map D.str).length:Int))=true:=by rw[hlv];exact c2
     rw[c2]at ok;rw[ok]
     repeat'(first|refine yz ?_|refine yi (cd8 ⟨k,x::r,nm,ty,v⟩) hx ?_|refine yp b107 hs ?_|refine yp b108 hm ?_|exact zD)
    |false=>
     have g4:decide (r.foldl max x≥((vs.map D.str).length:Int))=false:=by rw[hlv];exact c2
     rw[c2]at ok
     repeat'(first|refine yz ?_|refine yi (cd8 ⟨k,x::r,nm,ty,v⟩) hx ?_|refine yp b107 hs ?_|refine yp b108 hm ?_)
     refine ac1 ?_;exact⟨⟨i+1,by omega,by rw[ok];rfl⟩,by dsimp only;omega,(zle 1)⟩
  ·have g3:decide ((i:Int)<((ats.map cd8).length:Int))=false:=by rw[hla];simp;omega
   rw[fp8 hge,fv4]at ok;rw[ok];simp only[cond_false]
   by_cases hne:vs=[]
   ·subst hne
    have hat:ats=[]:=by
     cases ats with
     |nil=>rfl
     |cons a r=>
      have hb:=dw7 ok (i:=0) (a:=a) rfl;have hb':=hb;unfold dm2 at hb';rw[ft4]at hb';obtain⟨h1,h2,-⟩:=dn3 (a:=a) (by simpa using hb'.1);obtain⟨x,hx⟩:∃x,a.vs[0]? =some x:=⟨_,fp1 Oa⟩;have:=dw8 hb hx;simp at this;omega
    subst hat;have hcb:=dl5 [] false
    repeat'(first|(refine bh7 5 rfl ?_)|refine yz ?_|refine yc [] b110 (dh8 []) ?_|refine yc [1] b109 (dl6) ?_|refine yp b111 dl7 ?_)
    refine ac7 (α:=Unit) (fun _=>⟨[(1,.ptr 0 0),(6,.own 2),(57,.d (.sl [])),(58,.d (.int 0)),(59,.d (.int 0))],[oCJ ⟨[],[]⟩,cf6 [],.row 4 1 (bL [])]⟩) (fun _=>0) () (zle 3) ?_;rintro-;have g6:decide ((0:Int)<0)=false:=rfl
    repeat'(first|(refine au2 2 rfl ?_;dsimp only[ar6,ar5,ar8,ar7,List.map,List.set])|refine yz ?_|refine yp b113 hcb ?_|exact zD)
   ·have hz:∀z∈sortU (cf7 vs),z.length≤maxLen:=by
     intro z hz;have hz':z∈cf7 vs:=(List.mergeSort_perm _ _).mem_iff.1 hz;obtain⟨s,hs,rfl⟩:=fq8.1 hz';exact(hev s hs).str
    have hso:=cg3 vs hne Oa;have hco:=cg5 (sortU (cf7 vs)) hz;have htw:=dm1 vs
    cases c3:twF vs with
    |true=>
     rw[c3]at htw
     repeat'(first|refine bh4 (id:=10) [1] [2] Ob Ob Oj ?_|refine reF (id:=10) (i:=0) 1 Ob rfl ?_|refine reF (id:=10) (i:=2) 1 Ob rfl ?_|(refine reV (id:=10) (i:=3) rfl rfl rfl rfl rfl rfl ?_ ?_;(first|exact True.intro|rfl|assumption|omega|(simp only[inR];omega)|((show _≤(9223372036854775807:Nat));(try simp only[ByteArray.size_append]);omega)|exact au6 Oa Oa|exact au7 Oa Oa|exact⟨rfl,by decide,by decide⟩))|(refine reV (id:=10) (i:=4) rfl rfl rfl rfl rfl rfl ?_ ?_;(first|exact True.intro|rfl|assumption|omega|(simp only[inR];omega)|((show _≤(9223372036854775807:Nat));(try simp only[ByteArray.size_append]);omega)|exact au6 Oa Oa|exact au7 Oa Oa|exact⟨rfl,by decide,by decide⟩))|(refine reV (id:=10) (i:=5) rfl rfl rfl rfl rfl rfl ?_ ?_;(first|exact True.intro|rfl|assumption|omega|(simp only[inR];omega)|((show _≤(9223372036854775807:Nat));(try simp only[ByteArray.size_append]);omega)|exact au6 Oa Oa|exact au7 Oa Oa|exact⟨rfl,by decide,by decide⟩))|refine reF (id:=10) (i:=6) 1 Ob rfl ?_|refine reN ?_|refine yz ?_|refine yc [] b110 (dh8 vs) ?_|refine yc [1] b109 (hso) ?_|refine bi5 [2] (id:=10) (i:=1) rfl rfl rfl rfl rfl (FnX.plain _) b111 (hco) rfl rfl rfl rfl rfl Oj ?_|exact zD)
    |false=>
     rw[c3]at htw;simp only[cond_false];have hmz:List.replicate (vs.map D.str).length (D.bool false)=bL (dm5 vs.length fun _=>false):=by rw[hlv];exact dn0 vs.length
     repeat'(first|refine bh4 (id:=10) [1] [2] Ob Ob Oj ?_|refine reF (id:=10) (i:=0) 1 Ob rfl ?_|refine reF (id:=10) (i:=2) 1 Ob rfl ?_|(refine reV (id:=10) (i:=3) rfl rfl rfl rfl rfl rfl ?_ ?_;(first|exact True.intro|rfl|assumption|omega|(simp only[inR];omega)|((show _≤(9223372036854775807:Nat));(try simp only[ByteArray.size_append]);omega)|exact au6 Oa Oa|exact au7 Oa Oa|exact⟨rfl,by decide,by decide⟩))|(refine reV (id:=10) (i:=4) rfl rfl rfl rfl rfl rfl ?_ ?_;(first|exact True.intro|rfl|assumption|omega|(simp only[inR];omega)|((show _≤(9223372036854775807:Nat));(try simp only[ByteArray.size_append]);omega)|exact au6 Oa Oa|exact au7 Oa Oa|exact⟨rfl,by decide,by decide⟩))|(refine reV (id:=10) (i:=5) rfl rfl rfl rfl rfl rfl ?_ ?_;(first|exact True.intro|rfl|assumption|omega|(simp only[inR];omega)|((show _≤(9223372036854775807:Nat));(try simp only[ByteArray.size_append]);omega)|exact au6 Oa Oa|exact au7 Oa Oa|exact⟨rfl,by decide,by decide⟩))|refine reF (id:=10) (i:=6) 1 Ob rfl ?_|refine reN ?_|refine yz ?_|refine yc [] b110 (dh8 vs) ?_|refine yc [1] b109 (hso) ?_|refine bi5 [2] (id:=10) (i:=1) rfl rfl rfl rfl rfl (FnX.plain _) b111 (hco) rfl rfl rfl rfl rfl Oj ?_|(refine qS rfl ⟨rfl,by(show 1*(vs.map D.str).length≤281474976710656;rw[hlv];omega),by(show(vs.map D.str).length≤_;rw[hlv];omega)⟩ ?_))
     refine ac7 (α:=SMk ats vs.length) (fun p=>⟨[(1,.ptr 0 0),(6,.own 4),(57,.d (.sl (ats.map cd8))),(58,.d (.int (ats.map cd8).length)),(59,.d (.int p.i))],[oCJ ⟨vs,ats⟩,cf6 vs,.dead,.row 9 1 (cf8 (Lib.compact (sortU (cf7 vs)))),.row 4 1 (bL (dm5 vs.length p.f))]⟩) (fun p=>ats.length-p.i) ⟨0,fun _=>false,by omega,fun _=>rfl,rfl⟩ (by rw[←hmz];exact(zle 5)) ?_;rintro⟨j,f,hj,hf,ok2⟩;dsimp only at hf ok2 ⊢;rcases fp2 j ats.length with hlt2|hge2
     ·have g4:decide ((j:Int)<((ats.map cd8).length:Int))=true:=by rw[hla];simpa using hlt2
      have hx0:=fp1 hlt2;generalize ats[j]=a at hx0;have hx:=bx9 (f:=cd8) hx0;have hn:=dk6 a;have hbd:=dw7 ok hx0;have hmw:=(by0 ((hea a (fp3 hx0)).aggs (cd7 a.vs) Oc)).1;have hlw:=cf3 a.vs;rw[dl2 hx0]at ok2
      cases c1:dk5 a with
      |false=>
       rw[c1]at hn ok2;rw[ok2]
       repeat'(first|refine yz ?_|refine yi (cd8 a) hx ?_|refine yp b112 hn ?_|exact zD)
      |true=>
       rw[c1]at hn ok2
       repeat'(first|refine yz ?_|refine yi (cd8 a) hx ?_|refine yp b112 hn ?_)
       refine ac7 (α:=SMv ats a j) (fun p=>⟨[(1,.ptr 0 0),(6,.own 4),(57,.d (.sl (ats.map cd8))),(58,.d (.int (ats.map cd8).length)),(59,.d (.int j)),(67,.d (.sl (iL a.vs))),(68,.d (.int (iL a.vs).length)),(69,.d (.int p.k))],[oCJ ⟨vs,ats⟩,cf6 vs,.dead,.row 9 1 (cf8 (Lib.compact (sortU (cf7 vs)))),.row 4 1 (bL (dm5 vs.length p.f))]⟩) (fun p=>a.vs.length-p.k) ⟨0,f,by omega,fun x=>by rw[hf x];simp⟩ (zle 5) ?_;rintro⟨k,f2,hk,hf2⟩;dsimp only at hf2 ⊢;rcases fp2 k a.vs.length with hlt3|hge3
       ·have g5:decide ((k:Int)<((iL a.vs).length:Int))=true:=by rw[hlw];simpa using hlt3
        have hy0:=fp1 hlt3;generalize a.vs[k]=y at hy0;have hy:=cf4 hy0;obtain⟨hy1,hy2⟩:=dw8 hbd hy0;have hlm:(bL (dm5 vs.length f2)).length=vs.length:=by simp[bL,dm5]
        have hgt:=dm8 vs.length f2 y hy1 hy2;have hms:=dm7 vs.length f2 y hy1 hy2
        repeat'(first|refine yz ?_|refine yi (.int y) hy ?_|refine qZ (.bool (f2 y.toNat)) rfl rfl rfl rfl rfl rfl hgt rfl rfl rfl ?_)
        refine ac1 ?_;refine⟨⟨k+1,fun x=>f2 x||y==(x:Int),by omega,fun x=>?_⟩,by dsimp only;omega,by rw[←hms];exact(zle 5)⟩;rw[hf2 x,dn2 hy0,Bool.or_assoc]
       ·have g5:decide ((k:Int)<((iL a.vs).length:Int))=false:=by rw[hlw];simp;omega
        repeat'(refine yz ?_)
        refine ac1 ?_;refine⟨⟨j+1,f2,by omega,fun x=>?_,by rw[ok2];rfl⟩,by dsimp only;omega,(zle 5)⟩;rw[hf2 x,dn1 hx0,fq6 hge3]
     ·have g4:decide ((j:Int)<((ats.map cd8).length:Int))=false:=by rw[hla];simp;omega
      rw[fp8 hge2,fv4]at ok2;rw[ok2];simp only[cond_false];have hcb:=dl5 (dm5 vs.length f) false;rw[dm9]at hcb
      have hff:f=fun x:Nat=>dl1 ats (x:Int):=by
       funext x
       rw[hf x,fq6 hge2]
      rw[hff]at hcb ⊢
      cases c5:(List.range vs.length).any fun j=> !dl1 ats j with
      |true=>
       rw[c5]at hcb
       repeat'(first|(refine au2 4 rfl ?_;dsimp only[ar6,ar5,ar8,ar7,List.map,List.set])|refine yz ?_|refine yp b113 hcb ?_|exact zD)
      |false=>
       rw[c5]at hcb
       repeat'(first|(refine au2 4 rfl ?_;dsimp only[ar6,ar5,ar8,ar7,List.map,List.set])|refine yz ?_|refine yp b113 hcb ?_|exact zD)
end Go.Proofs.YtndgolmgaenlfaaGreatDoor
namespace Go.Proofs.YtndgolmgaenlfaaGreatDoor
set_option maxRecDepth 4000
open Go Go.Abs Go.Val Go.RowKit Go.Sort Go.Proofs Go.Proofs.Tryz
theorem dx0{f:FuncId}{ds xs es:List D}{e:TypeId}{size:Nat}{u:Value}(h:Ev E f (ds++ .sl xs::es) (.d (.imm u))):EvS E f (ds.map .d++ .own 0::es.map .d) [.row e size xs] (.d (.imm u)) [.row e size xs]:=by
 intro w F σ vs hi hl hr;have hlen:vs.length=ds.length+1+es.length:=by simp at hl;omega
 obtain⟨v,hv⟩:∃v,vs[ds.length]? =some v:=⟨_,fp1 Oa⟩;obtain⟨b,c,n,e1,rfl⟩:=hr ds.length (.own 0) v (by rw[fr3 Oc];simp) hv;obtain⟨cs,g1,g2,g3,g4,g5,g6,g7,g8,g9,g10⟩:=hi.obs 0 _ _ rfl e1;have hbl:b<w.heap.size:=(fx9.1 g1).1
 have hnew:Rd w (fun i=>F i∨i=b) (.sl xs) (.slice (some ⟨b,0,none⟩) n c):=by
  have hex:∀i j,∃u,∀x cd,xs[i]? =some x→x.cells[j]? =some cd→cs[i*size+j]? =some u∧Rd w F cd u:=by
   intro i j
   cases hx:xs[i]? with
   |none=>exact⟨undef,fun x cd h=>by cases h⟩
   |some x=>
    cases hc:x.cells[j]? with
    |none=>exact⟨undef,fun x' cd h h'=>by cases h;rw[hc]at h';cases h'⟩
    |some cd=>
     obtain⟨u,e1,e2⟩:=g8 i x j cd hx hc;exact⟨u,fun x' cd' h h'=>by cases h;rw[hc]at h';cases h';exact⟨e1,e2⟩⟩
  rw[g3];refine .sl size xs ⟨b,0,none⟩ c (fun i j=>Classical.choose (hex i j)) Oa g5 (fun _=>.inr rfl) g6 g7 (fun i x j cd hx hc=>?_) (fun i x j cd hx hc=>?_)
  ·have:=(Classical.choose_spec (hex i j) x cd hx hc).1;rw[aa2,fu2];unfold World.cell?;simp only[g1];simpa using this
  ·exact(Classical.choose_spec (hex i j) x cd hx hc).2.mono (fun _ h=>.inl h) fun _ _=>rfl
 refine(h w (fun i=>F i∨i=b) vs (fun k hk=>?_) (hi.glob.mono (fun _ h=>.inl h) fun _ _=>rfl) Og fun i d v' hd hv'=>?_).mono ?_
 ·rcases hk with hk|rfl
  ·exact hi.flt k hk
  ·exact hbl
 ·rcases fp2 i ds.length with hlt|hge
  ·rw[fr0 hlt]at hd;exact Rd.mono (hr i (.d d) v' (by rw[fr0 (by simpa using hlt),fp9,hd];rfl) hv') (fun _ h=>.inl h) fun _ _=>rfl
  ·rw[fr3 hge]at hd;rcases fy2 (i-ds.length)with h0|h0
   ·have h1:i=ds.length:=by omega
    subst h1;rw[Nat.sub_self]at hd
    cases hd
    rw[hv]at hv'
    cases hv'
    exact hnew
   ·obtain⟨m,hm⟩:∃m,i-ds.length=m+1:=⟨i-ds.length-1,by omega⟩;rw[hm,ga0]at hd;exact Rd.mono (hr i (.d d) v' (by rw[fr3 (by simpa using hge),fp6,hm,ga0,fp9,hd];rfl) hv') (fun _ h=>.inl h) fun _ _=>rfl
 ·rintro ev w' ⟨v',F',rfl,hext,hrd⟩;have hb:=hext.below;obtain⟨rfl,hok⟩:=Rd.imm_inv (show Rd w' F' (.imm u) v' from hrd);exact⟨_,F,σ,rfl,aa7.of_below hb fun k hk=>hk.1,fun _ h=>h,fun _ h=>.inl h,fun i p _ hp=>hp,(ab2.lend hi).ext (Ext.of_below hb hi.flt),Rd.imm _ hok⟩
end Go.Proofs.YtndgolmgaenlfaaGreatDoor
namespace Go.Proofs.YtndgolmgaenlfaaGreatDoor
set_option maxRecDepth 4000
open Go Go.Abs Go.Val Go.Proofs.Tryz
attribute [local irreducible] go SGo an1 Ev au8 EvO EvS
theorem dx1:Ev E 45 [.sl []] (.d (.sl [])):=by
 refine ye1 func45 ntmps45 fun _ _ _=>?_
 repeat'(first|refine yz ?_|(refine aw8 rfl (fun _=>?_) ?_)|refine ax5 rfl rfl rfl rfl rfl rfl rfl rfl ?_|refine yx ?_|(refine yy ?_ ?_<;>intro _)|exact zD|exact zL)
theorem dx2(l:List ByteArray)(h0:l≠ [])(hn:l.length≤2000000):EvO E 45 [.sl (l.map .str)] 9 1 (l.map .str):=by
 have hle:(l.map D.str).length=l.length:=Oc
 have hne:l.map D.str≠ []:=by simpa using h0
 have hc:∀d∈l.map D.str,d.cells.length=1:=fun d hd=>by
  obtain⟨u,-,rfl⟩:=fq8.1 hd;rfl
 generalize l.map D.str=xs at*;refine ax6 func45 ntmps45 rfl rfl fun w0 F0 O=>?_
 repeat'(first|refine ax2 rfl rfl rfl rfl rfl rfl rfl Od Od ?_|refine yz ?_|(refine aw8 rfl (fun h=>absurd h hne) ?_)|refine yx ?_|(refine yy ?_ ?_<;>intro _)|exact zD|exact zL)
 refine qS rfl ⟨hne,hc,by(show(0+xs.length)*16≤140737488355328;omega),by(show 0+xs.length≤9223372036854775807;omega)⟩ ?_
 exact Ok
theorem dx3(l:List ByteArray)(hn:l.length≤2000000):Ev E 45 [.sl (l.map .str)] (.d (.sl (l.map .str))):=by
 by_cases h0:l=[]
 ·subst h0;exact dx1
 ·exact(dx2 l h0 hn).ev
end Go.Proofs.YtndgolmgaenlfaaGreatDoor
