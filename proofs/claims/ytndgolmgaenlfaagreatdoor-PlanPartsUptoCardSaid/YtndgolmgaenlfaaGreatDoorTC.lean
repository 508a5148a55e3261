/- Parts of a plan's text, by the specification: lists of texts, atoms, items, sort keys; A plan's text, by the specification; The laws PlanTexts and PlanParts, given that the chapter's examples hold. Conditions: each part's own, as it says. -/
import Derived.Test.YtndgolmgaenlfaaGreatDoorGC
import Derived.Test.YtndgolmgaenlfaaGreatDoorTB
import Derived.Test.YtndgolmgaenlfaaGreatDoorKA
import Derived.Test.YtndgolmgaenlfaaGreatDoorTA
set_option linter.unusedVariables false
set_option linter.unusedSimpArgs false
namespace Go.Proofs.YtndgolmgaenlfaaGreatDoor
set_option maxRecDepth 4000
open Go Go.Abs Go.Val Go.RowKit Go.Proofs.Tryz
attribute [local irreducible] go SGo an1 Ev au7 EvO EvS RGo RGw PGo
theorem ev6{l:List ByteArray}(h:l.Nodup){i:Nat}{x:ByteArray}(hx:l[i]? =some x):bu0 (l.take i) x=false:=by
 cases hc:bu0 (l.take i) x with
 |false=>rfl
 |true=>
  obtain⟨j,hj⟩:=List.mem_iff_getElem?.1 (de3.1 hc)
  have hji:j<i:=by
   have:=(ey1.1 hj).1;rw[fa3]at this;omega
  rw[List.getElem?_take_of_lt hji]at hj;obtain⟨h1,e1⟩:=ey1.1 hj;obtain⟨h2,e2⟩:=ey1.1 hx;have:=(List.getElem_inj (h₀:=h1) (h₁:=h2) h).1 (by rw[e1,e2]);omega
theorem ev7(c:UInt8):((c.toNat:Int)==10)=(c==10):=by
 rw[fa4,beq_iff_eq,beq_iff_eq];exact⟨fun h=>UInt8.toNat_inj.1 (by simpa using(by omega:c.toNat=10)),fun e=>by rw[e];rfl⟩
theorem ev8{l:List UInt8}{i:Nat}{c:UInt8}(h:l[i]? =some c):(l.take (i+1)).count 10=(l.take i).count 10+(bif c==10 then 1 else 0):=by
 rw[fc0,h,List.count_append];show _+List.count 10 [c]=_;rw[List.count_singleton]
 cases c==10<;>rfl
set_option maxHeartbeats 8000000 in
theorem law_parts35(hlv:Ev E 9 [] (.d (.bool true)))(p:Pl)(h:bg4 [dd6 p]≤1048576):Ev E 5 [dd6 p] (.d (.bool true)):=Ev.fit fun hfit=>by
 have hf:=hfit (dd6 p) Oc;clear hfit;have h0:bg3 (dd6 p)≤1048576:=by rw[bg4,bg4]at h;omega
 have hw:=ec3 p h0;obtain⟨b,ks⟩:=p
 cases c1:decide ((wtP (.mk b ks):Int)>1500)with
 |true=>
  rw[dd9]at hw ⊢;generalize wtP (.mk b ks)=w at*;refine ye1 func5 ntmps5 fun _ _ _=>?_
  repeat'(first|refine yz ?_|refine yp b8 hw ?_|refine yp b9 hlv ?_|exact zD)
 |false=>
 have hwt:wtP (.mk b ks)≤1500:=by have:=of_decide_eq_false c1;omega
 have hvw:=eb3 (.mk b ks);have k1:=dz7 (.mk b ks) h0 Oa;have k2:=ev2 (.mk b ks) h0 hwt;have g1:((dg3 (.mk b ks)).2 !=(dg3 (.mk b ks)).2)=false:=by rw[bne_self_eq_false]
 cases c2:(dg3 (.mk b ks)).2 !=0 with
 |true=>
  have hb:=dj0 (p:=.mk b ks) (by simpa using c2);have ht:rTP (.mk b ks)=⟨#[]⟩:=by unfold rTP;rw[c2];rfl
  rw[hb]at k1;rw[ht]at k2;have g2:((([]:List ByteArray).map D.str).length==(0:Int))=true:=rfl;have g3:((⟨#[]⟩:ByteArray).toList==(⟨#[]⟩:ByteArray).toList)=true:=beq_self_eq_true _;rw[dd9]at hw k1 k2 ⊢;generalize wtP (.mk b ks)=w at*;generalize(dg3 (.mk b ks)).2=ck at*;refine ye1 func5 ntmps5 fun _ _ _=>?_
  repeat'(first|refine yz ?_|refine yp b8 hw ?_|refine yp b9 hlv ?_|refine yp b10 k1 ?_|refine yp b15 k2 ?_|refine yx ?_|exact zD)
 |false=>
 have hc0:(dg3 (.mk b ks)).2=0:=by simpa using c2
 obtain⟨hd,hz,hcf,hce⟩:=dh0 hc0;obtain⟨-,hsz0,hcw⟩:=dz6 (.mk b ks) h0 Oa;have hcl:=ec4 (.mk b ks);have hnd:(dg3 (.mk b ks)).1.Nodup:=by rw[hce];exact di5 _ hcf
 have hkid:=di6 hc0;have hlin:=ek1 (.mk b ks) 0 hcf;have s0:=ds3 (.mk b ks) Oa;have hS:rTP (.mk b ks)=bs (plT 0 (.mk b ks)):=by unfold rTP;rw[c2];rfl
 have hSl:(rTP (.mk b ks)).data.toList=plT 0 (.mk b ks):=by rw[hS,bw9]
 have hbk:∀x∈ks,bg3 (dd6 x)≤1048576:=fun x hx=>by
  have hb2:=dz2 b (ks.map dd6);rw[dd9]at h0;have:=dx1 (fa5 (f:=dd6) hx);omega
 have hvs:∀x∈ks,vsP x≤100000:=fun x hx=>by
  have:=eb3 x;have hm:=eb2 hx;rw[wtP]at hwt;omega
 have hTl:(rTP (.mk b ks)).size≤140000000000000:=by
  have:=er3 (.mk b ks) 0 Oa (eq0 (.mk b ks) hf h0 hwt hcf);rw[hS,bw8];omega
 rw[hc0]at k1 k2 g1;have ez:szP (.mk b ks)=1+dg2 ks:=by rw[szP,Nat.add_comm]
 have hcl2:(dg3 (.mk b ks)).1.length≤1000000:=Oa
 have hkn:=dg6 ks;rw[ez]at s0 hlin hz;rw[←hSl]at hlin;rw[dd9]at hw k1 k2 s0 ⊢;clear hSl hS hce hcf hd hc0 c2 hcw hsz0;generalize wtP (.mk b ks)=w at*;generalize(dg3 (.mk b ks)).1=cols at*;generalize rTP (.mk b ks)=S at*;have hle:(cols.map D.str).length=cols.length:=Oc
 have hlk:(ks.map dd6).length=ks.length:=Oc
 have hlS:S.data.toList.length=S.size:=Oc
 refine ye1 func5 ntmps5 fun _ _ _=>?_
 repeat'(first|refine yz ?_|refine yp b8 hw ?_|refine yp b10 k1 ?_|refine yp b15 k2 ?_)
 refine ac7 (α:=ds1 cols.length) (fun p=>⟨[(1,.ptr 0 0),(3,.d (.sl (cols.map .str))),(5,.d (.str S)),(7,.d (.int p.i))],[dt3 b (ks.map dd6)]⟩) (fun p=>cols.length-p.i) ⟨0,by omega⟩ (zle 1) ?_;rintro⟨i,hi⟩;dsimp only;rcases ex7 i cols.length with hlt|hge
 ·have g2:decide ((i:Int)<((cols.map D.str).length:Int))=true:=by rw[hle];simpa using hlt
  have hx0:=ex6 hlt;generalize cols[i]=x at hx0;have hx:=cn9 (f:=D.str) hx0;have hh:=bu2 (cols.take i) x;rw[ev6 hnd hx0]at hh;have et:(cols.take i).map D.str=(cols.map D.str).take ((i:Nat):Int).toNat:=by rw[List.map_take];rfl
  rw[et]at hh
  have hcs:∀d∈cols.map D.str,d.cells.length=1:=fun d hd=>by
   obtain⟨s,-,rfl⟩:=ey6.1 hd;rfl
  repeat'(first|(refine qS rfl ⟨⟨by omega,by omega⟩,_,rfl,hcs⟩ ?_)|refine yz ?_|refine yi (.str x) hx ?_|refine yp b17 hh ?_)
  refine ac1 ?_;exact⟨⟨i+1,by omega⟩,by dsimp only;omega,(zle 1)⟩
 ·have g2:decide ((i:Int)<((cols.map D.str).length:Int))=false:=by rw[hle];simp;omega
  clear hnd
  repeat'(refine yz ?_)
  refine ac7 (α:=ds1 ks.length) (fun p=>⟨[(1,.ptr 0 0),(5,.d (.str S)),(8,.d (.int ((1+dg2 (ks.take p.i):Nat):Int))),(9,.d (.int p.i))],[dt3 b (ks.map dd6)]⟩) (fun p=>ks.length-p.i) ⟨0,by omega⟩ (zle 1) ?_;rintro⟨j,hj⟩;dsimp only;rcases ex7 j ks.length with hlt2|hge2
  ·have g3:decide ((j:Int)<((ks.map dd6).length:Int))=true:=by rw[hlk];simpa using hlt2
   have hx0:=ex6 hlt2;generalize ks[j]=x at hx0;have hm:=ey0 hx0;have hx:=cn9 (f:=dd6) hx0;have kc:=dz7 x (hbk x hm) (hvs x hm);rw[hkid x hm]at kc;have hsx:=dr9 hx0;have hsp:=ds0 ks (j+1);have ksz:=ds3 x Oa;have g4:((0:Int) !=0)=false:=rfl;have en:((1+dg2 (ks.take (j+1)):Nat):Int)=((1+dg2 (ks.take j):Nat):Int)+(szP x:Int):=by rw[hsx];omega
   generalize(dg3 x).1=cx at*;generalize szP x=sx at*;rw[ds2]at hx kc ksz
   repeat'(first|refine yz ?_|refine qI (dd5 x.b (x.ks.map dd6)) rfl (ap1 rfl) rfl rfl rfl rfl rfl rfl Oh hx ?_|refine yp b10 kc ?_|refine yp b13 ksz ?_)
   refine ac1 ?_;refine⟨⟨j+1,by omega⟩,by dsimp only;omega,?_⟩;dsimp only;rw[en];exact(zle 1)
  ·have g3:decide ((j:Int)<((ks.map dd6).length:Int))=false:=by rw[hlk];simp;omega
   rw[ez9 hge2];clear hkid hbk hvs
   repeat'(refine yz ?_)
   refine ac7 (α:=ds1 S.size) (fun p=>⟨[(1,.ptr 0 0),(5,.d (.str S)),(8,.d (.int ((1+dg2 ks:Nat):Int))),(12,.d (.int (((S.data.toList.take p.i).count 10:Nat):Int))),(13,.d (.int p.i))],[dt3 b (ks.map dd6)]⟩) (fun p=>S.size-p.i) ⟨0,by omega⟩ (zle 1) ?_;rintro⟨q,hq⟩;dsimp only;rcases ex7 q S.size with hlt3|hge3
   ·have g5:decide ((q:Int)<(S.size:Int))=true:=by simpa using hlt3
    have hx0:=ex6 (l:=S.data.toList) (i:=q) Oa;generalize S.data.toList[q]'Oa=c at hx0;have hby:ag0 S (q:Int).toNat=(c.toNat:Int):=byteAt_get (by rw[fb2];exact hx0);have hct:=ev8 hx0;have hcl2:(S.data.toList.take q).count 10≤q:=fb4 List.count_le_length (by rw[fa3];omega);have hb10:=ev7 c;rw[←hby]at hb10
    cases c5:c==10 with
    |true=>
     rw[c5]at hb10 hct;have en:(((S.data.toList.take (q+1)).count 10:Nat):Int)=((S.data.toList.take q).count 10:Nat)+1:=by rw[hct];rfl
     repeat'(refine yz ?_)
     refine ac1 ?_;refine⟨⟨q+1,by omega⟩,by dsimp only;omega,?_⟩;dsimp only;rw[en];exact(zle 1)
    |false=>
     rw[c5]at hb10 hct;have en:(S.data.toList.take (q+1)).count 10=(S.data.toList.take q).count 10:=hct
     repeat'(refine yz ?_)
     refine ac1 ?_;refine⟨⟨q+1,by omega⟩,by dsimp only;omega,?_⟩;dsimp only;rw[en];exact(zle 1)
   ·have g5:decide ((q:Int)<(S.size:Int))=false:=by simp;omega
    rw[ez9 Oa,hlin];have g6:(((1+dg2 ks:Nat):Int)==((1+dg2 ks:Nat):Int))=true:=beq_self_eq_true _;generalize 1+dg2 ks=n at*
    repeat'(first|refine yz ?_|refine yp b13 s0 ?_|refine yp b9 hlv ?_|refine yx ?_|exact zD)
end Go.Proofs.YtndgolmgaenlfaaGreatDoor
