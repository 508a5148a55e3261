/- Arithmetic that wraps, with its result told; '==' on structs of plain fields; calls of functions that the model answers itself; Forgetting objects: so. Conditions: each part's own, as it says. -/
import Derived.Test.YtndgolmgaenlfaaGreatDoorGA
import Derived.Laws.StructEq
import Derived.Carry
import Derived.ChangeOld
import Derived.HandedShaped
import Derived.Stop.Joined
import Derived.LaidMore
import Derived.LaidLaws
import Derived.WideShapes
import Derived.MakeChecks
import Derived.Shelf.Vars
import Derived.Lib.LaidTab
import Derived.Lib.ConvBytes
import Derived.Laws.CopyRow
set_option linter.unusedVariables false
set_option linter.unusedSimpArgs false
namespace Go.Abs
open Go Go.RowKit
section
variable{C:Cx}{s:St}{o:Oper}{x:X}{p:Prop}
theorem Ev.mk{E:Env}{f:FuncId}{ds:List D}{r:X}(h:∀(w:World) (F:Nat→Prop) (vs:List Value),(∀b,F b→b<w.heap.size)→E.GI w F→vs.length=ds.length→(∀(i:Nat) d v,ds[i]? =some d→vs[i]? =some v→Rd w F d v)→
  Calls E.P f vs.toArray w fun e w'=>∃v F',e=.returned v∧Ext w F w' F'∧RdX w' F' [] r v):Ev E f ds r:=h
def aw1(E:Env)(f:FuncId)(vals:List Value)(rx:X):Prop:=∃v,(∀w,(callFunc f vals.toArray).run E.P w=.ok (.value v) w)∧∀w F,RdX w F [] rx v
theorem aw1.mk{E:Env}{f:FuncId}{vals:List Value}{rx:X}{v:Value}(h:∀w,(callFunc f vals.toArray).run E.P w=.ok (.value v) w)(hx:∀w F,RdX w F [] rx v):aw1 E f vals rx:=⟨v,h,hx⟩
section
variable{all:Array Oper}{pu:Bool}{K:St→Prop}{rest:List Oper}{tm:List (Nat × X)}{ob:List aa5}{d:Nat}
end
end
end Go.Abs
namespace Go.Abs
open Go Go.RowKit
def pos:List Nat→Nat→Option Nat
 |[],_=>none
 |k::r,o=>bif Nat.beq k o then some 0 else(pos r o).map (· +1)
theorem aw2:∀{ks:List Nat} {o i:Nat},pos ks o=some i→ks[i]? =some o
 |[],o,i,h=>by simp[pos]at h
 |k::r,o,i,h=>by
  simp only[pos]at h
  cases hb:Nat.beq k o with
  |true=>rw[hb]at h;cases h;rw[fz8 hb];rfl
  |false=>
   rw[hb]at h;simp only[cond_false,fz9]at h;obtain⟨j,hj,rfl⟩:=h;simpa using aw2 hj
def aw3(ks:List Nat):List Cap→Option (List Cap)
 |[]=>some []
 |.d x::r=>(aw3 ks r).map (.d x:: ·)
 |.ptr o off::r=>match pos ks o with
  |some i=>(aw3 ks r).map (.ptr i off:: ·)
  |none=>none
 |.own o::r=>match pos ks o with
  |some i=>(aw3 ks r).map (.own i:: ·)
  |none=>none
def aw4(ks:List Nat):X→Option X
 |.ptr o off=>(pos ks o).map (.ptr · off)
 |.own o=>(pos ks o).map .own
 |.mp o=>(pos ks o).map .mp
 |.pel o i off z=>(pos ks o).map (.pel · i off z)
 |.sub o i off z=>(pos ks o).map (.sub · i off z)
 |.d x=>some (.d x)
 |.nilS=>some .nilS
 |.zc=>some .zc
 |.tup l=>some (.tup l)
 |.at_ x k=>some (.at_ x k)
 |.mayb p=>some (.mayb p)
 |.clo f cs=>(aw3 ks cs).map (.clo f)
 |.bnd f cs=>(aw3 ks cs).map (.bnd f)
 |.st cs=>(aw3 ks cs).map .st
 |.und=>some .und
 |.top=>some .top
def aw5(ks:List Nat):List X→Option (List X)
 |[]=>some []
 |x::r=>match aw4 ks x with
  |some y=>(aw5 ks r).map (y:: ·)
  |none=>none
def aw6(ks:List Nat):VC→Option VC
 |.w x=>match x with
  |.d d=>some (.w (.d d))
  |x=>(aw4 ks x).map .w
 |.cs l=>(aw5 ks l).map .cs
def aw7(ks:List Nat):aa5→Option aa5
 |.var t c=>(aw6 ks c).map (.var t)
 |.row e size xs=>some (.row e size xs)
 |.mrow e size xs=>some (.mrow e size xs)
 |.map kd xs=>some (.map kd xs)
 |.dead=>some .dead
def aw8(ks:List Nat)(ob:List aa5):List Nat→Option (List aa5)
 |[]=>some []
 |k::r=>match ob[k]? with
  |some x=>(match aw7 ks x with
   |some y=>(aw8 ks ob r).map (y:: ·)
   |none=>none)
  |none=>none
def aw9:List Nat→Bool
 |[]=>true
 |k::r=>(r.all fun j=> !Nat.beq k j) &&aw9 r
theorem ax0:∀{ks:List Nat} {i j a:Nat},aw9 ks=true→ks[i]? =some a→ks[j]? =some a→i=j
 |[],i,j,a,_,h,_=>by simp at h
 |k::r,i,j,a,h,hi,hj=>by
  simp only[aw9,fz4]at h
  have key:∀(m:Nat),r[m]? =some k→False:=fun m hm=>by
   have:=ga6.1 h.1 k (fy6 hm);simp at this
  cases i with
  |zero=>
   simp at hi;subst hi
   cases j with
   |zero=>rfl
   |succ j=>exact(key j (by simpa using hj)).elim
  |succ i=>
   cases j with
   |zero=>simp at hj;subst hj;exact(key i (by simpa using hi)).elim
   |succ j=>
    have:=ax0 (i:=i) (j:=j) (a:=a) h.2 (by simpa using hi) (by simpa using hj);omega
theorem ax1{w:World}{F:Nat→Prop}{σ σ':Sg}{ks:List Nat}(hσ:∀(i o:Nat),ks[i]? =some o→σ'[i]? =σ[o]?):∀{cs cs':List Cap} {us:List Value},aw3 ks cs=some cs'→(∀(i:Nat) c u,cs[i]? =some c→us[i]? =some u→aa4 w F σ c u)→
  cs'.length=cs.length∧∀(i:Nat) c u,cs'[i]? =some c→us[i]? =some u→aa4 w F σ' c u
 |[],cs',us,h,_=>by simp only[aw3]at h;cases h;exact⟨rfl,fun i c u h=>by simp at h⟩
 |.d x::r,cs',us,h,hr=>by
  simp only[aw3,fz9]at h;obtain⟨r',hr',rfl⟩:=h;obtain⟨e1,e2⟩:=ax1 hσ (us:=us.tail) hr' fun i c u hc hu=>hr (i+1) c u (by simpa using hc) (by simpa using hu)
  refine⟨by simp[e1],fun i c u hc hu=>?_⟩
  cases i with
  |zero=>simp at hc;subst hc;exact hr 0 (.d x) u rfl hu
  |succ i=>exact e2 i c u (by simpa using hc) (by simpa using hu)
 |.ptr o off::r,cs',us,h,hr=>by
  simp only[aw3]at h;split at h
  ·rename_i j hj
   simp only[fz9]at h;obtain⟨r',hr',rfl⟩:=h;obtain⟨e1,e2⟩:=ax1 hσ (us:=us.tail) hr' fun i c u hc hu=>hr (i+1) c u (by simpa using hc) (by simpa using hu)
   refine⟨by simp[e1],fun i c u hc hu=>?_⟩
   cases i with
   |zero=>
    simp at hc;subst hc;obtain⟨b,c,n,q1,q2⟩:=hr 0 (.ptr o off) u rfl hu;exact⟨b,c,n,by rw[hσ j o (aw2 hj)];exact q1,q2⟩
   |succ i=>exact e2 i c u (by simpa using hc) (by simpa using hu)
  ·cases h
 |.own o::r,cs',us,h,hr=>by
  simp only[aw3]at h;split at h
  ·rename_i j hj
   simp only[fz9]at h;obtain⟨r',hr',rfl⟩:=h;obtain⟨e1,e2⟩:=ax1 hσ (us:=us.tail) hr' fun i c u hc hu=>hr (i+1) c u (by simpa using hc) (by simpa using hu)
   refine⟨by simp[e1],fun i c u hc hu=>?_⟩
   cases i with
   |zero=>
    simp at hc;subst hc;obtain⟨b,c,n,q1,q2⟩:=hr 0 (.own o) u rfl hu;exact⟨b,c,n,by rw[hσ j o (aw2 hj)];exact q1,q2⟩
   |succ i=>exact e2 i c u (by simpa using hc) (by simpa using hu)
  ·cases h
theorem ax2{w:World}{F:Nat→Prop}{σ σ':Sg}{ks:List Nat}(hσ:∀(i o:Nat),ks[i]? =some o→σ'[i]? =σ[o]?){x y:X}{v:Value}(h:aw4 ks x=some y)(hv:RdX w F σ x v):RdX w F σ' y v:=by
 cases x with
 |ptr o off=>
  simp only[aw4,fz9]at h;obtain⟨i,hi,rfl⟩:=h;obtain⟨b,c,n,e1,e2⟩:=hv;exact⟨b,c,n,by rw[hσ i o (aw2 hi)];exact e1,e2⟩
 |own o=>
  simp only[aw4,fz9]at h;obtain⟨i,hi,rfl⟩:=h;obtain⟨b,c,n,e1,e2⟩:=hv;exact⟨b,c,n,by rw[hσ i o (aw2 hi)];exact e1,e2⟩
 |mp o=>
  simp only[aw4,fz9]at h;obtain⟨i,hi,rfl⟩:=h;obtain⟨b,c,n,e1,e2⟩:=hv;exact⟨b,c,n,by rw[hσ i o (aw2 hi)];exact e1,e2⟩
 |pel o j off z=>
  simp only[aw4,fz9]at h;obtain⟨i,hi,rfl⟩:=h;obtain⟨b,c,n,e1,e2⟩:=hv;exact⟨b,c,n,by rw[hσ i o (aw2 hi)];exact e1,e2⟩
 |sub o j off z=>
  simp only[aw4,fz9]at h;obtain⟨i,hi,rfl⟩:=h;obtain⟨b,c,n,e1,e2⟩:=hv;exact⟨b,c,n,by rw[hσ i o (aw2 hi)];exact e1,e2⟩
 |d x=>simp only[aw4]at h;cases h;exact hv
 |nilS=>simp only[aw4]at h;cases h;exact hv
 |zc=>simp only[aw4]at h;cases h;exact hv
 |tup l=>simp only[aw4]at h;cases h;exact hv
 |at_ x k=>simp only[aw4]at h;cases h;exact hv
 |mayb p=>simp only[aw4]at h;cases h;exact hv
 |clo f cs=>
  simp only[aw4,fz9]at h;obtain⟨cs',hc,rfl⟩:=h;obtain⟨us,e1,e2,e3⟩:=hv;obtain⟨f1,f2⟩:=ax1 hσ hc e3;exact⟨us,e1,by rw[f1];exact e2,f2⟩
 |bnd f cs=>
  simp only[aw4,fz9]at h;obtain⟨cs',hc,rfl⟩:=h;obtain⟨us,e1,e2,e3⟩:=hv;obtain⟨f1,f2⟩:=ax1 hσ hc e3;exact⟨us,e1,by rw[f1];exact e2,f2⟩
 |st cs=>
  simp only[aw4,fz9]at h;obtain⟨cs',hc,rfl⟩:=h;obtain⟨us,e1,e2,e4,e3⟩:=hv;obtain⟨f1,f2⟩:=ax1 hσ hc e3;exact⟨us,e1,by rw[f1];exact e2,e4,f2⟩
 |und=>simp only[aw4]at h;cases h;exact hv
 |top=>simp only[aw4]at h;cases h;exact hv
theorem ax3{ks:List Nat}:∀{l l':List X},aw5 ks l=some l'→l'.length=l.length∧∀(i:Nat) y,l'[i]? =some y→∃x,l[i]? =some x∧aw4 ks x=some y
 |[],l',h=>by simp only[aw5]at h;cases h;exact⟨rfl,fun i y h=>by simp at h⟩
 |x::r,l',h=>by
  simp only[aw5]at h;split at h
  ·rename_i y hy
   simp only[fz9]at h;obtain⟨r',hr,rfl⟩:=h;obtain⟨e1,e2⟩:=ax3 hr;refine⟨by simp[e1],fun i z hz=>?_⟩
   cases i with
   |zero=>simp at hz;subst hz;exact⟨x,rfl,hy⟩
   |succ i=>simpa using e2 i z (by simpa using hz)
  ·cases h
theorem ax4{ks:List Nat}{c c':VC}(h:aw6 ks c=some c'):c'.cells.length=c.cells.length∧∀(i:Nat) y,c'.cells[i]? =some y→∃x,c.cells[i]? =some x∧aw4 ks x=some y:=by
 have hd:∀(d:D) (i:Nat) y,(d.cells.map X.d)[i]? =some y→∃x,(d.cells.map X.d)[i]? =some x∧aw4 ks x=some y:=fun d i y hy=>by
  refine⟨y,hy,?_⟩;rw[fz1,fz9]at hy;obtain⟨c,-,rfl⟩:=hy;rfl
 have one:∀x y:X,x.cells=[x]→y.cells=[y]→aw4 ks x=some y→(VC.w y).cells.length=(VC.w x).cells.length∧∀(i:Nat) z,(VC.w y).cells[i]? =some z→∃u,(VC.w x).cells[i]? =some u∧aw4 ks u=some z:=by
  intro x y hx hy hr;simp only[VC.cells,hx,hy];refine⟨rfl,fun i z hz=>?_⟩
  cases i with
  |zero=>simp at hz;subst hz;exact⟨x,rfl,hr⟩
  |succ i=>simp at hz
 cases c with
 |cs l=>
  simp only[aw6,fz9]at h;obtain⟨l',hl,rfl⟩:=h;exact ax3 hl
 |w x=>
  cases x with
  |d d=>simp only[aw6]at h;cases h;exact⟨rfl,hd d⟩
  |ptr o off=>
   simp only[aw6,aw4,fz9]at h;obtain⟨y,⟨i,hi,rfl⟩,rfl⟩:=h;exact one _ _ rfl rfl (by simp only[aw4,hi];rfl)
  |own o=>
   simp only[aw6,aw4,fz9]at h;obtain⟨y,⟨i,hi,rfl⟩,rfl⟩:=h;exact one _ _ rfl rfl (by simp only[aw4,hi];rfl)
  |mp o=>
   simp only[aw6,aw4,fz9]at h;obtain⟨y,⟨i,hi,rfl⟩,rfl⟩:=h;exact one _ _ rfl rfl (by simp only[aw4,hi];rfl)
  |pel o j off z=>
   simp only[aw6,aw4,fz9]at h;obtain⟨y,⟨i,hi,rfl⟩,rfl⟩:=h;exact one _ _ rfl rfl (by simp only[aw4,hi];rfl)
  |sub o j off z=>
   simp only[aw6,aw4,fz9]at h;obtain⟨y,⟨i,hi,rfl⟩,rfl⟩:=h;exact one _ _ rfl rfl (by simp only[aw4,hi];rfl)
  |nilS=>simp only[aw6,aw4,gc1]at h;cases h;exact one _ _ rfl rfl rfl
  |zc=>simp only[aw6,aw4,gc1]at h;cases h;exact one _ _ rfl rfl rfl
  |tup l=>simp only[aw6,aw4,gc1]at h;cases h;exact one _ _ rfl rfl rfl
  |at_ x k=>simp only[aw6,aw4,gc1]at h;cases h;exact one _ _ rfl rfl rfl
  |mayb p=>simp only[aw6,aw4,gc1]at h;cases h;exact one _ _ rfl rfl rfl
  |clo f cs=>
   simp only[aw6,aw4,fz9]at h;obtain⟨y,⟨cs',hi,rfl⟩,rfl⟩:=h;exact one _ _ rfl rfl (by simp only[aw4,hi];rfl)
  |bnd f cs=>
   simp only[aw6,aw4,fz9]at h;obtain⟨y,⟨cs',hi,rfl⟩,rfl⟩:=h;exact one _ _ rfl rfl (by simp only[aw4,hi];rfl)
  |st cs=>
   simp only[aw6,aw4,fz9]at h;obtain⟨y,⟨cs',hi,rfl⟩,rfl⟩:=h;exact one _ _ rfl rfl (by simp only[aw4,hi];rfl)
  |und=>simp only[aw6,aw4,gc1]at h;cases h;exact one _ _ rfl rfl rfl
  |top=>simp only[aw6,aw4,gc1]at h;cases h;exact one _ _ rfl rfl rfl
theorem ax5{w:World}{F:Nat→Prop}{σ σ':Sg}{B:Nat→Prop}{ks:List Nat}(hσ:∀(i o:Nat),ks[i]? =some o→σ'[i]? =σ[o]?){x y:aa5}{p:Nat × Nat × Nat}(h:aw7 ks x=some y)(hx:aa6 w F σ B x p):aa6 w F σ' B y p:=by
 obtain⟨b,c,n⟩:=p
 cases x with
 |var t cs=>
  simp only[aw7,fz9]at h;obtain⟨cs',hc,rfl⟩:=h;obtain⟨e1,e2⟩:=ax4 hc;obtain⟨vs,h1,h2,h3,h4,h5,h6⟩:=hx;refine⟨vs,h1,by rw[e1,h2],h3,fun i z v hz hv=>?_,h5,h6⟩;obtain⟨u,hu,hr⟩:=e2 i z hz;exact ax2 hσ hr (h4 i u v hu hv)
 |row e size xs=>simp only[aw7]at h;cases h;exact hx
 |mrow e size xs=>simp only[aw7]at h;cases h;exact hx
 |map kd xs=>simp only[aw7]at h;cases h;exact hx
 |dead=>simp only[aw7]at h;cases h;exact hx
theorem ax6{ks:List Nat}{x y:aa5}(h:aw7 ks x=some y):x.live=y.live:=by
 cases x with
 |var t cs=>simp only[aw7,fz9]at h;obtain⟨cs',hc,rfl⟩:=h;rfl
 |row e size xs=>simp only[aw7]at h;cases h;rfl
 |mrow e size xs=>simp only[aw7]at h;cases h;rfl
 |map kd xs=>simp only[aw7]at h;cases h;rfl
 |dead=>simp only[aw7]at h;cases h;rfl
theorem ax7{ks:List Nat}{ob:List aa5}:∀{l:List Nat} {ob':List aa5},aw8 ks ob l=some ob'→ob'.length=l.length∧∀(i:Nat) y,ob'[i]? =some y→∃k x,l[i]? =some k∧ob[k]? =some x∧aw7 ks x=some y
 |[],ob',h=>by simp only[aw8]at h;cases h;exact⟨rfl,fun i y h=>by simp at h⟩
 |k::r,ob',h=>by
  simp only[aw8]at h;split at h
  ·rename_i x hx
   split at h
   ·rename_i y hy
    simp only[fz9]at h;obtain⟨r',hr,rfl⟩:=h;obtain⟨e1,e2⟩:=ax7 hr;refine⟨by simp[e1],fun i z hz=>?_⟩
    cases i with
    |zero=>simp at hz;subst hz;exact⟨k,x,rfl,hx,hy⟩
    |succ i=>simpa using e2 i z (by simpa using hz)
   ·cases h
  ·cases h
def ax8(tm:List (Nat × X))(ks:List Nat):List (Nat × X)→Prop
 |[]=>True
 |(k,x)::r=>aw4 ks (lk tm k)=some x∧ax8 tm ks r
theorem Le.ren{C:Cx}{tm tm':List (Nat × X)}{ob ob':List aa5}(ks:List Nat)(hn:aw9 ks=true)(hk0:((List.range C.base.n0).all fun i=>ks[i]? ==some i)=true)(hob:aw8 ks ob ks=some ob')(ht:ax8 tm ks tm'):Le C ⟨tm,ob⟩ ⟨tm',ob'⟩:=by
 rintro a w ⟨F,σ,h1,h2,h3,hi,h4,h5,hs⟩;obtain⟨e1,e2⟩:=ax7 hob;have hlen:=hi.len
 have hin:∀(i k:Nat),ks[i]? =some k→k<σ.length:=fun i k hk=>by
  have hlt:i<ob'.length:=by rw[e1];exact(fy9.1 hk).1
  obtain⟨k',x,g1,g2,-⟩:=e2 i _ (fy4 hlt);rw[hk]at g1
  cases g1
  rw[hlen];exact(fy9.1 g2).1
 have hσ:∀(i o:Nat),ks[i]? =some o→(ks.map fun k=>σ.getD k (0,0,0))[i]? =σ[o]? :=fun i o ho=>by
  rw[fz1,ho,gc1,gd6,fy4 (hin i o ho)];rfl
 have hlook:∀(l:List (Nat × X)) (t:Nat),ax8 tm ks l→aw4 ks (lk tm t)=some (lk l t)∨lk l t=.top:=by
  intro l t
  induction l with
  |nil=>intro _;exact .inr rfl
  |cons p l ih=>
   intro hp;obtain⟨k,x⟩:=p;simp only[lk]
   cases hb:Nat.beq k t with
   |true=>
    obtain rfl:=fz8 hb;exact .inl hp.1
   |false=>exact ih hp.2
 refine⟨F,ks.map fun k=>σ.getD k (0,0,0),h1,h2,h3,⟨hi.flt,hi.glob,by simp only[fz3];exact e1.symm,fun o x p hx hp=>?_,fun o o' x x' p p' hne hx hl hx' hl' hp hp'=>?_,fun i p hp hq=>by rw[hσ i i (by have:=ga6.1 hk0 i (gd5.2 hp);simpa using this)];exact hi.pre i p hp hq⟩,h4,h5,fun t=>?_⟩
 ·obtain⟨k,y,g1,g2,g3⟩:=e2 o x hx;rw[hσ o k g1]at hp;exact ax5 hσ g3 (hi.obs k y p g2 hp)
 ·obtain⟨k,y,g1,g2,g3⟩:=e2 o x hx;obtain⟨k',y',g1',g2',g3'⟩:=e2 o' x' hx';rw[hσ o k g1]at hp;rw[hσ o' k' g1']at hp';refine hi.inj k k' y y' p p' (fun e=>?_) g2 (by rw[ax6 g3];exact hl) g2' (by rw[ax6 g3'];exact hl') hp hp';subst e;exact hne (ax0 hn g1 g1')
 ·rcases hlook tm' t ht with e|e
  ·exact ax2 hσ e (hs t)
  ·show RdX w F _ (lk tm' t) _;rw[e]
   trivial
def ax9:List D→X
 |[]=>.nilS
 |_::_=>.own 0
def ay0(e:TypeId)(size:Nat):List D→List aa5
 |[]=>[]
 |x::r=>[.row e size (x::r)]
section
variable{C:Cx}{r:List It}{s:St}{Q:Exit→St→Prop}{o:Oper}
theorem ay1{c:Operand}{x y:Code}{p:Prop}(hc:s.ev C.E c=.mayb p)(ht:p→go C (.code x::r) s Q)(hf:go C (.code y::r) s Q):go C (.code (.cond c x y)::r) s Q:=by
 intro a w hr
 have hev:∃b:Bool,a.eval c=.bool b∧(b=true→p):=by
  obtain⟨F,σ,_,_,_,hi,_,_,hs⟩:=hr;have:=ab6 (E:=C.E) (s:=s) hi hs c;rw[hc]at this;exact this
 obtain⟨b,h1,h2⟩:=hev;exact wp_cond_split h1 (fun h=>ht (h2 h) a w hr) (fun _=>hf a w hr)
theorem ay2{t:TypeId}{n:Nat}{parts:List (Nat × Operand)}{te:TE}{ds:List D}(ho:o.op=.buildSlice t n parts.toArray)(hte:al2 C.E t=some te)(hp:at5 C.E s te.size 0 parts=some ds)(hn:n=ds.length)
  (hsm:n*te.size≤16777216)(hn6:n≤16777216)(hd:ac9 C o=true):SOp C s o (s.add o.dst (.row te.t te.size ds) (.own s.ob.length)):=by
 obtain⟨hu,hok⟩:=al3 hte;rintro w a K Q ⟨F,σ,h1,h2,h3,hi,h4,h5,hs⟩ hK;have hr:∀y:Operand,RdX w F σ (s.ev C.E y) (a.eval y):=fun y=>ab6 hi hs y
 have hsz:=aj5 (w:=w) hok
 have fin:∀zs:Array Value,∃vs',Instr.fill (fun i=>some (i*te.size,te.size)) ((Array.range (n*te.size)).map (zs[· % zs.size]!)) (parts.map fun q=>(q.1,a.eval q.2))=some vs'∧vs'.size=n*te.size∧(∀d∈ds,d.cells.length=te.size)∧(∀d∈ds,∀c∈d.cells,c.one=true)∧
   ∀(i:Nat) (x:D) (j:Nat) (cd:D),ds[i]? =some x→x.cells[j]? =some cd→∃v,vs'.toList[(0+i)*te.size+j]? =some v∧Rd w F cd v:=fun zs=>by
  obtain⟨vs',e1,e2,-,e4,e5,e6⟩:=at6 (s:=s) (E:=C.E) (size:=te.size) (w:=w) (F:=F) (σ:=σ) (a:=a) parts 0 ((Array.range (n*te.size)).map (zs[· % zs.size]!)) ds hp (by simp[hn]) (fun q hq=>hr q.2);exact⟨vs',e1,by simpa using e2,e4,e5,e6⟩
 have hparts:(parts.toArray.map fun(i,x)=>(i,a.eval x)).toList=parts.map fun q=>(q.1,a.eval q.2):=Oc
 obtain⟨vs',hrun,e2,e4,e5,e6⟩:∃vs',(execOp a.eval o).run C.E.P w=.ok (.value (.slice (some ⟨w.heap.size,0,none⟩) n n)) (w.alloc (.cells vs' te.t))∧vs'.size=n*te.size∧(∀d∈ds,d.cells.length=te.size)∧(∀d∈ds,∀c∈d.cells,c.one=true)∧
   ∀(i:Nat) (x:D) (j:Nat) (cd:D),ds[i]? =some x→x.cells[j]? =some cd→∃v,vs'.toList[(0+i)*te.size+j]? =some v∧Rd w F cd v:=by
  by_cases h0:n*te.size=0
  ·obtain⟨vs',e1,e456⟩:=fin #[];refine⟨vs',?_,e456⟩;simp only[execOp,ho,Instr.buildSlice,Sem.run_bind,run_underlying hu,Result.andThen_ok,hsz];rw[if_neg Oa,if_pos h0];simp only[Sem.run_bind,Sem.run_pure,Result.andThen_ok,hparts,e1,newRow];rfl
  ·obtain⟨vs',e1,e456⟩:=fin te.zero.cells;refine⟨vs',?_,e456⟩;simp only[execOp,ho,Instr.buildSlice,Sem.run_bind,run_underlying hu,Result.andThen_ok,hsz];rw[if_neg Oa,if_neg h0];simp only[Sem.run_bind,Sem.run_pure,Result.andThen_ok,am5 hok,hparts,e1,newRow];rfl
 unfold Oper.wp;rw[hrun];have hmx':n≤maxLen:=by show n≤9223372036854775807;omega
 have he:=am2 (F:=F) (.cells vs' te.t) hi.flt;refine hK _ _ (am3 h1 h2 h3 hi h4 h5 hs hd (x:=.row te.t te.size ds) (c:=n) (n:=n) ⟨vs'.toList,by simpa using am0,by simpa using e2,hn,fz6 _,hmx',e4,e5,fun i x j cd hx hcd=>?_,h1.new (fz6 _),fun hf=>?_⟩ ⟨w.heap.size,n,n,?_,rfl⟩)
 ·obtain⟨u,q1,q2⟩:=e6 i x j cd hx hcd;rw[gc3]at q1;exact⟨u,q1,q2.ext he hi.flt⟩
 ·exact absurd (hi.flt _ hf) (gg9 _)
 ·rw[←hi.len];simp
def EvO(E:Env)(f:FuncId)(ds:List D)(te:TypeId)(size:Nat)(xs:List D):Prop:=
 ∀(w:World) (F:Nat→Prop) (vs:List Value),(∀b,F b→b<w.heap.size)→E.GI w F→vs.length=ds.length→(∀(i:Nat) d v,ds[i]? =some d→vs[i]? =some v→Rd w F d v)→
  Calls E.P f vs.toArray w fun e w'=>∃b c F',e=.returned (.slice (some ⟨b,0,none⟩) xs.length c)∧Ext w F w' F'∧aa6 w' F' [] (fun k=>k<w.heap.size) (.row te size xs) (b,c,xs.length)
theorem EvO.mk{E:Env}{f:FuncId}{ds:List D}{te:TypeId}{size:Nat}{xs:List D}(h:∀(w:World) (F:Nat→Prop) (vs:List Value),(∀b,F b→b<w.heap.size)→E.GI w F→vs.length=ds.length→(∀(i:Nat) d v,ds[i]? =some d→vs[i]? =some v→Rd w F d v)→
  Calls E.P f vs.toArray w fun e w'=>∃b c F',e=.returned (.slice (some ⟨b,0,none⟩) xs.length c)∧Ext w F w' F'∧aa6 w' F' [] (fun k=>k<w.heap.size) (.row te size xs) (b,c,xs.length)):EvO E f ds te size xs:=h
def EndO(C:Cx)(fn:Func)(te:TypeId)(size:Nat)(xs:List D):Exit→St→Prop
 |.ret,s|.normal,s=>∃k t,fn.results= #[.tmp t]∧lk s.tm t=.own k∧s.ob[k]? =some (.row te size xs)
 |_,_=>False
theorem EvO.enter{E:Env}{f:FuncId}{fn:Func}{c:Code}{ds:List D}{te:TypeId}{size:Nat}{xs:List D}{N:Nat}(hf:E.P.funcs[f]? =some fn)(hb:fn.body=some c)(hN:fn.ntmps=N)(hle:ds.length≤N)
  (h:∀(w0:World) (F0 O:Nat→Prop),go ⟨E,w0,F0,N,⟨O,0,[]⟩⟩ [.code c] ⟨(List.range ds.length).zip (ds.map X.d),[]⟩ (EndO ⟨E,w0,F0,N,⟨O,0,[]⟩⟩ fn te size xs)):EvO E f ds te size xs:=by
 intro w F vs hF hG hl hr;refine calls_of_wp hf hb ?_;have hgo:=h w F (fun k=>k<w.heap.size)
 have hlook:∀t,RdX w F [] (lk ((List.range ds.length).zip (ds.map X.d)) t) ((vs.toArray++Array.replicate (fn.ntmps-vs.toArray.size) undef).getD t undef):=by
  intro t
  have key:∀(k:Nat) (l:List D),(∀(i:Nat) d,l[i]? =some d→ds[k+i]? =some d)→RdX w F [] (lk ((List.range' k l.length).zip (l.map X.d)) t) ((vs.toArray++Array.replicate (fn.ntmps-vs.toArray.size) undef).getD t undef):=by
   intro k l
   induction l generalizing k with
   |nil=>intro _;trivial
   |cons d l ih=>
    intro hk;simp only[fy7,List.range'_succ,fz7,List.zip_cons_cons,lk]
    cases hbq:Nat.beq k t with
    |true=>
     obtain rfl:=fz8 hbq;have hd:ds[k]? =some d:=by simpa using hk 0 d rfl
     have hlt:k<vs.length:=by rw[hl];exact(fy9.1 hd).1
     have e:(vs.toArray++Array.replicate (fn.ntmps-vs.toArray.size) undef).getD k undef=vs[k]:=by
      simp[Array.getElem?_append,hlt]
     rw[e];exact hr k d _ hd (fy4 hlt)
    |false=>
     refine ih (k+1) fun i d' hi=>?_
     have:=hk (i+1) d' (by simpa using hi);rw[←this];congr 1;omega
  have:=key 0 ds fun i d hd=>by simpa using hd
  rwa[←List.range_eq_range']at this
 have hrel:Cx.Rel ⟨E,w,F,N,⟨fun k=>k<w.heap.size,0,[]⟩⟩ ⟨(List.range ds.length).zip (ds.map X.d),[]⟩ {tmps:=vs.toArray++Array.replicate (fn.ntmps-vs.toArray.size) undef,defers:=[]} w:=by
  refine⟨F,[],aa7.refl (fun _ h=>h),fun _ h=>h,fun _ h=>.inl h,⟨hF,hG,rfl,fun k x p hx=>by simp at hx,fun k k' x x' p p' _ hx=>by simp at hx,fun i p h=>absurd h (Nat.not_lt_zero _)⟩,rfl,?_,hlook⟩;simp[hN,hl];omega
 refine wp_mono (hgo _ w hrel) ?_;rintro e a' w' ⟨s',⟨F',σ,h1,h2,h3,hi,h4,h5,hs⟩,hq⟩
 have fin:(∃k t,fn.results= #[.tmp t]∧lk s'.tm t=.own k∧s'.ob[k]? =some (.row te size xs))→a'.defers=[]∧∃v,(results fn a'.tmps).run E.P w'=.ok v w'∧
   ∃b c F'',Ending.returned v=.returned (.slice (some ⟨b,0,none⟩) xs.length c)∧Ext w F w' F''∧aa6 w' F'' [] (fun k=>k<w.heap.size) (.row te size xs) (b,c,xs.length):=by
  rintro⟨k,t,r1,r2,r3⟩;have hv:=hs t;rw[r2]at hv;obtain⟨b,c,n,p1,p2⟩:=hv;have hob:=hi.obs k _ _ r3 p1;have hn:n=xs.length:=by obtain⟨vs,-,-,hn,-⟩:=hob;exact hn
  subst hn;have hob':aa6 w' F' [] (fun k=>k<w.heap.size) (.row te size xs) (b,c,xs.length):=hob;refine⟨h4,_,?_,b,c,F',rfl,⟨h1.below,h2,fun b hb=>(h3 b hb).imp id Nat.le_of_not_lt,hi.flt⟩,hob'⟩;rw[ao8,r1];simp[ao6,p2]
 cases e with
 |normal=>exact fin hq
 |ret=>exact fin hq
 |_=>exact hq.elim
theorem EvO.ev{E:Env}{f:FuncId}{ds:List D}{te:TypeId}{size:Nat}{xs:List D}(h:EvO E f ds te size xs):Ev E f ds (.d (.sl xs)):=by
 intro w F vs hF hG hl hr;refine(h w F vs hF hG hl hr).mono ?_;rintro e w' ⟨b,c,F',rfl,he,hob⟩;obtain⟨us,q1,q2,q3,q4,q5,q6,q7,q8,q9,q10⟩:=hob
 have hlt:b<w'.heap.size:=by
  rcases fy5 b w'.heap.size with h|h
  ·exact h
  ·rw[gh5 h]at q1;cases q1
 refine⟨_,fun i=>F' i∨i=b,rfl,⟨he.below,fun i h=>.inl (he.more i h),fun i h=>?_,fun i h=>?_⟩,?_⟩
 ·rcases h with h|h
  ·exact he.new i h
  ·rw[h];exact .inr (Nat.le_of_not_lt q9)
 ·rcases h with h|h
  ·exact he.lt i h
  ·rw[h];exact hlt
 ·have hex:∀i j,∃u,∀x cd,xs[i]? =some x→x.cells[j]? =some cd→us[i*size+j]? =some u∧Rd w' F' cd u:=by
   intro i j
   cases hx:xs[i]? with
   |none=>exact⟨undef,fun x cd h=>by cases h⟩
   |some x=>
    cases hc:x.cells[j]? with
    |none=>exact⟨undef,fun x' cd h h'=>by cases h;rw[hc]at h';cases h'⟩
    |some cd=>
     obtain⟨u,e1,e2⟩:=q8 i x j cd hx hc;exact⟨u,fun x' cd' h h'=>by cases h;rw[hc]at h';cases h';exact⟨e1,e2⟩⟩
  refine Rd.sl size xs ⟨b,0,none⟩ c (fun i j=>Classical.choose (hex i j)) Oa q5 (fun _=>.inr rfl) q6 q7 (fun i x j cd hx hc=>?_) (fun i x j cd hx hc=>?_)
  ·rw[aa2,aj8 q1,gc3];exact(Classical.choose_spec (hex i j) x cd hx hc).1
  ·exact(Classical.choose_spec (hex i j) x cd hx hc).2.mono (fun _ h=>.inl h) fun _ _=>rfl
theorem ay3{y:Operand}{args:List Operand}{tys:Array TypeId}{f:FuncId}{ds:List D}{te:TypeId}{size:Nat}{xs:List D}(ho:o.op=.call {callee:=.value y,args:=args.toArray,argTypes:=tys})(hf:s.ev C.E y=.d (.imm (.func (.func f) #[] #[])))
  (hb:an9 C.E f)(hd:an6 s C.E args ds)(h:EvO C.E f ds te size xs)(hdst:ac9 C o=true):SOp C s o (s.add o.dst (.row te size xs) (.own s.ob.length)):=by
 rintro w a K Q ⟨F,σ,h1,h2,h3,hi,h4,h5,hs⟩ hK;have hr:∀y:Operand,RdX w F σ (s.ev C.E y) (a.eval y):=fun y=>ab6 hi hs y
 have hy:=hr y;rw[hf]at hy;obtain⟨e1,-⟩:=Rd.imm_inv hy;obtain⟨g1,g2⟩:=hd.rd (w:=w) (F:=F) (σ:=σ) (a:=a) fun z hz=>hr z
 have hrun:(execOp a.eval o).run C.E.P w=.ok (.enter f (args.map a.eval).toArray) w:=by
  simp only[execOp,ho];rw[ao0 e1];simpa using hb (args.toArray.map a.eval) w
 unfold Oper.wp;rw[hrun];refine(h w F _ hi.flt hi.glob g1 g2).mono ?_;rintro e w' ⟨b,c,F',rfl,he,hob⟩;refine hK _ _ ?_;have hi':=hi.ext he;have hbl:w.heap.size≤b:=by obtain⟨us,-,-,-,-,-,-,-,-,q9,-⟩:=hob;exact Nat.le_of_not_lt q9
 have hob':aa6 w' F' (σ++ [(b,c,xs.length)]) C.O (.row te size xs) (b,c,xs.length):=by
  obtain⟨us,q1,q2,q3,q4,q5,q6,q7,q8,q9,q10⟩:=hob;exact⟨us,q1,q2,q3,q4,q5,q6,q7,q8,h1.new (Nat.le_of_not_lt q9),q10⟩
 have cases_:∀(k:Nat) z p,(s.ob++ [aa5.row te size xs])[k]? =some z→(σ++ [(b,c,xs.length)])[k]? =some p→(k<s.ob.length∧s.ob[k]? =some z∧σ[k]? =some p)∨(k=s.ob.length∧z=.row te size xs∧p=(b,c,xs.length)):=by
  intro k z p hz hp;rcases fy5 k s.ob.length with hlt|hge
  ·rw[ga0 hlt]at hz;rw[ga0 (by rw[hi.len];omega)]at hp;exact .inl ⟨hlt,hz,hp⟩
  ·rw[ga7 hge]at hz;rw[ga7 (by rw[hi.len];omega),hi.len]at hp
   have hk0:k-s.ob.length=0:=by
    rcases gh7 (k-s.ob.length)with h0|h0
    ·exact h0
    ·rw[gc5 Og]at hz;cases hz
   rw[hk0]at hz hp;simp at hz hp;exact .inr ⟨by omega,hz.symm,hp.symm⟩
 refine⟨F',σ++ [(b,c,xs.length)],h1.step he.below,fun i hb=>he.more _ (h2 i hb),fun i hb=>?_,?_,by rw[Act.put_def];exact h4,by rw[Act.put_size];exact h5,?_⟩
 ·rcases he.new i hb with h|h
  ·exact h3 i h
  ·exact .inr (h1.new h)
 ·unfold St.add;rw[St.put_ob];refine⟨hi'.flt,hi'.glob,by simp[hi.len],fun k z p hz hp=>?_,fun k k' z z' p p' hne hz hl hz' hl' hp hp'=>?_,fun i p hp hq=>σ_app _ _ (hi.pre i p hp hq)⟩
  ·rcases cases_ k z p hz hp with⟨-,q2,q3⟩|⟨-,rfl,rfl⟩
   ·exact(hi'.obs k z p q2 q3).mono (fun _ h=>h) (fun _ _=>rfl) σ_app (fun _=>rfl) (fun _ h=>h)
   ·exact hob'
  ·have far:∀(k:Nat) z p,s.ob[k]? =some z→z.live=true→σ[k]? =some p→p.1≠b:=by
    intro k z p q2 hlv q3;have:=(hi.obs k z p q2 q3).lt hlv;omega
   rcases cases_ k z p hz hp with⟨q1,q2,q3⟩|⟨q1,rfl,rfl⟩<;>rcases cases_ k' z' p' hz' hp' with⟨q1',q2',q3'⟩|⟨q1',rfl,rfl⟩
   ·exact hi.inj k k' z z' p p' hne q2 hl q2' hl' q3 q3'
   ·exact far k z p q2 hl q3
   ·exact fun e=>far k' z' p' q2' hl' q3' e.symm
   ·omega
 ·unfold St.add;exact ab7 (N:=C.N) (s:={s with ob:=s.ob++ [aa5.row te size xs]}) (fun t=>((hs t).ext he hi.flt).mono (fun _ h=>h) (fun _ _=>rfl) σ_app) h5 (ad1 hdst) fun _=>⟨b,c,xs.length,by rw[←hi.len];simp,rfl⟩
section
variable{all:Array Oper}{K:St→Prop}{rest:List Oper}{tm:List (Nat × X)}{ob:List aa5}{d:Nat}
theorem ay4{y:Operand}{args:List Operand}{tys:Array TypeId}{f:FuncId}{ds:List D}{te:TypeId}{size:Nat}{xs:List D}
  (ho:o.op=.call {callee:=.value y,args:=args.toArray,argTypes:=tys})(hg:ap8 all tm o=some true)(hdst:o.dst=some d)(hd:Nat.blt d C.N=true)
  (hf:(⟨tm,ob⟩:St).ev C.E y=.d (.imm (.func (.func f) #[] #[])))(hds:an7 C.E ⟨tm,ob⟩ args=some ds)(hb:an9 C.E f)(h0:EvO C.E f ds te size xs)
  (h:SGo C all false rest ⟨(d,.own ob.length)::tm,ob++ [.row te size xs]⟩ K):SGo C all false (o::rest) ⟨tm,ob⟩ K:=by
 refine SGo.eff (ap9 hg) (ay3 ho hf hb (an8 hds) h0 (by simp only[ac9,hdst];exact hd)) ?_;rw[hdst];exact h
theorem ay5{t:TypeId}{n:Nat}{parts:List (Nat × Operand)}{te:TE}{ds:List D}(ho:o.op=.buildSlice t n parts.toArray)(hg:ap8 all tm o=some true)(hdst:o.dst=some d)(hd:Nat.blt d C.N=true)(hte:al2 C.E t=some te)
  (hp:at5 C.E ⟨tm,ob⟩ te.size 0 parts=some ds)(hn:n=ds.length)(hsm:n*te.size≤16777216)(hn6:n≤16777216)(h:SGo C all false rest ⟨(d,.own ob.length)::tm,ob++ [.row te.t te.size ds]⟩ K):SGo C all false (o::rest) ⟨tm,ob⟩ K:=by
 refine SGo.eff (ap9 hg) (ay2 ho hte hp hn hsm hn6 (by simp only[ac9,hdst];exact hd)) ?_;rw[hdst];exact h
end
theorem ay6{P:Program}{w:World}{t t' ty:TypeId}{te:TE}{e':TypeId}{base zb:Option Addr}{sl sc zc:Nat}(hu:P.underlying t=some (.slice te.t))(hok:te.ok P)(hu':P.underlying t'=some (.slice e'))(hle:sl≤sc):
  (Builtin.append_ #[t,t'] ty #[.slice base sl sc,.slice zb 0 zc]).run P w=.ok (.slice base sl sc) w:=by
 have hsz:=aj5 (w:=w) hok
 have h0:(Builtin.firstCells te.size 0 (.slice zb 0 zc)).run P w=.ok #[] w:=by
  cases zb with
  |none=>rfl
  |some a=>
   simp only[Builtin.firstCells,Nat.zero_mul];rfl
 cases base<;>simp[Builtin.append_,run_underlying hu,run_underlying hu',hsz,Builtin.lenOf,hle,h0,storeCells]
theorem ay7{t t':TypeId}{y z:Operand}{te:TE}{e':TypeId}{xs:List D}(ho:o.op=.call {callee:=.builtin .append,args:= #[y,z],argTypes:= #[t,t']})(hte:al2 C.E t=some te)(hd':at8 C.E t'=some (.slice e'))
  (hy':s.ev C.E y=.d (.sl xs))(hz':s.ev C.E z=.d (.sl [])):VOp C s o (.d (.sl xs)):=by
 obtain⟨hu,hok⟩:=al3 hte;refine VOp.pure_ fun F σ w a hi hr=>?_
 have hy:=hr y (by simp[ho,Op.operands,Call.operands]);have hz:=hr z (by simp[ho,Op.operands,Call.operands]);rw[hy']at hy;rw[hz']at hz
 have key:∀v,(Builtin.append_ #[t,t'] o.type #[a.eval y,a.eval z]).run C.E.P w=.ok v w→(execOp a.eval o).run C.E.P w=.ok (.value v) w:=by
  intro v hv;simp[execOp,ho,resolve,invoke,builtin,hv]
 have hzv:∃zb zc,a.eval z=.slice zb 0 zc:=by
  rcases Rd.sl_inv hz with⟨-,e⟩|⟨_,ad,cap,e,-⟩
  ·exact⟨_,_,e⟩
  ·exact⟨_,_,e⟩
 obtain⟨zb,zc,ez⟩:=hzv;refine⟨a.eval y,key _ ?_,hy⟩;rcases Rd.sl_inv hy with⟨-,e⟩|⟨_,ad,cap,e,h1,-⟩
 ·rw[e,ez];exact ay6 hu hok (at9 hd') (fz6 _)
 ·rw[e,ez];exact ay6 hu hok (at9 hd') h1
theorem ay8{all:Array Oper}{pu:Bool}{K:St→Prop}{rest:List Oper}{tm:List (Nat × X)}{ob:List aa5}{d:Nat}{t t':TypeId}{y z:Operand}{te:TE}{e':TypeId}{xs:List D}(ho:o.op=.call {callee:=.builtin .append,args:= #[y,z],argTypes:= #[t,t']})
  (hg:ap8 all tm o=some true)(hdst:o.dst=some d)(hd:Nat.blt d C.N=true)(hte:al2 C.E t=some te)(hd':at8 C.E t'=some (.slice e'))(hy':(⟨tm,ob⟩:St).ev C.E y=.d (.sl xs))(hz':(⟨tm,ob⟩:St).ev C.E z=.d (.sl []))
  (h:SGo C all pu rest ⟨(d,.d (.sl xs))::tm,ob⟩ K):SGo C all pu (o::rest) ⟨tm,ob⟩ K:=
 av2 hg hdst hd (ay7 ho hte hd' hy' hz') h
theorem qO{r:List It}{fn:Func}{t k:Nat}{te:TypeId}{size:Nat}{xs ys:List D}(hr:fn.results= #[.tmp t])(h:lk s.tm t=.own k)(hob:s.ob[k]? =some (.row te size ys))(he:ys=xs):go C (.code .ret::r) s (EndO C fn te size xs):=by
 subst he;exact ac4 ⟨k,t,hr,h,hob⟩
theorem ay9{E:Env}{f:FuncId}{fn:Func}{c:Code}{d0:D}{te:TypeId}{size:Nat}{xs:List D}{N:Nat}(hf:E.P.funcs[f]? =some fn)(hN:fn.ntmps=N)(hb:fn.body=some c)(hle:Nat.ble 1 N=true)
  (h:∀(w0:World) (F0 O:Nat→Prop),go ⟨E,w0,F0,N,⟨O,0,[]⟩⟩ [.code c] ⟨[(0,.d d0)],[]⟩ (EndO ⟨E,w0,F0,N,⟨O,0,[]⟩⟩ fn te size xs)):EvO E f [d0] te size xs:=
 EvO.enter hf hb hN (gc0 hle) h
end
end Go.Abs
namespace Go.Abs
open Go Go.RowKit Go.ChangeShapes Go.WideShapes
inductive az0(P:Program):TypeId→D→Prop
 |bool {t:TypeId} (b:Bool) (h:P.underlying t=some .bool):az0 P t (.imm (.bool b))
 |int {t:TypeId} {k:IntKind} (n:Int) (h:P.underlying t=some (.int k)):az0 P t (.imm (.int k n))
 |str {t:TypeId} (s:ByteArray) (h:P.underlying t=some .string):az0 P t (.imm (.string s))
 |sl {t e:TypeId} (xs:List D) (h:P.underlying t=some (.slice e)) (hx:∀x∈xs,az0 P e x):az0 P t (.sl xs)
 |struct {t:TypeId} {fs:Array Field} (parts:List D) (h:P.underlying t=some (.struct fs)) (hl:parts.length=fs.size) (hp:∀(i:Nat) (f:Field) (x:D),fs[i]? =some f→parts[i]? =some x→az0 P f.type x):az0 P t (.agg (parts.flatMap D.cells))
 |arr {t e:TypeId} {n:Nat} (parts:List D) (h:P.underlying t=some (.array n e)) (hl:parts.length=n) (hp:∀x∈parts,az0 P e x):az0 P t (.agg (parts.flatMap D.cells))
inductive az1{H:Type}:DataW H→D→Prop
 |bool (b:Bool):az1 (.lit (.bool b)) (.imm (.bool b))
 |int (k:IntKind) (n:Int):az1 (.lit (.int k n)) (.imm (.int k n))
 |str (s:ByteArray):az1 (.lit (.string s.data.toList)) (.imm (.string s))
 |nil:az1 .nil (.sl [])
 |sl (es sp:List (DataW H)) (xs:List D) (hl:es.length=xs.length) (h:∀(i:Nat) e x,es[i]? =some e→xs[i]? =some x→az1 e x):az1 (.slice es sp) (.sl xs)
 |agg (ds:List (DataW H)) (parts:List D) (hl:ds.length=parts.length) (h:∀(i:Nat) d x,ds[i]? =some d→parts[i]? =some x→az1 d x):az1 (.agg ds) (.agg (parts.flatMap D.cells))
def az2(P:Program):Nat→List (Nat × TypeId)→Option Nat
 |o,[]=>some o
 |o,(k,t)::r=>bif Nat.beq k o then az2 P (o+P.cellsOf t) r else none
def az3(P:Program)(l:List TypeId):Bool:=
 l.all fun t=>match P.underlying t with
  |some .bool|some (.int _)|some .string=>Nat.beq (P.cellsOf t) 1
  |some (.slice e)=>Nat.beq (P.cellsOf t) 1&&(l.contains e&&Nat.ble 1 (P.cellsOf e))
  |some (.struct fs)=>(fs.toList.all fun f=>l.contains f.type) &&(az2 P 0 (fs.toList.map fun f=>(f.offset,f.type))==some (P.cellsOf t))
  |some (.array n e)=>l.contains e&&(az2 P 0 ((List.range n).map fun i=>(i*P.cellsOf e,e))==some (P.cellsOf t))
  |_=>false
def F0(w:World):Nat→Prop:=fun b=>b<w.heap.size
structure az4{H:Type}(P:Program)(w:World)(t:TypeId)(cs:List Value)(d:DataW H)(x:D):Prop where
 len:x.cells.length=cs.length
 size:cs.length=P.cellsOf t
 rd:∀(i:Nat) (c:D) (v:Value),x.cells[i]? =some c→cs[i]? =some v→Rd w (F0 w) c v
 one:∀c∈x.cells,c.one=true
 ty:az0 P t x
 says:az1 d x
theorem az4.imm{H:Type}{d:DataW H}{P:Program}{w:World}{t:TypeId}{v:Value}(hs:P.cellsOf t=1)(hv:okV v=true)(ht:az0 P t (.imm v))(hd:az1 d (.imm v)):az4 P w t [v] d (.imm v):=by
 refine⟨rfl,hs.symm,fun i c u hc hu=>?_,fun c hc=>?_,ht,hd⟩
 ·cases i with
  |zero=>simp[D.cells]at hc hu;subst hc hu;exact .imm _ hv
  |succ i=>simp at hu
 ·simp[D.cells]at hc;subst hc;rfl
theorem az5{H:Type}{P:Program}{w:World}{cs:List Value}:∀(L:List (Nat × TypeId)) (ds:List (DataW H)) (o e:Nat),ds.length=L.length→az2 P o L=some e→e≤cs.length→
  (∀(i:Nat) p d,L[i]? =some p→ds[i]? =some d→∃x,az4 P w p.2 ((cs.drop p.1).take (P.cellsOf p.2)) d x)→
  ∃parts:List D,parts.length=L.length∧(∀(i:Nat) p x,L[i]? =some p→parts[i]? =some x→az0 P p.2 x)∧o+(parts.flatMap D.cells).length=e∧
   (∀(i:Nat) c v,(parts.flatMap D.cells)[i]? =some c→cs[o+i]? =some v→Rd w (F0 w) c v)∧(∀c∈parts.flatMap D.cells,c.one=true)∧∀(i:Nat) d x,ds[i]? =some d→parts[i]? =some x→az1 d x
 |[],ds,o,e,_,h,_,_=>by
  simp only[az2]at h
  cases h
  exact⟨[],rfl,fun i p x h=>by simp at h,by simp,fun i c v h=>by simp at h,fun c h=>by simp at h,fun i d x _ h=>by simp at h⟩
 |(k,t)::r,[],o,e,hl,_,_,_=>by simp at hl
 |(k,t)::r,d0::ds,o,e,hl,h,hle,hg=>by
  simp only[az2]at h
  cases hb:Nat.beq k o with
  |false=>rw[hb]at h;cases h
  |true=>
   obtain rfl:=fz8 hb;rw[hb]at h;simp only[cond_true]at h;obtain⟨parts,p1,p2,p3,p4,p5,p6⟩:=az5 r ds (k+P.cellsOf t) e (by simpa using hl) h hle fun i p d hp hd=>hg (i+1) p d (by simpa using hp) (by simpa using hd)
   obtain⟨x,hx⟩:=hg 0 (k,t) d0 rfl rfl;have hxl:x.cells.length=P.cellsOf t:=by rw[hx.len,hx.size]
   refine⟨x::parts,by simp[p1],fun i p y hi hy=>?_,?_,fun i c v hc hv=>?_,fun c hc=>?_,fun i d y hd hy=>?_⟩
   ·cases i with
    |zero=>simp at hi hy;subst hi hy;exact hx.ty
    |succ i=>exact p2 i p y (by simpa using hi) (by simpa using hy)
   ·simp only[gc7,fy8,hxl];omega
   ·simp only[gc7]at hc;rcases fy5 i (P.cellsOf t)with hlt|hge
    ·rw[ga0 Oa]at hc;refine hx.rd i c v hc ?_;rw[ga5,if_pos hlt,ge4];exact hv
    ·rw[ga7 Oa,hxl]at hc;refine p4 (i-P.cellsOf t) c v hc ?_;rw[←hv];congr 1;omega
   ·simp only[gc7,gb2]at hc;rcases hc with h|h
    ·exact hx.one c h
    ·exact p5 c h
   ·cases i with
    |zero=>simp at hd hy;subst hd hy;exact hx.says
    |succ i=>exact p6 i d y (by simpa using hd) (by simpa using hy)
theorem az6{H:Type}{enc:TypeId × Value→H}{P:Program}{w:World}{sp:Nat→Bool}{held:Bool}(l:List TypeId)(hc:az3 P l=true):
    ∀(fuel:Nat) (t:TypeId) (cs:List Value) (d:DataW H) (ps:List MemPlace),t∈l→DataW.trod enc P w 0 sp held fuel t cs=some (d,ps)→∃x,az4 P w t cs d x
  |0,t,cs,d,ps,_,h=>by simp[DataW.trod]at h
  |fuel+1,t,cs,d,ps,ht,h=>by
    have hct:=ga6.1 hc t ht;have ih:=az6 (sp:=sp) (held:=held) (w:=w) (enc:=enc) l hc fuel;have h0:=h;unfold DataW.trod at h
    cases hu:P.underlying t with
    |none=>rw[hu]at hct;cases hct
    |some desc=>
      rw[hu]at hct h
      cases desc with
      |bool=>
        simp only at hct h;split at h<;>first|(cases h;done)|skip
        all_goals first
          |(rename_i b e;cases e;cases h;exact⟨_,az4.imm (fz8 hct) rfl (.bool b hu) (.bool b)⟩)
          |(rename_i e _;cases e;done)
          |(rename_i e;cases e;done)
      |int k=>
        simp only at hct h;split at h<;>first|(cases h;done)|skip
        all_goals first
          |(rename_i k0 k' n e
            cases e
            split at h
            · rename_i hk
              obtain⟨rfl,hw⟩:=hk
              cases h;exact⟨_,az4.imm (v:=.int k' n) (fz8 hct) (by simpa[okV,Lit.wf]using hw) (.int n hu) (.int k' n)⟩
            · cases h)
          |(rename_i e _;cases e;done)
          |(rename_i e;cases e;done)
      |string=>
        simp only at hct h;split at h<;>first|(cases h;done)|skip
        all_goals first
          |(rename_i s e
            cases e
            split at h
            · rename_i hs
              cases h;exact⟨_,az4.imm (v:=.string s) (fz8 hct) (by simpa[okV]using hs) (.str s hu) (.str s)⟩
            · cases h)
          |(rename_i e _;cases e;done)
          |(rename_i e;cases e;done)
      |slice e=>
        simp only[fz4]at hct;obtain⟨h1,h2,h3⟩:=hct;have hs1:=fz8 h1;have he:e∈l:=by simpa using h2
        have hpos:=gc0 h3;clear h;simp only[DataW.trod,hu]at h0;split at h0
        all_goals first
          |(cases h0;done)
          |(exfalso;have hq:= ‹some (TypeDesc.slice e)=some _›;simp at hq;done)
          |skip
        · cases h0
          refine⟨.sl [],rfl,hs1.symm,fun i c v hc hv=>?_,fun c hc=>?_,.sl [] hu Oc,.nil⟩
          · cases i with
            |zero=>simp[D.cells]at hc hv;subst hc hv;exact .slnil
            |succ i=>simp at hv
          · simp[D.cells]at hc;subst hc;rfl
        · rename_i e0 ad len cap hue
          cases hue
          split at h0
          · rename_i hcond
            obtain⟨-,hlc,hcm⟩:=hcond;simp only[Option.bind_eq_some_iff]at h0;obtain⟨elems,hel,h0⟩:=h0;obtain⟨spare,-,hde⟩:=fz9.1 h0;simp only[Prod.mk.injEq]at hde;obtain⟨rfl,-⟩:=hde;have hlen:elems.length=len:=by simpa using mapM_some_length hel
            have hget:∀i,i<len→∃(x:D) (cs':List Value) (d':DataW H),(elems.map (·.1))[i]? =some d'∧az4 P w e cs' d' x∧cs'.length=P.cellsOf e∧∀j,j<P.cellsOf e→w.cell? (ad.add (i*P.cellsOf e+j))=cs'[j]? :=by
              intro i hi;have:=mapM_some_get hel i i (by simp[hi]);rw[fy4 Oa]at this;obtain⟨cs',hcs,htr⟩:=Option.bind_eq_some_iff.1 this;obtain⟨-,hl',hcell⟩:=World.cells?_some hcs;obtain⟨x,hx⟩:=ih e cs' _ _ he htr;exact⟨x,cs',_,by rw[fz1,fy4 (show i<elems.length by omega)];rfl,hx,hl',fun j hj=>by rw[←aa1];exact hcell j hj⟩
            have hch:∀i,∃(q:D × List Value),i<len→(∃d',(elems.map (·.1))[i]? =some d'∧az4 P w e q.2 d' q.1)∧q.2.length=P.cellsOf e∧∀j,j<P.cellsOf e→w.cell? (ad.add (i*P.cellsOf e+j))=q.2[j]? :=by
              intro i
              by_cases hi:i<len
              · obtain⟨x,cs',d',h1,h2,h3⟩:=hget i hi;exact⟨(x,cs'),fun _=>⟨⟨d',h1,h2⟩,h3⟩⟩
              · exact⟨(.sl [],[]),fun h=>absurd h hi⟩
            let q:Nat→D × List Value:=fun i=>Classical.choose (hch i)
            have hq:∀i,i<len→(∃d',(elems.map (·.1))[i]? =some d'∧az4 P w e (q i).2 d' (q i).1)∧(q i).2.length=P.cellsOf e∧∀j,j<P.cellsOf e→w.cell? (ad.add (i*P.cellsOf e+j))=(q i).2[j]? :=fun i=>Classical.choose_spec (hch i)
            have hxs:∀(i:Nat) x,((List.range len).map fun i=>(q i).1)[i]? =some x→i<len∧x=(q i).1:=by
              intro i x hx;rw[fz1,fz9]at hx;obtain⟨k,hk,rfl⟩:=hx
              have hlt:i<len:=by
                have:=(fy9.1 hk).1;simpa using this
              rw[gf6 hlt]at hk
              cases hk
              exact⟨hlt,rfl⟩
            have hmem:∀x∈(List.range len).map fun i=>(q i).1,∃i,i<len∧x=(q i).1:=by
              intro x hx;obtain⟨i,hi⟩:=ga9 hx;exact⟨i,hxs i x hi⟩
            have hxl:((List.range len).map fun i=>(q i).1).length=len:=Oc
            have hrd:Rd w (F0 w) (.sl ((List.range len).map fun i=>(q i).1)) (.slice (some ad) ((List.range len).map fun i=>(q i).1).length cap):=by
              refine Rd.sl (P.cellsOf e) _ ad cap (fun i j=>((q i).2[j]?).getD undef) (by rw[hxl];exact hlc) hcm (fun hne=>?_) (fun x hx=>?_) (fun x hx c hc=>?_) (fun i x j c hx hc=>?_) (fun i x j c hx hc=>?_)
              · have hl0:0<len:=by
                  rcases gh7 len with h|h
                  · exfalso;apply hne;rw[h];rfl
                  · exact h
                obtain⟨-,g2,g3⟩:=hq 0 hl0;have:=g3 0 hpos;rw[fy4 Oa]at this;unfold F0;have hb:(ad.add (0*P.cellsOf e+0)).block=ad.block:=aa0 _ _;rw[←hb];rcases fy5 (ad.add (0*P.cellsOf e+0)).block w.heap.size with h|h
                · exact h
                · unfold World.cell? at this;rw[gh5 h]at this
                  cases this
              · obtain⟨i,hi,rfl⟩:=hmem x hx;obtain⟨⟨_,-,hgd⟩,hl',-⟩:=hq i hi;rw[hgd.len,hl']
              · obtain⟨i,hi,rfl⟩:=hmem x hx;obtain⟨⟨_,-,hgd⟩,-,-⟩:=hq i hi;exact hgd.one c hc
              · obtain⟨hi,rfl⟩:=hxs i x hx;obtain⟨⟨_,-,hgd⟩,hl',-⟩:=hq i hi
                have hj:j<P.cellsOf e:=by
                  have:=(fy9.1 hc).1;rw[hgd.len,hl']at this;exact this
                have hj':j<(q i).2.length:=by rw[(hq i hi).2.1];exact hj
                rw[(hq i hi).2.2 j hj,fy4 hj'];rfl
              · obtain⟨hi,rfl⟩:=hxs i x hx;obtain⟨⟨_,-,hgd⟩,hl',-⟩:=hq i hi
                have hj:j<(q i).2.length:=by
                  have:=(fy9.1 hc).1;rw[hgd.len]at this;exact this
                rw[fy4 hj];exact hgd.rd j c _ hc (fy4 hj)
            rw[hxl]at hrd;refine⟨.sl ((List.range len).map fun i=>(q i).1),rfl,hs1.symm,fun i c v hc hv=>?_,fun c hc=>?_,.sl _ hu (fun x hx=>?_),.sl _ _ _ (by simp[hlen]) fun i e0 x he0 hx=>?_⟩
            · cases i with
              |zero=>simp[D.cells]at hc hv;subst hc hv;exact hrd
              |succ i=>simp at hv
            · simp[D.cells]at hc;subst hc;rfl
            · obtain⟨i,hi,rfl⟩:=hmem x hx;obtain⟨⟨_,-,hgd⟩,-,-⟩:=hq i hi;exact hgd.ty
            · obtain⟨hi,rfl⟩:=hxs i x hx;obtain⟨⟨d',hd',hgd⟩,-,-⟩:=hq i hi;rw[hd']at he0
              cases he0
              exact hgd.says
          · cases h0
      |struct fs=>
        simp only[fz4,beq_iff_eq]at hct;obtain⟨h1,h2⟩:=hct;clear h;simp only[DataW.trod,hu]at h0;split at h0
        · rename_i hcl
          obtain⟨xs,hm,hde⟩:=fz9.1 h0;simp only[Prod.mk.injEq]at hde;obtain⟨rfl,-⟩:=hde
          obtain⟨parts,p1,p2,p3,p4,p5,p6⟩:=az5 (P:=P) (w:=w) (cs:=cs) (fs.toList.map fun f=>(f.offset,f.type)) (xs.map (·.1)) 0 _ (by simpa using mapM_some_length hm) h2 Oa (by
            intro i p d hp hd;rw[fz1,fz9]at hp hd;obtain⟨f,hi,rfl⟩:=hp;obtain⟨xd,hxd,rfl⟩:=hd;have hf:=fy6 hi;have:=mapM_some_get hm i f hi;rw[hxd]at this;exact ih f.type _ _ _ (by simpa using ga6.1 h1 f hf) this)
          refine⟨.agg (parts.flatMap D.cells),?_,hcl,fun i c v hc hv=>?_,p5,.struct parts hu (by simpa using p1) (fun i f x hf hx=>?_),.agg _ parts (by rw[p1];simpa using mapM_some_length hm) p6⟩
          · show(parts.flatMap D.cells).length=cs.length;omega
          · exact p4 i c v hc (by rw[gc3];exact hv)
          · exact p2 i (f.offset,f.type) x (by rw[fz1,gh9,hf];rfl) hx
        · cases h0
      |array n e=>
        simp only[fz4,beq_iff_eq]at hct;obtain⟨h1,h2⟩:=hct;clear h;simp only[DataW.trod,hu]at h0;split at h0
        · rename_i hcl
          obtain⟨xs,hm,hde⟩:=fz9.1 h0;simp only[Prod.mk.injEq]at hde;obtain⟨rfl,-⟩:=hde
          obtain⟨parts,p1,p2,p3,p4,p5,p6⟩:=az5 (P:=P) (w:=w) (cs:=cs) ((List.range n).map fun i=>(i*P.cellsOf e,e)) (xs.map (·.1)) 0 _ (by simpa using mapM_some_length hm) h2 Oa (by
            intro i p d hp hd;rw[fz1,fz9]at hp hd;obtain⟨k,hk,rfl⟩:=hp;obtain⟨xd,hxd,rfl⟩:=hd;have:=mapM_some_get hm i k hk
            have hki:k=i:=by
              have hin:i<n:=by have:=(fy9.1 hk).1;simpa using this
              rw[gf6 hin]at hk
              cases hk;rfl
            subst hki;rw[hxd]at this;exact ih e _ _ _ (by simpa using h1) this)
          refine⟨.agg (parts.flatMap D.cells),?_,hcl,fun i c v hc hv=>?_,p5,.arr parts hu (by simpa using p1) (fun x hx=>?_),.agg _ parts (by rw[p1];simpa using mapM_some_length hm) p6⟩
          · show(parts.flatMap D.cells).length=cs.length;omega
          · exact p4 i c v hc (by rw[gc3];exact hv)
          · obtain⟨i,hi⟩:=ga9 hx
            have hin:i<n:=by
              have:=(fy9.1 hi).1;rw[p1]at this;simpa using this
            exact p2 i (i*P.cellsOf e,e) x (by rw[fz1,gf6 hin];rfl) hi
        · cases h0
      |_=>cases hct
theorem az7{P:Program}{w:World}(l:List TypeId)(hc:az3 P l=true):∀{laid:List (String × DataW Unit)} {ps:List MemPlace},DataW.LaidVars P w laid ps→∀(n:String) (d:DataW Unit) (g:Nat) (t:TypeId),(n,d)∈laid→P.globalNamed n=some g→(P.globals[g]?).map (·.type)=some t→t∈l→
  ∃x,Mem w (F0 w) x ⟨g,0,none⟩∧az1 d x
 |[],_,_,n,d,g,t,hm,_,_,_=>by simp at hm
 |(n0,d0)::r,ps,h,n,d,g,t,hm,hg,ht,htl=>by
  obtain⟨g',t',cs,fuel,p,q,h1,h2,h3,h4,h5,-⟩:=h;rcases fz0.1 hm with e|e
  ·cases e
   rw[hg]at h1
   cases h1
   rw[ht]at h2
   cases h2
   obtain⟨x,hx⟩:=az6 l hc fuel t _ _ _ htl h4
   have hheap:∃ty fz,w.heap[g]? =some (.cells cs ty fz):=by
    unfold World.var? at h3;rw[hg]at h3;simp only[Option.bind_some]at h3
    cases hh:w.heap[g]? with
    |none=>rw[hh]at h3;cases h3
    |some o=>cases o<;>rw[hh]at h3<;>first|(cases h3;done)|(cases h3;exact⟨_,_,rfl⟩)
   obtain⟨ty,fz,hh⟩:=hheap;have hcell:∀j,w.cell? ⟨g,j,none⟩=cs[j]? :=fun j=>by unfold World.cell?;rw[hh];simp
   refine⟨x,⟨(gh1.1 hh).1,hx.one,fun j c hj=>?_⟩,hx.says⟩;have hjl:j<cs.toList.length:=by rw[←hx.len];exact(fy9.1 hj).1
   refine⟨cs.toList[j],?_,hx.rd j c _ hj (fy4 hjl)⟩;rw[aa2,gc3,hcell,←gh9,fy4 hjl]
  ·exact az7 l hc h5 n d g t e hg ht htl
theorem az8{H:Type}{enc:TypeId × Value→H}{P:Program}(hl:laidOutB P=true){W W':World}(hb:Below W.heap.size W W'):∀{ts:List TypeId} {vs:List Value} {ds:List (DataW H)} {ps:List MemPlace},(ts.all fun t=>P.readableRec t&&decide (t<P.types.size))=true→
  DataW.TrodAll enc P W 0 (fun _=>true) true ts vs ds ps→DataW.TrodAll enc P W' 0 (fun b=>decide (b<W.heap.size)) true ts vs ds ps
 |[],[],[],_,_,h=>h
 |[],[],_::_,_,_,h=>h.elim
 |[],_::_,_,_,_,h=>h.elim
 |_::_,[],_,_,_,h=>h.elim
 |_::_,_::_,[],_,_,h=>h.elim
 |t::ts,v::vs,d::ds,ps,hr,h=>by
  have hlt:=DataW.TrodAll.lt h;obtain⟨p,q,h1,h2,rfl⟩:=h;simp only[ge6,fz4,decide_eq_true_eq]at hr;exact⟨p,q,Below.trod hl hr.1.1 hr.1.2 h1 hb fun x hx=>hlt x (by simp[hx]),az8 hl hb (by simpa using hr.2) h2,rfl⟩
theorem az9{H:Type}{enc:TypeId × Value→H}{P:Program}{fn:Func}{s:ChangeSpec}{tb:TypeId}{W W':World}{args:Array Value}{ds gs:List (DataW H)}{before:List MemPlace}(hl:laidOutB P=true)(hW:DataW.Whole enc P fn.params.toList s.vars false W args.toList ds gs before)(hvars:s.vars=[])
  (hres:fn.resultTypes= #[tb])(htb:P.underlying tb=some .bool)(hs:∀ds:List (DataW H),ds.length=fn.params.size→s.fn H ds={results:=[.lit (.bool true)],args:=ds})(hr:(fn.params.toList.all fun t=>P.readableRec t&&decide (t<P.types.size))=true)
  (hb:Below W.heap.size W W'):s.post enc P fn false true false false W args (.bool true) W':=by
 have hW':=hW;obtain⟨p,q,hA,hV,rfl,-,-⟩:=hW;rw[hvars]at hV;obtain⟨rfl,rfl⟩:=trodVars_none hV
 have hlen:ds.length=fn.params.size:=by
  have key:∀{ts:List TypeId} {vs:List Value} {ds:List (DataW H)} {ps:List MemPlace},DataW.TrodAll enc P W 0 (fun _=>true) true ts vs ds ps→ds.length=ts.length:=by
   intro ts
   induction ts with
   |nil=>intro vs ds ps h;cases vs<;>cases ds<;>simp[DataW.TrodAll]at h ⊢
   |cons t ts ih=>
    intro vs ds ps h
    cases vs<;>cases ds<;>simp[DataW.TrodAll]at h
    obtain⟨p,-,q,h2,-⟩:=h;simp[ih h2]
  simpa using key hA
 have hfn:s.fn H (ds++ [])={results:=[.lit (.bool true)],args:=ds}:=by rw[ge7];exact hs ds hlen
 refine⟨ds,[],p++ [],[],p,[],hW',?_,?_,?_,⟨hb.os,hb.output,fun i hi=>?_⟩,fun h=>by cases h⟩
 ·rw[hfn,hres];exact trodAll_mk1 (shut_bool htb true)
 ·rw[hfn];exact az8 hl hb hr hA
 ·rw[hfn,hvars];rfl
 ·rw[hb.block i hi]
  cases hh:W.heap[i]? with
  |none=>exact absurd (Array.getElem?_eq_none_iff.1 hh) Oa
  |some o=>cases o<;>simp
theorem ba0{P:Program}{w:World}:∀{laid:List (String × DataW Unit)} {ps:List MemPlace},DataW.LaidVars P w laid ps→∀(n:String) (k:IntKind) (zs:List Int) (g:Nat) (t e:TypeId) (m:Nat),(n,Lib.tabData k zs)∈laid→P.globalNamed n=some g→(P.globals[g]?).map (·.type)=some t→
  P.underlying t=some (.array m e)→P.underlying e=some (.int k)→P.cellsOf e=1→P.cellsOf t=m→Lib.TabIs P w n k zs
 |[],_,_,n,k,zs,g,t,e,m,hm,_,_,_,_,_,_=>by simp at hm
 |(n0,d0)::r,ps,h,n,k,zs,g,t,e,m,hm,hg,hty,ht,he,hce,hct=>by
  obtain⟨g',t',cs,fuel,p,q,h1,h2,h3,h4,h5,-⟩:=h;rcases fz0.1 hm with e1|e1
  ·cases e1
   rw[hg]at h1
   cases h1
   rw[hty]at h2
   cases h2
   unfold Lib.TabIs;rw[h3,←Lib.cells_of_tab ht he hce hct h4]
  ·exact ba0 h5 n k zs g t e m e1 hg hty ht he hce hct
theorem ba1{E:Env}{f:FuncId}{xs:List D}{W:World}{args:Array Value}(hE:E.GI W (F0 W))(h:Ev E f xs (.d (.bool true)))(hl:xs.length=args.size)(hr:∀(i:Nat) x v,xs[i]? =some x→args.toList[i]? =some v→Rd W (F0 W) x v):
  Calls E.P f args W fun e W'=>e=.returned (.bool true)∧Below W.heap.size W W':=by
 have:=h W (F0 W) args.toList (fun b h=>h) hE (by simp[hl]) hr;simp only[Array.toArray_toList]at this;refine this.mono ?_;rintro e W' ⟨v,F',rfl,he,hv⟩;exact⟨by rw[(Rd.imm_inv hv).1],he.below⟩
theorem az0.bool_inv{P:Program}{t:TypeId}{x:D}(hu:P.underlying t=some .bool)(h:az0 P t x):∃b,x=.imm (.bool b):=by
 cases h with
 |bool b h=>exact⟨b,rfl⟩
 |int n h=>rw[hu]at h;cases h
 |str s h=>rw[hu]at h;cases h
 |sl xs h _=>rw[hu]at h;cases h
 |struct ps h _ _=>rw[hu]at h;cases h
 |arr ps h _ _=>rw[hu]at h;cases h
theorem az0.int_inv{P:Program}{t:TypeId}{k:IntKind}{x:D}(hu:P.underlying t=some (.int k))(h:az0 P t x):∃n,x=.imm (.int k n):=by
 cases h with
 |bool b h=>rw[hu]at h;cases h
 |int n h=>rw[hu]at h;cases h;exact⟨n,rfl⟩
 |str s h=>rw[hu]at h;cases h
 |sl xs h _=>rw[hu]at h;cases h
 |struct ps h _ _=>rw[hu]at h;cases h
 |arr ps h _ _=>rw[hu]at h;cases h
theorem az0.str_inv{P:Program}{t:TypeId}{x:D}(hu:P.underlying t=some .string)(h:az0 P t x):∃s,x=.imm (.string s):=by
 cases h with
 |bool b h=>rw[hu]at h;cases h
 |int n h=>rw[hu]at h;cases h
 |str s h=>exact⟨s,rfl⟩
 |sl xs h _=>rw[hu]at h;cases h
 |struct ps h _ _=>rw[hu]at h;cases h
 |arr ps h _ _=>rw[hu]at h;cases h
theorem az0.sl_inv{P:Program}{t e:TypeId}{x:D}(hu:P.underlying t=some (.slice e))(h:az0 P t x):∃xs,x=.sl xs∧∀y∈xs,az0 P e y:=by
 cases h with
 |bool b h=>rw[hu]at h;cases h
 |int n h=>rw[hu]at h;cases h
 |str s h=>rw[hu]at h;cases h
 |sl xs h hx=>rw[hu]at h;cases h;exact⟨xs,rfl,hx⟩
 |struct ps h _ _=>rw[hu]at h;cases h
 |arr ps h _ _=>rw[hu]at h;cases h
theorem az0.struct_inv{P:Program}{t:TypeId}{fs:Array Field}{x:D}(hu:P.underlying t=some (.struct fs))(h:az0 P t x):∃parts:List D,x=.agg (parts.flatMap D.cells)∧parts.length=fs.size∧∀(i:Nat) (f:Field) (y:D),fs[i]? =some f→parts[i]? =some y→az0 P f.type y:=by
 cases h with
 |bool b h=>rw[hu]at h;cases h
 |int n h=>rw[hu]at h;cases h
 |str s h=>rw[hu]at h;cases h
 |sl xs h _=>rw[hu]at h;cases h
 |struct ps h hl hp=>rw[hu]at h;cases h;exact⟨ps,rfl,hl,hp⟩
 |arr ps h _ _=>rw[hu]at h;cases h
theorem az1.int_inv{H:Type}{k:IntKind}{n:Int}{x:D}(h:az1 (H:=H) (.lit (.int k n)) x):x=.imm (.int k n):=by cases h;rfl
theorem az1.agg_inv{H:Type}{ds:List (DataW H)}{x:D}(h:az1 (.agg ds) x):∃parts:List D,x=.agg (parts.flatMap D.cells)∧ds.length=parts.length∧∀(i:Nat) d y,ds[i]? =some d→parts[i]? =some y→az1 d y:=by
 cases h with
 |agg _ parts hl h=>exact⟨parts,rfl,hl,h⟩
def ba2:DataW Unit→Array Value
 |.agg ds=>(ds.map fun d=>match d with|.lit (.int k n)=>Value.int k n|_=>undef).toArray
 |_=> #[]
end Go.Abs
namespace Go.Abs
open Go Go.RowKit
def Loan(ob:List aa5)(σ:Sg)(k:Nat):Prop:=∃(i:Nat) (x:aa5) (p:Nat × Nat × Nat),ob[i]? =some x∧x.live=true∧σ[i]? =some p∧p.1=k
def ba3(w:World)(ob:List aa5)(σ:Sg):Nat→Prop:=fun k=>k<w.heap.size∧ ¬ Loan ob σ k
def EvS(E:Env)(f:FuncId)(xs:List X)(ob:List aa5)(rx:X)(ob':List aa5):Prop:=
 ∀(w:World) (F:Nat→Prop) (σ:Sg) (vs:List Value),ab2 E ⟨fun _=>False,0,[]⟩ F σ ob w→vs.length=xs.length→(∀(i:Nat) x v,xs[i]? =some x→vs[i]? =some v→RdX w F σ x v)→
  Calls E.P f vs.toArray w fun e w'=>∃v F' σ',e=.returned v∧aa7 (ba3 w ob σ) w w'∧(∀b,F b→F' b)∧(∀b,F' b→F b∨ ¬ ba3 w ob σ b)∧
   (∀(i:Nat) p,i<ob.length→σ[i]? =some p→σ'[i]? =some p)∧ab2 E ⟨ba3 w ob σ,0,[]⟩ F' σ' ob' w'∧RdX w' F' σ' rx v
theorem aa6.own{w:World}{F:Nat→Prop}{σ:Sg}{O O':Nat→Prop}{x:aa5}{p:Nat × Nat × Nat}(h:aa6 w F σ O x p)(h':x.live=true→ ¬ O' p.1):aa6 w F σ O' x p:=by
 obtain⟨b,c,n⟩:=p
 cases x with
 |var ty cs=>obtain⟨vs,h1,h2,h3,h4,h5,h6⟩:=h;exact⟨vs,h1,h2,h3,h4,h' rfl,h6⟩
 |row e size xs=>obtain⟨vs,h1,h2,h3,h4,h5,h6,h7,h8,h9,h10⟩:=h;exact⟨vs,h1,h2,h3,h4,h5,h6,h7,h8,h' rfl,h10⟩
 |mrow e size xs=>obtain⟨vs,h1,h2,h3,h4,h5,h6,h7,h8,h9,h10⟩:=h;exact⟨vs,h1,h2,h3,h4,h5,h6,h7,h8,h' rfl,h10⟩
 |map kd xs=>obtain⟨es,h1,h2,h3,h4,h5,h6⟩:=h;exact⟨es,h1,h2,h3,h4,h' rfl,h6⟩
 |dead=>trivial
theorem aa6.notO{w:World}{F:Nat→Prop}{σ:Sg}{O:Nat→Prop}{x:aa5}{p:Nat × Nat × Nat}(h:aa6 w F σ O x p)(hl:x.live=true): ¬ O p.1∧ ¬ F p.1:=by
 obtain⟨b,c,n⟩:=p
 cases x with
 |var ty cs=>obtain⟨vs,h1,h2,h3,h4,h5,h6⟩:=h;exact⟨h5,h6⟩
 |row e size xs=>obtain⟨vs,h1,h2,h3,h4,h5,h6,h7,h8,h9,h10⟩:=h;exact⟨h9,h10⟩
 |mrow e size xs=>obtain⟨vs,h1,h2,h3,h4,h5,h6,h7,h8,h9,h10⟩:=h;exact⟨h9,h10⟩
 |map kd xs=>obtain⟨es,h1,h2,h3,h4,h5,h6⟩:=h;exact⟨h5,h6⟩
 |dead=>simp[aa5.live]at hl
theorem ab2.ren{E:Env}{B:ab1}{F:Nat→Prop}{σ:Sg}{ob ob':List aa5}{w:World}(hi:ab2 E B F σ ob w)(ks:List Nat)(hn:aw9 ks=true)(hob:aw8 ks ob ks=some ob'):
  (∀(i o:Nat),ks[i]? =some o→o<ob.length∧(ks.map fun k=>σ.getD k (0,0,0))[i]? =σ[o]?)∧ob'.length=ks.length∧(∀(i:Nat) y,ob'[i]? =some y→∃k x,ks[i]? =some k∧ob[k]? =some x∧x.live=y.live)∧
   ab2 E ⟨fun _=>False,0,[]⟩ F (ks.map fun k=>σ.getD k (0,0,0)) ob' w:=by
 obtain⟨e1,e2⟩:=ax7 hob;have hlen:=hi.len
 have hin:∀(i k:Nat),ks[i]? =some k→k<σ.length:=fun i k hk=>by
  have hlt:i<ob'.length:=by rw[e1];exact(fy9.1 hk).1
  obtain⟨k',x,g1,g2,-⟩:=e2 i _ (fy4 hlt);rw[hk]at g1
  cases g1
  rw[hlen];exact(fy9.1 g2).1
 have hσ:∀(i o:Nat),ks[i]? =some o→(ks.map fun k=>σ.getD k (0,0,0))[i]? =σ[o]? :=fun i o ho=>by
  rw[fz1,ho,gc1,gd6,fy4 (hin i o ho)];rfl
 refine⟨fun i o ho=>⟨by rw[←hlen];exact hin i o ho,hσ i o ho⟩,e1,fun i y hy=>?_,hi.flt,hi.glob,by simp only[fz3];exact e1.symm,fun o x p hx hp=>?_,fun o o' x x' p p' hne hx hl hx' hl' hp hp'=>?_,fun i p h=>absurd h (Nat.not_lt_zero _)⟩
 ·obtain⟨k,x,g1,g2,g3⟩:=e2 i y hy;exact⟨k,x,g1,g2,ax6 g3⟩
 ·obtain⟨k,y,g1,g2,g3⟩:=e2 o x hx;rw[hσ o k g1]at hp;exact(ax5 hσ g3 (hi.obs k y p g2 hp)).own fun _ h=>h
 ·obtain⟨k,y,g1,g2,g3⟩:=e2 o x hx;obtain⟨k',y',g1',g2',g3'⟩:=e2 o' x' hx';rw[hσ o k g1]at hp;rw[hσ o' k' g1']at hp';refine hi.inj k k' y y' p p' (fun e=>?_) g2 (by rw[ax6 g3];exact hl) g2' (by rw[ax6 g3'];exact hl') hp hp';subst e;exact hne (ax0 hn g1 g1')
def bkX(g:Nat→Nat):X→X
 |.ptr o off=>.ptr (g o) off
 |.own o=>.own (g o)
 |.mp o=>.mp (g o)
 |.pel o i f z=>.pel (g o) i f z
 |.sub o i f z=>.sub (g o) i f z
 |.clo f cs=>.clo f (cs.map fun c=>match c with|.d x=>.d x|.ptr o off=>.ptr (g o) off|.own o=>.own (g o))
 |.bnd f cs=>.bnd f (cs.map fun c=>match c with|.d x=>.d x|.ptr o off=>.ptr (g o) off|.own o=>.own (g o))
 |.st cs=>.st (cs.map fun c=>match c with|.d x=>.d x|.ptr o off=>.ptr (g o) off|.own o=>.own (g o))
 |.d x=>.d x
 |.nilS=>.nilS
 |.zc=>.zc
 |.tup l=>.tup l
 |.at_ x k=>.at_ x k
 |.mayb p=>.mayb p
 |.und=>.und
 |.top=>.top
def bkC(g:Nat→Nat):VC→VC
 |.w x=>.w (bkX g x)
 |.cs l=>.cs (l.map (bkX g))
def bkO(g:Nat→Nat):aa5→aa5
 |.var t c=>.var t (bkC g c)
 |.row e size xs=>.row e size xs
 |.mrow e size xs=>.mrow e size xs
 |.map kd xs=>.map kd xs
 |.dead=>.dead
theorem ba4(g:Nat→Nat)(c:VC):(bkC g c).cells=c.cells.map (bkX g):=by
 cases c with
 |cs l=>rfl
 |w x=>
  cases x with
  |d d=>simp only[bkC,bkX,VC.cells,X.cells,List.map_map];rfl
  |_=>rfl
theorem ba5{w:World}{F:Nat→Prop}{σ σ':Sg}{g:Nat→Nat}(hg:∀(i:Nat) p,σ'[i]? =some p→σ[g i]? =some p){x:X}{v:Value}(h:RdX w F σ' x v):RdX w F σ (bkX g x) v:=by
 cases x with
 |ptr o off=>obtain⟨b,c,n,e1,e2⟩:=h;exact⟨b,c,n,hg _ _ e1,e2⟩
 |own o=>obtain⟨b,c,n,e1,e2⟩:=h;exact⟨b,c,n,hg _ _ e1,e2⟩
 |mp o=>obtain⟨b,c,n,e1,e2⟩:=h;exact⟨b,c,n,hg _ _ e1,e2⟩
 |pel o i off size=>obtain⟨b,c,n,e1,e2⟩:=h;exact⟨b,c,n,hg _ _ e1,e2⟩
 |sub o i off size=>obtain⟨b,c,n,e1,e2⟩:=h;exact⟨b,c,n,hg _ _ e1,e2⟩
 |clo f cs=>
  obtain⟨us,e1,e2,e3⟩:=h;refine⟨us,e1,by simpa using e2,fun i c u hc hu=>?_⟩;rw[fz1,fz9]at hc;obtain⟨c',hc',rfl⟩:=hc;have:=e3 i c' u hc' hu
  cases c' with
  |d x=>exact this
  |ptr o off=>obtain⟨b,c,n,f1,f2⟩:=this;exact⟨b,c,n,hg _ _ f1,f2⟩
  |own o=>obtain⟨b,c,n,f1,f2⟩:=this;exact⟨b,c,n,hg _ _ f1,f2⟩
 |st cs=>
  obtain⟨us,e1,e2,e4,e3⟩:=h;refine⟨us,e1,by simpa using e2,e4,fun i c u hc hu=>?_⟩;rw[fz1,fz9]at hc;obtain⟨c',hc',rfl⟩:=hc;have:=e3 i c' u hc' hu
  cases c' with
  |d x=>exact this
  |ptr o off=>obtain⟨b,c,n,f1,f2⟩:=this;exact⟨b,c,n,hg _ _ f1,f2⟩
  |own o=>obtain⟨b,c,n,f1,f2⟩:=this;exact⟨b,c,n,hg _ _ f1,f2⟩
 |bnd f cs=>
  obtain⟨us,e1,e2,e3⟩:=h;refine⟨us,e1,by simpa using e2,fun i c u hc hu=>?_⟩;rw[fz1,fz9]at hc;obtain⟨c',hc',rfl⟩:=hc;have:=e3 i c' u hc' hu
  cases c' with
  |d x=>exact this
  |ptr o off=>obtain⟨b,c,n,f1,f2⟩:=this;exact⟨b,c,n,hg _ _ f1,f2⟩
  |own o=>obtain⟨b,c,n,f1,f2⟩:=this;exact⟨b,c,n,hg _ _ f1,f2⟩
 |_=>exact h
theorem ba6{w:World}{F:Nat→Prop}{σ σ':Sg}{O:Nat→Prop}{g:Nat→Nat}(hg:∀(i:Nat) p,σ'[i]? =some p→σ[g i]? =some p){x:aa5}{p:Nat × Nat × Nat}(h:aa6 w F σ' O x p):aa6 w F σ O (bkO g x) p:=by
 obtain⟨b,c,n⟩:=p
 cases x with
 |var ty cs=>
  obtain⟨vs,h1,h2,h3,h4,h5,h6⟩:=h;refine⟨vs,h1,by rw[ba4,fz3];exact h2,h3,fun i x v hx hv=>?_,h5,h6⟩;rw[ba4,fz1,fz9]at hx;obtain⟨y,hy,rfl⟩:=hx;exact ba5 hg (h4 i y v hy hv)
 |row e size xs=>exact h
 |mrow e size xs=>exact h
 |map kd xs=>exact h
 |dead=>trivial
theorem ba7(g:Nat→Nat)(x:aa5):(bkO g x).live=x.live:=by cases x<;>rfl
def bk(sel:List Nat)(n:Nat)(i:Nat):Nat:=bif Nat.blt i sel.length then sel.getD i 0 else n+(i-sel.length)
def ba8:List Nat→List aa5→List aa5→List aa5
 |k::r,x::q,ob=>ba8 r q (ob.set k x)
 |_,_,ob=>ob
def ba9(g:Nat→Nat)(sel:List Nat)(ob' ob:List aa5):List aa5:=ba8 sel (ob'.map (bkO g)) ob++(ob'.drop sel.length).map (bkO g)
theorem bb0:∀(sel:List Nat) (xs ob:List aa5),(ba8 sel xs ob).length=ob.length
 |[],_,ob=>by simp[ba8]
 |_::_,[],ob=>by simp[ba8]
 |k::r,x::q,ob=>by simp only[ba8];rw[bb0 r q];simp
theorem bb1:∀(sel:List Nat) (xs ob:List aa5) (k:Nat) z,sel.length≤xs.length→(ba8 sel xs ob)[k]? =some z→(k ∉ sel∧ob[k]? =some z)∨∃i:Nat,sel[i]? =some k∧xs[i]? =some z
 |[],_,ob,k,z,_,h=>.inl ⟨by simp,by simpa[ba8]using h⟩
 |_::_,[],ob,k,z,hl,h=>by simp at hl
 |s::r,x::q,ob,k,z,hl,h=>by
  simp only[ba8]at h;rcases bb1 r q (ob.set s x) k z (by simpa using hl) h with⟨h1,h2⟩|⟨i,h1,h2⟩
  ·rw[ge2]at h2;split at h2
   ·rename_i e
    split at h2
    ·cases h2;exact .inr ⟨0,by simp[e],rfl⟩
    ·cases h2
   ·rename_i e
    exact .inl ⟨by simp only[fz0,not_or];exact⟨fun e'=>e e'.symm,h1⟩,h2⟩
  ·exact .inr ⟨i+1,by simpa using h1,by simpa using h2⟩
inductive FnX:X→FuncId→List X→Prop
 |plain (f:FuncId):FnX (.d (.imm (.func (.func f) #[] #[]))) f []
 |clo (f:FuncId) (cs:List Cap):FnX (.clo f cs) f (cs.map Cap.x)
theorem Cap.x_rd{w:World}{F:Nat→Prop}{σ:Sg}{c:Cap}{v:Value}(h:aa4 w F σ c v):RdX w F σ c.x v:=by
 cases c<;>exact h
theorem FnX.val{w:World}{F:Nat→Prop}{σ:Sg}{x:X}{f:FuncId}{cs:List X}{v:Value}(h:FnX x f cs)(hv:RdX w F σ x v):
  ∃us:List Value,v=.func (.func f) #[] us.toArray∧cs.length=us.length∧∀(i:Nat) c u,cs[i]? =some c→us[i]? =some u→RdX w F σ c u:=by
 cases h with
 |plain=>
  obtain⟨rfl,-⟩:=Rd.imm_inv hv;exact⟨[],rfl,rfl,fun i c u h=>by simp at h⟩
 |clo f cs=>
  obtain⟨us,e1,e2,e3⟩:=hv;refine⟨us,e1,by simpa using e2,fun i c u hc hu=>?_⟩;rw[fz1,fz9]at hc;obtain⟨c',hc',rfl⟩:=hc;exact Cap.x_rd (e3 i c' u hc' hu)
theorem bb2{ρ:Operand→Value}{y:Operand}{args:Array Operand}{tys:Array TypeId}{ty:TypeId}{f:FuncId}{us:Array Value}{P:Program}{w:World}(h:ρ y=.func (.func f) #[] us):
  (do let d ←resolve ρ {callee:=.value y,args:=args,argTypes:=tys} ty;invoke d.target d.args:Sem Next).run P w=(callFunc f (args.map ρ++us)).run P w:=by
 simp[resolve,Deferred.ofValue,h,invoke]
def nrm:X→X
 |.nilS=>.d (.sl [])
 |.zc=>.zc
 |.ptr o off=>.ptr o off
 |.own o=>.own o
 |.mp o=>.mp o
 |.pel o i f z=>.pel o i f z
 |.sub o i f z=>.sub o i f z
 |.clo f cs=>.clo f cs
 |.bnd f cs=>.bnd f cs
 |.st cs=>.st cs
 |.d x=>.d x
 |.tup l=>.tup l
 |.at_ x k=>.at_ x k
 |.mayb p=>.mayb p
 |.und=>.und
 |.top=>.top
theorem bb3{w:World}{F:Nat→Prop}{σ:Sg}{x:X}{v:Value}(h:RdX w F σ x v):RdX w F σ (nrm x) v:=by
 cases x with
 |nilS=>rw[show v=.slice none 0 0 from h];exact .slnil
 |_=>exact h
section
variable{C:Cx}{s:St}{o:Oper}
theorem bb4{f:FuncId}{xs ys:List X}{ob1 ob1':List aa5}{rx:X}{sel:List Nat}
    (hcall:∀(w:World) (a:Act) (F:Nat→Prop) (σ:Sg),(∀y:Operand,RdX w F σ (s.ev C.E y) (a.eval y))→∃vals:List Value,(execOp a.eval o).run C.E.P w=.ok (.enter f vals.toArray) w∧ys.length=vals.length∧∀(i:Nat) x v,ys[i]? =some x→vals[i]? =some v→RdX w F σ x v)
    (hn:aw9 sel=true)(hob:aw8 sel s.ob sel=some ob1)(hx:aw5 sel ys=some xs)(h:EvS C.E f xs ob1 rx ob1')(hd:ac9 C o=true):
    SOp C s o (St.put ⟨s.tm,ba9 (bk sel s.ob.length) sel ob1' s.ob⟩ o.dst (bkX (bk sel s.ob.length) rx)):=by
  rintro w a K Q ⟨F,σ,h1,h2,h3,hi,h4,h5,hs⟩ hK;have hr:∀y:Operand,RdX w F σ (s.ev C.E y) (a.eval y):=fun y=>ab6 hi hs y
  obtain⟨vals,hrun,hvl,hvals⟩:=hcall w a F σ hr;obtain⟨r1,r2,r3,hi1⟩:=hi.ren sel hn hob;obtain⟨l1,l2⟩:=ax3 hx
  have hargs:∀(i:Nat) x v,xs[i]? =some x→vals[i]? =some v→RdX w F (sel.map fun k=>σ.getD k (0,0,0)) x v:=by
    intro i x v hxi hvi;obtain⟨x0,g1,g2⟩:=l2 i x hxi;exact ax2 (fun i o ho=>(r1 i o ho).2) g2 (hvals i x0 v g1 hvi)
  unfold Oper.wp;rw[hrun];refine(h w F _ vals hi1 (by rw[l1];exact hvl.symm) hargs).mono ?_;rintro e w' ⟨v,F',σ',rfl,k1,k2,k3,k4,k5,k6⟩
  have hm:sel.length≤ob1'.length:=by
    rcases fy5 ob1'.length sel.length with hlt|hge
    · exfalso;have hσl:ob1'.length<(sel.map fun k=>σ.getD k (0,0,0)).length:=by simpa using hlt
      have:=k4 ob1'.length _ (by rw[r2];exact hlt) (fy4 hσl);rw[gc5 (by rw[k5.len];exact fz6 _)]at this
      cases this
    · exact hge
  have hσn:σ.length=s.ob.length:=hi.len
  have hg:∀(i:Nat) p,σ'[i]? =some p→(σ++σ'.drop sel.length)[bk sel s.ob.length i]? =some p:=by
    intro i p hp;unfold bk
    cases hb:Nat.blt i sel.length with
    |true=>
      have hlt:i<sel.length:=by simpa using hb
      have hk:=fy4 hlt;obtain⟨q1,q2⟩:=r1 i _ hk;have hσl:i<(sel.map fun k=>σ.getD k (0,0,0)).length:=by simpa using hlt
      have hp':=k4 i _ (by rw[r2];exact hlt) (fy4 hσl);rw[hp]at hp';rw[←fy4 hσl,q2]at hp';simp only[cond_true,gd6,hk,ge1];rw[ga0 (by rw[hσn];exact q1)];exact hp'.symm
    |false=>
      have hge: ¬ i<sel.length:=fun h=>by
        have:Nat.blt i sel.length=true:=by simpa using h
        rw[hb]at this
        cases this
      simp only[cond_false];rw[ga7 Oa,ge4,←hp];congr 1;omega
  have hheld:∀(k:Nat) z p,k ∉ sel→s.ob[k]? =some z→z.live=true→σ[k]? =some p→ba3 w ob1 (sel.map fun k=>σ.getD k (0,0,0)) p.1:=by
    intro k z p hk hz hl hp;refine⟨(hi.obs k z p hz hp).lt hl,?_⟩;rintro⟨i,x,p',e1,e2,e3,e4⟩;obtain⟨k',x',f1,f2,f3⟩:=r3 i x e1;rw[(r1 i k' f1).2]at e3;exact hi.inj k' k x' z p' p (fun e=>hk (e ▸ fy6 f1)) f2 (by rw[f3];exact e2) hz hl e3 hp e4
  have hOld:∀b,C.O b→ba3 w ob1 (sel.map fun k=>σ.getD k (0,0,0)) b:=by
    intro b hb;refine⟨gi1 (h1.old b hb) h1.size,?_⟩;rintro⟨i,x,p',e1,e2,e3,e4⟩;obtain⟨k',x',f1,f2,f3⟩:=r3 i x e1;rw[(r1 i k' f1).2]at e3;exact((hi.obs k' x' p' f2 e3).notO (by rw[f3];exact e2)).1 (e4 ▸ hb)
  have hF:∀b,F b→ba3 w ob1 (sel.map fun k=>σ.getD k (0,0,0)) b:=by
    intro b hb;refine⟨hi.flt b hb,?_⟩;rintro⟨i,x,p',e1,e2,e3,e4⟩;obtain⟨k',x',f1,f2,f3⟩:=r3 i x e1;rw[(r1 i k' f1).2]at e3;exact((hi.obs k' x' p' f2 e3).notO (by rw[f3];exact e2)).2 (e4 ▸ hb)
  have hkeep:∀b,F b→w'.heap[b]? =w.heap[b]? :=fun b hb=>k1.block b (hF b hb)
  have happ:∀(o:Nat) p,σ[o]? =some p→(σ++σ'.drop sel.length)[o]? =some p:=fun o p hp=>by
    rw[ga0 (fy9.1 hp).1];exact hp
  have hcase:∀(k:Nat) z p,(ba9 (bk sel s.ob.length) sel ob1' s.ob)[k]? =some z→(σ++σ'.drop sel.length)[k]? =some p→
      (k ∉ sel∧k<s.ob.length∧s.ob[k]? =some z∧σ[k]? =some p)∨∃i y,ob1'[i]? =some y∧z=bkO (bk sel s.ob.length) y∧bk sel s.ob.length i=k∧σ'[i]? =some p:=by
    intro k z p hz hp
    have fin:∀i y,ob1'[i]? =some y→bk sel s.ob.length i=k→σ'[i]? =some p:=by
      intro i y hy e;have hil:i<σ'.length:=by rw[k5.len];exact(fy9.1 hy).1
      have:=hg i _ (fy4 hil);rw[e,hp]at this;rw[fy4 hil,this]
    unfold ba9 at hz;rcases fy5 k s.ob.length with hlt|hge
    · rw[ga0 (by rw[bb0];exact hlt)]at hz;rcases bb1 sel _ s.ob k z (by simpa using hm) hz with⟨g1,g2⟩|⟨i,g1,g2⟩
      · rw[ga0 (by rw[hσn];exact hlt)]at hp;exact .inl ⟨g1,hlt,g2,hp⟩
      · rw[fz1,fz9]at g2;obtain⟨y,hy,rfl⟩:=g2
        have hbk:bk sel s.ob.length i=k:=by
          have hil:=(fy9.1 g1).1;unfold bk;rw[show Nat.blt i sel.length=true by simpa using hil];simp[gd6,g1]
        exact .inr ⟨i,y,hy,rfl,hbk,fin i y hy hbk⟩
    · rw[ga7 (by rw[bb0];exact hge),bb0,fz1,fz9]at hz;obtain⟨y,hy,rfl⟩:=hz;rw[ge4]at hy
      have hbk:bk sel s.ob.length (sel.length+(k-s.ob.length))=k:=by
        unfold bk
        have hf':Nat.blt (sel.length+(k-s.ob.length)) sel.length=false:=by
          cases h:Nat.blt (sel.length+(k-s.ob.length)) sel.length with
          |false=>rfl
          |true=>have:sel.length+(k-s.ob.length)<sel.length:=by simpa using h
                 omega
        rw[hf'];simp only[cond_false];omega
      exact .inr ⟨_,y,hy,rfl,hbk,fin _ y hy hbk⟩
  refine hK _ _ ⟨F',σ++σ'.drop sel.length,⟨k1.os.trans h1.os,k1.tape.trans h1.tape,k1.output.trans h1.output,gb8 h1.size k1.size,fun k hk=>(k1.block k (hOld k hk)).trans (h1.block k hk),h1.old⟩,
    fun b hb=>k2 b (h2 b hb),fun b hb=>?_,?_,by rw[Act.put_def];exact h4,by rw[Act.put_size];exact h5,?_⟩
  · rcases k3 b hb with hb'|hb'
    · exact h3 b hb'
    · exact .inr fun ho=>hb' (hOld b ho)
  · rw[St.put_ob];refine⟨k5.flt,k5.glob,?_,fun k z p hz hp=>?_,fun k k' z z' p p' hne hz hl hz' hl' hp hp'=>?_,fun i p hi' hp=>happ _ _ (hi.pre i p hi' hp)⟩
    · simp only[ba9,fy8,bb0,fz3,gf4,hσn,k5.len]
    · rcases hcase k z p hz hp with⟨g1,g2,g3,g4⟩|⟨i,y,g1,rfl,g2,g3⟩
      · exact(hi.obs k z p g3 g4).mono k2 hkeep happ (fun hl=>k1.block _ (hheld k z p g1 g3 hl g4)) fun hl hnf hf=>by
          rcases k3 _ hf with q|q
          · exact hnf q
          · exact q (hheld k z p g1 g3 hl g4)
      · refine(ba6 hg (k5.obs i y p g1 g3)).own fun hl ho=>?_
        rw[ba7]at hl;exact((k5.obs i y p g1 g3).notO hl).1 (hOld _ ho)
    · rcases hcase k z p hz hp with⟨g1,g2,g3,g4⟩|⟨i,y,g1,rfl,g2,g3⟩<;>rcases hcase k' z' p' hz' hp' with⟨g1',g2',g3',g4'⟩|⟨i',y',g1',rfl,g2',g3'⟩
      · exact hi.inj k k' z z' p p' hne g3 hl g3' hl' g4 g4'
      · intro e;rw[ba7]at hl';exact((k5.obs i' y' p' g1' g3').notO hl').1 (e ▸ hheld k z p g1 g3 hl g4)
      · intro e;rw[ba7]at hl;exact((k5.obs i y p g1 g3).notO hl).1 (e ▸ hheld k' z' p' g1' g3' hl' g4')
      · rw[ba7]at hl hl';refine k5.inj i i' y y' p p' (fun e=>?_) g1 hl g1' hl' g3 g3';subst e;exact hne (g2.symm.trans g2')
  · exact ab7 (N:=C.N) (s:=⟨s.tm,ba9 (bk sel s.ob.length) sel ob1' s.ob⟩) (fun t=>(hs t).mono k2 hkeep happ) h5 (ad1 hd) fun _=>ba5 hg k6
theorem bb5{y:Operand}{args:List Operand}{tys:Array TypeId}{f:FuncId}{cs xs:List X}{ob1 ob1':List aa5}{rx:X}{sel:List Nat}(ho:o.op=.call {callee:=.value y,args:=args.toArray,argTypes:=tys})
  (hf:FnX (s.ev C.E y) f cs)(hb:an9 C.E f)(hn:aw9 sel=true)(hob:aw8 sel s.ob sel=some ob1)(hx:aw5 sel (args.map (fun z=>nrm (s.ev C.E z))++cs)=some xs)(h:EvS C.E f xs ob1 rx ob1')(hd:ac9 C o=true):
  SOp C s o (St.put ⟨s.tm,ba9 (bk sel s.ob.length) sel ob1' s.ob⟩ o.dst (bkX (bk sel s.ob.length) rx)):=by
 refine bb4 (fun w a F σ hr=>?_) hn hob hx h hd;obtain⟨us,u1,u2,u3⟩:=hf.val (hr y);refine⟨args.map a.eval++us,?_,by simp[u2],fun i x0 v g1 hvi=>?_⟩
 ·simp only[execOp,ho];rw[bb2 u1];simpa using hb (args.toArray.map a.eval++us.toArray) w
 ·rcases fy5 i args.length with hlt|hge
  ·rw[ga0 (by simpa using hlt)]at g1 hvi;rw[fz1,fz9]at g1 hvi;obtain⟨z,z1,rfl⟩:=g1;obtain⟨z',z1',rfl⟩:=hvi;rw[z1]at z1'
   cases z1'
   exact bb3 (hr z)
  ·rw[ga7 (by simpa using hge)]at g1 hvi;simp only[fz3]at g1 hvi;exact u3 _ _ _ g1 hvi
end
def bb6(E:Env)(s:St):List Operand→Option (List Cap)
 |[]=>some []
 |x::r=>(match s.ev E x with
  |.d d=>(bb6 E s r).map (.d d:: ·)
  |.nilS=>(bb6 E s r).map (.d (.sl []):: ·)
  |.ptr o off=>(bb6 E s r).map (.ptr o off:: ·)
  |_=>none)
theorem bb7{E:Env}{s:St}{w:World}{F:Nat→Prop}{σ:Sg}{a:Act}:∀{xs:List Operand} {cs:List Cap},bb6 E s xs=some cs→(∀y∈xs,RdX w F σ (s.ev E y) (a.eval y))→
  cs.length=(xs.map a.eval).length∧∀(i:Nat) c u,cs[i]? =some c→(xs.map a.eval)[i]? =some u→aa4 w F σ c u
 |[],cs,h,_=>by simp only[bb6]at h;cases h;exact⟨rfl,fun i c u h=>by simp at h⟩
 |x::r,cs,h,hr=>by
  have hx:=hr x Oc
  have step:∀(c0:Cap),aa4 w F σ c0 (a.eval x)→(bb6 E s r).map (c0:: ·)=some cs→cs.length=((x::r).map a.eval).length∧∀(i:Nat) c u,cs[i]? =some c→((x::r).map a.eval)[i]? =some u→aa4 w F σ c u:=by
   intro c0 hc0 hm;simp only[fz9]at hm;obtain⟨r',hr',rfl⟩:=hm;obtain⟨e1,e2⟩:=bb7 hr' fun y hy=>hr y (by simp[hy])
   refine⟨by simp[e1],fun i c u hc hu=>?_⟩
   cases i with
   |zero=>simp at hc hu;subst hc hu;exact hc0
   |succ i=>exact e2 i c u (by simpa using hc) (by simpa using hu)
  simp only[bb6]at h;split at h
  ·rename_i d hd;rw[hd]at hx;exact step (.d d) hx h
  ·rename_i hd;rw[hd]at hx;exact step (.d (.sl [])) (by rw[show a.eval x=.slice none 0 0 from hx];exact Rd.slnil) h
  ·rename_i o off hd;rw[hd]at hx;exact step (.ptr o off) hx h
  ·cases h
theorem bb8{C:Cx}{s:St}{o:Oper}{f:FuncId}{caps:List Operand}{cs:List Cap}(ho:o.op=.makeFunc (.func f) #[] caps.toArray)(hc:bb6 C.E s caps=some cs):VOp C s o (.clo f cs):=by
 intro F σ w a K Q hi hr hK;obtain⟨e1,e2⟩:=bb7 (w:=w) (F:=F) (σ:=σ) (a:=a) hc fun y hy=>hr y (by simp[ho,Op.operands,hy])
 have hrun:(execOp a.eval o).run C.E.P w=.ok (.value (.func (.func f) #[] (caps.map a.eval).toArray)) w:=by
  simp[execOp,ho,Instr.makeFunc]
 unfold Oper.wp;rw[hrun];exact hK _ w F (Ext.refl hi.flt) ⟨caps.map a.eval,rfl,e1,e2⟩
section
variable{C:Cx}{K:St→Prop}{all:Array Oper}{rest:List Oper}{tm:List (Nat × X)}{ob:List aa5}{d:Nat}{pu:Bool}{o:Oper}
theorem bb9{f:FuncId}{caps:List Operand}{cs:List Cap}(ho:o.op=.makeFunc (.func f) #[] caps.toArray)(hg:ap8 all tm o=some true)(hdst:o.dst=some d)(hd:Nat.blt d C.N=true)(hc:bb6 C.E ⟨tm,ob⟩ caps=some cs)
  (h:SGo C all pu rest ⟨(d,.clo f cs)::tm,ob⟩ K):SGo C all pu (o::rest) ⟨tm,ob⟩ K:=
 av2 hg hdst hd (bb8 ho hc) h
theorem bc1(sel:List Nat){y:Operand}{args:List Operand}{tys:Array TypeId}{f:FuncId}{cs xs:List X}{ob1 ob1' ob2:List aa5}{rx x2:X}(ho:o.op=.call {callee:=.value y,args:=args.toArray,argTypes:=tys})(hg:ap8 all tm o=some true)(hdst:o.dst=some d)
  (hd:Nat.blt d C.N=true)(hf:FnX ((⟨tm,ob⟩:St).ev C.E y) f cs)(hb:an9 C.E f)(h0:EvS C.E f xs ob1 rx ob1')(hn:aw9 sel=true)(hob:aw8 sel ob sel=some ob1)(hx:aw5 sel (args.map (fun z=>nrm ((⟨tm,ob⟩:St).ev C.E z))++cs)=some xs)
  (hob2:ba9 (bk sel ob.length) sel ob1' ob=ob2)(hx2:bkX (bk sel ob.length) rx=x2)(h:SGo C all false rest ⟨(d,x2)::tm,ob2⟩ K):SGo C all false (o::rest) ⟨tm,ob⟩ K:=by
 subst hob2 hx2;refine SGo.eff (ap9 hg) (bb5 ho hf hb hn hob hx h0 (by simp only[ac9,hdst];exact hd)) ?_;rw[hdst];exact h
end
def bc2(fn:Func)(tm:List (Nat × X))(rx:X):Prop:=
 (fn.results= #[]∧rx=.tup [])∨(∃t,fn.results= #[.tmp t]∧lk tm t=rx)∨(∃t d,fn.results= #[.tmp t]∧toD (lk tm t)=some d∧rx=.d d)∨
  ∃t u d e,fn.results= #[.tmp t,.tmp u]∧toD (lk tm t)=some d∧toD (lk tm u)=some e∧rx=.tup [d,e]
theorem bc2.run{fn:Func}{tm:List (Nat × X)}{rx:X}{w:World}{F:Nat→Prop}{σ:Sg}{a:Act}{P:Program}(h:bc2 fn tm rx)(hs:∀t,RdX w F σ (lk tm t) (a.tmps.getD t undef)):
  ∃v,(results fn a.tmps).run P w=.ok v w∧RdX w F σ rx v:=by
 rcases h with⟨h1,rfl⟩|⟨t,h1,h2⟩|⟨t,d,h1,h2,rfl⟩|⟨t,u,d,e,h1,h2,h3,rfl⟩
 ·exact⟨.tuple #[],by simp[results,h1],[],rfl,rfl,fun i x v hx=>by simp at hx⟩
 ·exact⟨a.tmps.getD t undef,by rw[ao8,h1];simp[ao6],h2 ▸ hs t⟩
 ·exact⟨a.tmps.getD t undef,by rw[ao8,h1];simp[ao6],ao5 h2 (hs t)⟩
 ·refine⟨.tuple #[a.tmps.getD t undef,a.tmps.getD u undef],by rw[ao8,h1];simp[ao6],[a.tmps.getD t undef,a.tmps.getD u undef],rfl,rfl,fun i x v hx hv=>?_⟩
  match i with
  |0=>simp at hx hv;subst hx hv;simpa using ao5 h2 (hs t)
  |1=>simp at hx hv;subst hx hv;simpa using ao5 h3 (hs u)
  |i+2=>simp at hx
def bc3(C:Cx)(fn:Func)(rx:X)(ob':List aa5):Exit→St→Prop
 |.ret,s|.normal,s=>∃tm',Le C s ⟨tm',ob'⟩∧bc2 fn tm' rx
 |_,_=>False
theorem EvS.enter{E:Env}{f:FuncId}{fn:Func}{c:Code}{xs:List X}{ob ob':List aa5}{rx:X}{N:Nat}(hf:E.P.funcs[f]? =some fn)(hN:fn.ntmps=N)(hb:fn.body=some c)(hle:Nat.ble xs.length N=true)
  (h:∀(w0:World) (F0 O:Nat→Prop) (σ0:Sg),go ⟨E,w0,F0,N,⟨O,ob.length,σ0⟩⟩ [.code c] ⟨(List.range xs.length).zip xs,ob⟩ (bc3 ⟨E,w0,F0,N,⟨O,ob.length,σ0⟩⟩ fn rx ob')):EvS E f xs ob rx ob':=by
 intro w F σ vs hi hl hr;refine calls_of_wp hf hb ?_;have hgo:=h w F (ba3 w ob σ) σ
 have hlook:∀t,RdX w F σ (lk ((List.range xs.length).zip xs) t) ((vs.toArray++Array.replicate (fn.ntmps-vs.toArray.size) undef).getD t undef):=by
  intro t
  have key:∀(k:Nat) (l:List X),(∀(i:Nat) d,l[i]? =some d→xs[k+i]? =some d)→RdX w F σ (lk ((List.range' k l.length).zip l) t) ((vs.toArray++Array.replicate (fn.ntmps-vs.toArray.size) undef).getD t undef):=by
   intro k l
   induction l generalizing k with
   |nil=>intro _;trivial
   |cons d l ih=>
    intro hk;simp only[fy7,List.range'_succ,List.zip_cons_cons,lk]
    cases hbq:Nat.beq k t with
    |true=>
     obtain rfl:=fz8 hbq;have hd:xs[k]? =some d:=by simpa using hk 0 d rfl
     have hlt:k<vs.length:=by rw[hl];exact(fy9.1 hd).1
     have e:(vs.toArray++Array.replicate (fn.ntmps-vs.toArray.size) undef).getD k undef=vs[k]:=by
      simp[Array.getElem?_append,hlt]
     rw[e];exact hr k d _ hd (fy4 hlt)
    |false=>
     refine ih (k+1) fun i d' hi=>?_
     have:=hk (i+1) d' (by simpa using hi);rw[←this];congr 1;omega
  have:=key 0 xs fun i d hd=>by simpa using hd
  rwa[←List.range_eq_range']at this
 have hle':xs.length≤N:=gc0 hle
 have hrel:Cx.Rel ⟨E,w,F,N,⟨ba3 w ob σ,ob.length,σ⟩⟩ ⟨(List.range xs.length).zip xs,ob⟩ {tmps:=vs.toArray++Array.replicate (fn.ntmps-vs.toArray.size) undef,defers:=[]} w:=by
  refine⟨F,σ,aa7.refl (fun _ h=>h.1),fun _ h=>h,fun _ h=>.inl h,⟨hi.flt,hi.glob,hi.len,fun k x p hx hp=>(hi.obs k x p hx hp).own fun hl ho=>ho.2 ⟨k,x,p,hx,hl,hp,rfl⟩,hi.inj,fun i p _ hp=>hp⟩,rfl,?_,hlook⟩;simp[hN,hl];omega
 refine wp_mono (hgo _ w hrel) ?_;rintro e a' w' ⟨s',hrel',hq⟩
 have fin:(∃tm',Le ⟨E,w,F,N,⟨ba3 w ob σ,ob.length,σ⟩⟩ s' ⟨tm',ob'⟩∧bc2 fn tm' rx)→a'.defers=[]∧∃v,(results fn a'.tmps).run E.P w'=.ok v w'∧
   ∃v_1 F' σ',Ending.returned v=.returned v_1∧aa7 (ba3 w ob σ) w w'∧(∀b,F b→F' b)∧(∀b,F' b→F b∨ ¬ ba3 w ob σ b)∧(∀(i:Nat) p,i<ob.length→σ[i]? =some p→σ'[i]? =some p)∧ab2 E ⟨ba3 w ob σ,0,[]⟩ F' σ' ob' w'∧RdX w' F' σ' rx v_1:=by
  rintro⟨tm',hle2,hres⟩;obtain⟨F',σ',h1,h2,h3,hi',h4,h5,hs⟩:=hle2 a' w' hrel';obtain⟨v,v1,v2⟩:=hres.run hs;exact⟨h4,v,v1,v,F',σ',rfl,h1,h2,h3,hi'.pre,⟨hi'.flt,hi'.glob,hi'.len,hi'.obs,hi'.inj,fun i p h=>absurd h (Nat.not_lt_zero _)⟩,v2⟩
 cases e with
 |normal=>exact fin hq
 |ret=>exact fin hq
 |_=>exact hq.elim
section
variable{C:Cx}{r:List It}{fn:Func}{tm:List (Nat × X)}{ob ob':List aa5}{rx:X}
theorem retS(ks:List Nat){tm':List (Nat × X)}(hn:aw9 ks=true)(hk0:((List.range C.base.n0).all fun i=>ks[i]? ==some i)=true)(hob:aw8 ks ob ks=some ob')(ht:ax8 tm ks tm')(hr:bc2 fn tm' rx):
  go C (.code .ret::r) ⟨tm,ob⟩ (bc3 C fn rx ob'):=ac4 ⟨tm',Le.ren ks hn hk0 hob ht,hr⟩
theorem endS(ks:List Nat){tm':List (Nat × X)}(hn:aw9 ks=true)(hk0:((List.range C.base.n0).all fun i=>ks[i]? ==some i)=true)(hob:aw8 ks ob ks=some ob')(ht:ax8 tm ks tm')(hr:bc2 fn tm' rx):
  go C [] ⟨tm,ob⟩ (bc3 C fn rx ob'):=ac1 ⟨tm',Le.ren ks hn hk0 hob ht,hr⟩
theorem bc4(ks:List Nat)(hn:aw9 ks=true)(hk0:((List.range C.base.n0).all fun i=>ks[i]? ==some i)=true)(hob:aw8 ks ob ks=some ob')(hr:fn.results= #[]):
  go C (.code .ret::r) ⟨tm,ob⟩ (bc3 C fn (.tup []) ob'):=retS ks (tm':=[]) hn hk0 hob trivial (.inl ⟨hr,rfl⟩)
theorem bc5(ks:List Nat)(hn:aw9 ks=true)(hk0:((List.range C.base.n0).all fun i=>ks[i]? ==some i)=true)(hob:aw8 ks ob ks=some ob')(hr:fn.results= #[]):
  go C [] ⟨tm,ob⟩ (bc3 C fn (.tup []) ob'):=endS ks (tm':=[]) hn hk0 hob trivial (.inl ⟨hr,rfl⟩)
theorem bc6(ks:List Nat){t:Nat}{x:X}(hn:aw9 ks=true)(hk0:((List.range C.base.n0).all fun i=>ks[i]? ==some i)=true)(hob:aw8 ks ob ks=some ob')(hr:fn.results= #[.tmp t])(hx:aw4 ks (lk tm t)=some x)(he:x=rx):
  go C (.code .ret::r) ⟨tm,ob⟩ (bc3 C fn rx ob'):=retS ks (tm':=[(t,x)]) hn hk0 hob ⟨hx,trivial⟩ (.inr (.inl ⟨t,hr,by simp[lk,he]⟩))
end
end Go.Abs
namespace Go.Abs
open Go Go.RowKit
theorem bc7(P:Program)(g o:Nat)(t:TypeId)(fz:Nat × Nat):∀(vs:List Value) (i:Nat) (cur:Array Value) (w:World),w.heap[g]? =some (.cells cur t fz)→cur.size≤fz.1→o+i+vs.length≤cur.size→(∀v∈vs,v.oneCell'=true)→
  (storeCells ⟨g,o,none⟩ vs i).run P w=.ok () (w.setRow g (cur.toList.take (o+i)++vs++cur.toList.drop (o+i+vs.length)).toArray)
 |[],i,cur,w,hg,_,_,_=>by
  simp only[storeCells,ge7,fz2,gd2,gf7,Array.toArray_toList];rw[setRow_self w g cur t fz hg];rfl
 |v::rest,i,cur,w,hg,hf,hl,h1=>by
  have hi:o+i<cur.size:=by simp at hl;omega
  have hadd:(⟨g,o,none⟩:Addr).add i=⟨g,o+i,none⟩:=by unfold Addr.add;split<;>simp_all
  have hcell:w.cell? ⟨g,o+i,none⟩=some cur[o+i]:=by simp[World.cell?,hg,hi]
  have hfro:w.frozen? ⟨g,o+i,none⟩=false:=by
   obtain⟨lo,hi'⟩:=fz;simp only[World.frozen?,hg,Bool.and_eq_false_iff,decide_eq_false_iff_not];left;simp only at hf;omega
  have hst:(store ((⟨g,o,none⟩:Addr).add i) v).run P w=.ok () (w.setRow g (cur.setIfInBounds (o+i) v)):=by
   rw[hadd,run_store P w _ v _ (h1 v Oc),hcell];simp[hfro,setCell_eq_setRow w g (o+i) cur t fz v hg]
  have ih:=bc7 P g o t fz rest (i+1) (cur.setIfInBounds (o+i) v) (w.setRow g (cur.setIfInBounds (o+i) v)) (setRow_heap w g cur _ t _ hg) (by simpa using hf) (by simp at hl ⊢;omega) (fun x hx=>h1 x (by simp[hx]));simp only[storeCells,Sem.run_bind,hst,Result.andThen_ok,ih,setRow_setRow];congr 3;have e:=list_seg_step cur.toList (o+i) v rest (by simp at hl ⊢;omega);simpa[Array.toList_setIfInBounds,Nat.add_assoc]using e
section
variable{C:Cx}{s:St}{o:Oper}{x:X}{p:Prop}
theorem bc8{t te:TypeId}{y:Operand}{i k off size:Nat}{xs:List D}{d:D}(ho:o.op=.load t y)(hy:s.ev C.E y=.pel k i off size)(hob:s.ob[k]? =some (.mrow te size xs))(hd:xs[i]? =some d)
  (h:ag4 C.E s.ob t (.at_ d off)=some (p,x)):VOp C s o x:=by
 refine VOp.pure_ fun F σ w a hi hr=>?_
 have hp:=hr y (by simp[ho,Op.operands]);rw[hy]at hp;obtain⟨b,c,n,p1,p2⟩:=hp;obtain⟨vs,q1,q2,q3,q4,q5,q6,q7,q8,-⟩:=hi.obs k _ _ hob p1
 obtain⟨v,h1,h2⟩:=ar5 (w:=w) (F:=F) (σ:=σ) (ad:=⟨b,i*size,none⟩) (q7 d (fy6 hd)) (fun j c hc=>by
  obtain⟨v,e1,e2⟩:=q8 i d j c hd hc;refine⟨v,?_,e2⟩;rw[aa2,aj8 q1];exact e1) h
 refine⟨v,?_,h2⟩;rw[aa2,←p2]at h1;simp[execOp,ho,h1]
theorem bc9{t:TypeId}{y z:Operand}{xs:List D}{kd:IntKind}{i:Int}{te:TE}{k:Nat}(ho:o.op=.indexAddr t y z)(hy':s.ev C.E y=.own k)(hz':s.ev C.E z=.d (.imm (.int kd i)))
  (hob:s.ob[k]? =some (.mrow te.t te.size xs))(hte:al2 C.E t=some te)(h0:0≤i)(hlt:i<xs.length):VOp C s o (.pel k i.toNat 0 te.size):=by
 obtain⟨hu,hok⟩:=al3 hte;refine VOp.pure_ fun F σ w a hi hr=>?_
 have hy:=hr y (by simp[ho,Op.operands]);have hz:=hr z (by simp[ho,Op.operands]);rw[hy']at hy;rw[hz']at hz;obtain⟨e2,-⟩:=Rd.imm_inv hz;obtain⟨b,c,n,p1,p2⟩:=hy;obtain⟨vs,q1,q2,q3,-⟩:=hi.obs k _ _ hob p1;refine⟨.pointer (some (⟨b,i.toNat*te.size,none⟩)),?_,b,c,n,p1,by simp⟩;have hlt':0≤i∧i<(n:Int):=⟨h0,by omega⟩;simp[execOp,ho,p2,e2,Instr.indexAt,asIntOf,run_underlying hu,hlt',aj5 hok,aa2]
theorem bd1{t te:TypeId}{y z:Operand}{k i:Nat}{xs:List D}{d e:D}{tt:TE}(ho:o.op=.store t y z)(hdst:o.dst=none)(hy:s.ev C.E y=.pel k i 0 1)(hz:toD (s.ev C.E z)=some e)
  (hob:s.ob[k]? =some (.mrow te 1 xs))(hd:xs[i]? =some d)(he:aa8 C.E.T t=some tt)(hsz:Nat.beq tt.size 1=true)(he1:e.one=true):
  SOp C s o (s.setOb k (.mrow te 1 (xs.set i e))):=by
 obtain⟨hok,rfl⟩:=ab0 he;have hsz':=fz8 hsz;have hec:e.cells=[e]:=by cases e<;>simp_all [D.one,D.cells]
 rintro w a K Q ⟨F,σ,h1,h2,h3,hi,h4,h5,hs⟩ hK;have hv:=ao5 hz (ab6 (E:=C.E) hi hs z);have hp:=ab6 (E:=C.E) hi hs y;rw[hy]at hp;obtain⟨b,cc,n,p1,p2⟩:=hp;obtain⟨vs,q1,q2,q3,q4,q4',q5,q6,q7,q8,q9⟩:=hi.obs k _ _ hob p1;obtain⟨c1,c2,c3⟩:=hv.cells;have hil:i<xs.length:=(fy9.1 hd).1;have hvo:=hv.one he1;have hvc:(a.eval z).cells= #[a.eval z]:=by generalize a.eval z=u at*;cases u<;>simp_all [Value.oneCell',Value.cells]
 have hrow:=bc7 C.E.P b (i*1+0) te [a.eval z] 0 vs.toArray w (fz:=(vs.length,vs.length+1)) q1 Oc Og (by simpa using hvo)
 have hrun:(execOp a.eval o).run C.E.P w=.ok .skip (w.setRow b (vs.take i++ [a.eval z]++vs.drop (i+1)).toArray):=by
  simp only[execOp,ho,Instr.storeAt,p2,Instr.sureAddr,storeVar,Sem.run_bind,Sem.run_pure,Result.andThen_ok,aj5 hok];rw[if_neg (by rw[hvc,hsz'];simp)];simp only[gd2,Nat.mul_one]at hrow;simp only[Nat.mul_one,gd2,hvc];rw[hrow];rfl
 unfold Oper.wp;rw[hrun];simp only[Oper.upon];rw[hdst]
 have hset:vs.take i++ [a.eval z]++vs.drop (i+1)=vs.set i (a.eval z):=by
  rw[List.set_eq_take_append_cons_drop,if_pos Oa];simp
 rw[hset];refine hK _ _ ⟨F,σ,?_,h2,h3,?_,h4,h5,fun t=>?_⟩
 ·exact h1.setRow Of _
 ·refine hi.turn hob rfl p1 q9 ?_;have keep:∀k,F k→(w.setRow b (vs.set i (a.eval z)).toArray).heap[k]? =w.heap[k]? :=fun k hk=>an3 w b _ k (fun e=>q9 (e ▸ hk))
  refine⟨vs.set i (a.eval z),?_,by simpa using q2,by simp[q3],q4,q4',fun u hu=>?_,fun u hu c hc=>?_,fun i' u j cd hu hc=>?_,q8,q9⟩
  ·have:=setRow_heap w b vs.toArray (vs.set i (a.eval z)).toArray te _ q1;simpa using this
  ·rcases gi8 hu with h|h
   ·exact q5 u h
   ·rw[h,hec];rfl
  ·rcases gi8 hu with h|h
   ·exact q6 u h c hc
   ·subst h;exact c3 c hc
  ·rw[ge2]at hu;split at hu
   ·rename_i hii
    subst hii
    cases hu
    rw[hec]at hc
    have hj0:j=0:=by
     have:=(fy9.1 hc).1;simpa using this
    subst hj0;simp at hc;subst hc;refine⟨a.eval z,by rw[Nat.mul_one,gd2,ge2,if_pos rfl,if_pos Oa],hv.mono (fun _ h=>h) keep⟩
   ·rename_i hii
    obtain⟨v,r1,r2⟩:=q7 i' u j cd hu hc;refine⟨v,?_,r2.mono (fun _ h=>h) keep⟩
    have hj:j=0:=by
     have hj:=(fy9.1 hc).1;rw[q5 u (fy6 hu)]at hj;omega
    rw[ge2,if_neg Oa];exact r1
 ·exact(hs t).mono (fun _ h=>h) (fun k hk=>an3 w b _ k (fun e=>q9 (e ▸ hk))) (fun _ _ h=>h)
def bd2(s:ByteArray):List D:=s.data.toList.map fun b=>.imm (.int .u8 b.toNat)
theorem bd3(s:ByteArray):(bd2 s).length=s.size:=by simp[bd2]
theorem bd4{s:ByteArray}{i:Nat}{d:D}(h:(bd2 s)[i]? =some d):i<s.size∧d=.imm (.int .u8 (ag5 s i)):=by
 unfold bd2 at h;rw[fz1,fz9]at h;obtain⟨b,hb,rfl⟩:=h
 have hlt:i<s.size:=by
  have:=(fy9.1 hb).1;simpa using this
 refine⟨hlt,?_⟩;unfold ag5;rw[gd6,hb];rfl
theorem bd5{s:ByteArray}{i:Nat}(h:i<s.size):(bd2 s)[i]? =some (.imm (.int .u8 (ag5 s i))):=by
 have h':i<(bd2 s).length:=by rw[bd3];exact h
 rw[fy4 h',(bd4 (fy4 h')).2]
theorem bd6{w:World}{e:TypeId}{s:ByteArray}:w.grownBy (Go.Lib.bytesWorld w e s) none:=
 ⟨rfl,rfl,rfl,by rw[Go.Lib.bytesWorld_size];omega,fun k hk _=>Go.Lib.bytesWorld_at_old w e s k hk⟩
theorem bd7(w:World)(e:TypeId)(s:ByteArray):(Go.Lib.bytesCells w e s).size=grownCap w s.size 0 e:=by
 have:=grownCap_ge w s.size 0 e;simp only[Go.Lib.bytesCells,Array.size_append,Array.size_map,Array.size_replicate];have h2:s.data.size=s.size:=rfl;omega
theorem bd8{w:World}{F:Nat→Prop}{σ:Sg}{B:Nat→Prop}{e:TypeId}{s:ByteArray}(hs:s.size≤maxLen)(hB: ¬ B w.heap.size)(hF: ¬ F w.heap.size):
  aa6 (Go.Lib.bytesWorld w e s) F σ B (.mrow e 1 (bd2 s)) (w.heap.size,grownCap w s.size 0 e,s.size):=by
 refine⟨(Go.Lib.bytesCells w e s).toList,?_,?_,(bd3 s).symm,grownCap_ge w s.size 0 e,grownCap_le_maxLen w s.size 0 e hs,fun x hx=>?_,fun x hx c hc=>?_,fun i x j cd hx hc=>?_,hB,hF⟩
 ·have:=Go.Lib.bytesWorld_at_new w e s;simpa using this
 ·have:=bd7 w e s;simpa using this
 ·obtain⟨i,hi⟩:=ga9 hx;rw[(bd4 hi).2];rfl
 ·obtain⟨i,hi⟩:=ga9 hx;rw[(bd4 hi).2]at hc;simp[D.cells]at hc;rw[hc];rfl
 ·obtain⟨h1,rfl⟩:=bd4 hx
  have hj0:j=0:=by
   have:=(fy9.1 hc).1;simpa[D.cells]using this
  subst hj0;simp[D.cells]at hc;subst hc;have h2:s.data.size=s.size:=rfl;refine⟨.int .u8 (ag5 s i),?_,Rd.imm _ (af5 (k:=.u8) ?_)⟩
  ·have h3:i<s.data.toList.length:=by simpa[h2]using h1
   simp only[Go.Lib.bytesCells,Array.toList_append,Array.toList_map,Nat.mul_one,gd2];rw[ga0 (by simpa using h3),fz1,fy4 h3];simp only[ag5,gc1,gd6,fy4 h3,ge1]
  ·simp only[inR,ag5];have:=(s.data.toList.getD i 0).toNat_lt;omega
theorem bd9{src dst:TypeId}{y:Operand}{te:TE}{s0:ByteArray}(ho:o.op=.convert src dst y)(hs':at8 C.E src=some .string)(hte:al2 C.E dst=some te)(hu8:te.desc=.int .u8)(hy:s.ev C.E y=.d (.str s0))(hd:ac9 C o=true):
  SOp C s o (s.add o.dst (.mrow te.t 1 (bd2 s0)) (.own s.ob.length)):=by
 obtain⟨hu,hok⟩:=al3 hte;rintro w a K Q ⟨F,σ,h1,h2,h3,hi,h4,h5,hs⟩ hK;have hv:=ab6 (E:=C.E) hi hs y;rw[hy]at hv;obtain⟨e1,hk⟩:=Rd.imm_inv hv;simp only[okV,decide_eq_true_eq]at hk;have hrun0:=Go.Lib.run_convert_string_bytes (P:=C.E.P) w src dst te.t s0 (at9 hs') hu (by rw[←hu8];exact hok.1)
 have hrun:(execOp a.eval o).run C.E.P w=.ok (.value (.slice (some ⟨w.heap.size,0,none⟩) s0.size (grownCap w s0.size 0 te.t))) (Go.Lib.bytesWorld w te.t s0):=by
  simp[execOp,ho,e1,hrun0]
 unfold Oper.wp;rw[hrun]
 exact hK _ _ (ar2 (ob0:=s.ob) (row:=none) (g:=w.heap.size) (c:=grownCap w s0.size 0 te.t) (n:=s0.size) h1 h2 h3 hi h4 h5 hs hd (fun o x hx _=>⟨hx,fun p _=>by simp⟩) rfl bd6 (fun k hk=>by cases hk) (.inr (fz6 _))
  (bd8 hk (h1.new (fz6 _)) (fun hf=>absurd (hi.flt _ hf) (gg9 _))) ⟨w.heap.size,_,_,by rw[←hi.len];simp,rfl⟩)
theorem be1{src dst e:TypeId}{y:Operand}{xs:List D}(ns:List Int)(ho:o.op=.convert src dst y)(hs':at8 C.E src=some (.slice e))(he:at8 C.E e=some (.int .u8))(hd:at8 C.E dst=some .string)(hy:s.ev C.E y=.d (.sl xs))
  (hx:xs=ns.map fun n=>.imm (.int .u8 n)):VOp C s o (.d (.str (strOf ns))):=by
 refine VOp.pure_ fun F σ w a hi hr=>?_
 have hv:=hr y (by simp[ho,Op.operands]);rw[hy,hx]at hv;obtain⟨h1,h2⟩:=au3 (P:=C.E.P) (at9 hs') (at9 he) (at9 hd) hv;refine⟨.string (strOf ns),by simp[execOp,ho,h1],Rd.imm _ ?_⟩;simp only[okV,decide_eq_true_eq,au1];exact h2
end
section
variable{C:Cx}{K:St→Prop}{all:Array Oper}{rest:List Oper}{tm:List (Nat × X)}{ob:List aa5}{d:Nat}{pu:Bool}{o:Oper}{p:Prop}{x:X}
theorem be2{src dst:TypeId}{y:Operand}{te:TE}{s0:ByteArray}(ho:o.op=.convert src dst y)(hg:ap8 all tm o=some true)(hdst:o.dst=some d)(hd:Nat.blt d C.N=true)(hs:at8 C.E src=some .string)(hte:al2 C.E dst=some te)(hu8:te.desc=.int .u8)
  (hy:(⟨tm,ob⟩:St).ev C.E y=.d (.str s0))(h:SGo C all false rest ⟨(d,.own ob.length)::tm,ob++ [.mrow te.t 1 (bd2 s0)]⟩ K):SGo C all false (o::rest) ⟨tm,ob⟩ K:=by
 refine SGo.eff (ap9 hg) (bd9 ho hs hte hu8 hy (by simp only[ac9,hdst];exact hd)) ?_;rw[hdst];exact h
theorem be3{s':St}(k:Nat)(h:frz k ⟨tm,ob⟩=some s')(hg:SGo C all false rest s' K):SGo C all false rest ⟨tm,ob⟩ K:=SGo.ghost (at4 k h) hg
theorem be4{src dst e:TypeId}{y:Operand}{xs:List D}(ns:List Int)(ho:o.op=.convert src dst y)(hg:ap8 all tm o=some true)(hdst:o.dst=some d)(hd:Nat.blt d C.N=true)(hs:at8 C.E src=some (.slice e))(he:at8 C.E e=some (.int .u8))(hd':at8 C.E dst=some .string)
  (hy:(⟨tm,ob⟩:St).ev C.E y=.d (.sl xs))(hx:xs=ns.map fun n=>.imm (.int .u8 n))(h:SGo C all pu rest ⟨(d,.d (.str (strOf ns)))::tm,ob⟩ K):SGo C all pu (o::rest) ⟨tm,ob⟩ K:=
 av2 hg hdst hd (be1 ns ho hs he hd' hy hx) h
theorem be5{t:TypeId}{y z:Operand}{xs:List D}{kd:IntKind}{i:Int}{te:TE}{k:Nat}(ho:o.op=.indexAddr t y z)(hg:ap8 all tm o=some true)(hdst:o.dst=some d)(hd:Nat.blt d C.N=true)(hy:(⟨tm,ob⟩:St).ev C.E y=.own k)(hz:(⟨tm,ob⟩:St).ev C.E z=.d (.imm (.int kd i)))
  (hte:al2 C.E t=some te)(hob:ob[k]? =some (.mrow te.t te.size xs))(h0:0≤i∧i<xs.length)(h:SGo C all pu rest ⟨(d,.pel k i.toNat 0 te.size)::tm,ob⟩ K):SGo C all pu (o::rest) ⟨tm,ob⟩ K:=
 av2 hg hdst hd (bc9 ho hy hz hob hte h0.1 h0.2) h
theorem be6{t te:TypeId}{y:Operand}{i k off size:Nat}{xs:List D}(e:D)(ho:o.op=.load t y)(hg:ap8 all tm o=some true)(hdst:o.dst=some d)(hd:Nat.blt d C.N=true)
  (hy:(⟨tm,ob⟩:St).ev C.E y=.pel k i off size)(hob:ob[k]? =some (.mrow te size xs))(he:xs[i]? =some e)(hl:ag4 C.E ob t (.at_ e off)=some (p,x))(h:SGo C all pu rest ⟨(d,x)::tm,ob⟩ K):SGo C all pu (o::rest) ⟨tm,ob⟩ K:=
 av2 hg hdst hd (bc8 ho hy hob he hl) h
theorem be7{t te:TypeId}{y z:Operand}{k i:Nat}{xs:List D}{v:D}{tt:TE}(e:D)(ho:o.op=.store t y z)(hg:ap8 all tm o=some true)(hdst:o.dst=none)(hy:(⟨tm,ob⟩:St).ev C.E y=.pel k i 0 1)(hz:toD ((⟨tm,ob⟩:St).ev C.E z)=some v)
  (hob:ob[k]? =some (.mrow te 1 xs))(he:xs[i]? =some e)(ht:aa8 C.E.T t=some tt)(hsz:Nat.beq tt.size 1=true)(h1:v.one=true)
  (h:SGo C all false rest ⟨tm,ob.set k (.mrow te 1 (xs.set i v))⟩ K):SGo C all false (o::rest) ⟨tm,ob⟩ K:=by
 refine SGo.eff (ap9 hg) (bd1 ho hdst hy hz hob he ht hsz h1) ?_;exact h
end
section
variable{C:Cx}{r:List It}{s:St}{Q:Exit→St→Prop}
theorem be8{c:Code}(P:St→Prop)(h1:go C (.code c:: .stop P::r) s Q)(h2:∀s',P s'→go C r s' Q):go C (.code c::r) s Q:=by
 intro a w hr;refine wp_mono (h1 a w hr) ?_;intro e a' w' ⟨s',hs,hq⟩
 cases e with
 |normal=>exact⟨s',hs,h2 s' hq⟩
 |_=>exact⟨s',hs,hq⟩
theorem be9{α:Type}(id:Nat){l:Array Oper}{d:Bool}{c:Code}(S:α→St)(b0:α)(h1:go C (.code (.region id l d):: .stop (fun s'=>∃b,b=b0∧Le C s' (S b)):: .code c::r) s Q)
  (h2:go C (.code c::r) (S b0) Q):go C (.code (.region id l d):: .code c::r) s Q:=by
 refine be8 _ h1 ?_;rintro s' ⟨b,rfl,hl⟩;exact ac7 hl h2
end
end Go.Abs
namespace Go.Abs
open Go Go.RowKit
section
variable{C:Cx}{K:St→Prop}{all:Array Oper}{rest:List Oper}{tm:List (Nat × X)}{ob:List aa5}{d:Nat}{pu:Bool}{o:Oper}
end
section
variable{C:Cx}{r:List It}{s:St}{Q:Exit→St→Prop}
end
end Go.Abs
namespace Go.Abs
open Go Go.RowKit
def Cx.RelS(C:Cx)(s:St)(X:World→(Nat→Prop)→Sg→Prop)(a:Act)(w:World):Prop:=
 ∃F σ,aa7 C.O C.w0 w∧(∀b,C.F0 b→F b)∧(∀b,F b→C.F0 b∨ ¬ C.O b)∧ab2 C.E C.base F σ s.ob w∧a.defers=[]∧a.tmps.size=C.N∧(∀t,RdX w F σ (lk s.tm t) (a.tmps.getD t undef))∧X w F σ
def StOp(C:Cx)(s:St)(ob:List aa5)(o:Oper)(Scr:Bool→World→(Nat→Prop)→Sg→Prop):Prop:=
 ∀(F:Nat→Prop) (σ:Sg) (w:World) (a:Act) (K:Act→World→Prop) (Q:Exit→Act→World→Prop),aa7 C.O C.w0 w→ab2 C.E C.base F σ ob w→Scr false w F σ→(∀y∈o.op.operands.toList,RdX w F σ (s.ev C.E y) (a.eval y))→
  (∀w',aa7 C.O C.w0 w'→ab2 C.E C.base F σ ob w'→(∀b,F b→w'.heap[b]? =w.heap[b]?)→Scr true w' F σ→K a w')→o.wp C.E.P a w K Q
structure bf0(C:Cx)(s:St)(xs:List (Oper × Option X))(ops:List Oper)(ie:Nat)(Scr:Bool→World→(Nat→Prop)→Sg→Prop)(L:Array Bool)(a:Act)(w:World):Prop where
 size:L.size=ops.length
 down:∀(i:Nat) (o:Oper) (ed:Edge),ops[i]? =some o→L.getD i false=true→ed∈o.after→Region.binds .any ed=true→L.getD ed.on false=true
 rel:∃F σ,aa7 C.O C.w0 w∧(∀b,C.F0 b→F b)∧(∀b,F b→C.F0 b∨ ¬ C.O b)∧ab2 C.E C.base F σ s.ob w∧a.defers=[]∧a.tmps.size=C.N∧
  (∀t,(∀(j:Nat) o,ops[j]? =some o→L.getD j false=true→o.dst≠some t)→RdX w F σ (lk s.tm t) (a.tmps.getD t undef))∧
  (∀(j:Nat) o x t,xs[j]? =some (o,x)→L.getD j false=true→o.dst=some t→RdX w F σ (x.getD .und) (a.tmps.getD t undef))∧Scr (L.getD ie false) w F σ
theorem bf0.all{C:Cx}{s:St}{xs:List (Oper × Option X)}{ops:List Oper}{ie:Nat}{Scr:Bool→World→(Nat→Prop)→Sg→Prop}(hx:xs.map (·.1)=ops)(ho:ad9 ops)
  (hie:ie<ops.length)(hdk:∀(i:Nat) o x,xs[i]? =some (o,x)→ac9 C o=true)
  (hv:∀(i:Nat) o x,i≠ie→xs[i]? =some (o,x)→ad3 ops.toArray (stps s (xs.take i)) o x.isSome∧∀y,x=some y→VOp C (stps s (xs.take i)) o y)
  (hve:∀o x,xs[ie]? =some (o,x)→o.dst=none∧o.guard=none∧StOp C (stps s (xs.take ie)) s.ob o Scr)
  (hscr:∀(β:Bool) w F σ w' F',Scr β w F σ→ab2 C.E C.base F σ s.ob w→Ext w F w' F'→Scr β w' F' σ)
  {Q:Exit→Act→World→Prop}(hq:∀a w,C.RelS (stps s xs) (Scr true) a w→Q .normal a w):
  ∀(fuel:Nat) (L:Array Bool) (a:Act) (w:World),unl ops.length L≤fuel→bf0 C s xs ops ie Scr L a w→wpAny C.E.P .any ops.toArray Q fuel L a w:=by
 have hxo:∀(i:Nat) o,ops[i]? =some o→∃x,xs[i]? =some (o,x):=by
  intro i o hi;rw[←hx,fz1]at hi
  cases hxi:xs[i]? with
  |none=>rw[hxi]at hi;cases hi
  |some p=>rw[hxi]at hi;simp at hi;exact⟨p.2,by rw[←hi]⟩
 have hox:∀(i:Nat) o x,xs[i]? =some (o,x)→ops[i]? =some o:=by
  intro i o x hi;rw[←hx,fz1,hi];rfl
 have hlen:xs.length=ops.length:=by rw[←hx];simp
 have hdst:∀(j:Nat) (p:Oper) d,ops.toArray[j]? =some p→p.dst=some d→d<C.N:=by
  intro j p d hj hd;rw[gd4]at hj;obtain⟨x,hx'⟩:=hxo j p hj;exact ad1 (hdk j p x hx') d hd
 -- what the state behind the first ones says of a slot
 have hlook:∀(i:Nat) (o:Oper) (x:Option X) (L:Array Bool) (a:Act) (w:World) (F:Nat→Prop) (σ:Sg),xs[i]? =some (o,x)→L.getD i false=false→
   (∀(j:Nat) (o:Oper) (e:Edge),ops[j]? =some o→L.getD j false=true→e∈o.after→Region.binds .any e=true→L.getD e.on false=true)→
   (∀e∈o.after,Region.binds .any e=true→L.getD e.on false=true)→
   (∀t,(∀(j:Nat) o,ops[j]? =some o→L.getD j false=true→o.dst≠some t)→RdX w F σ (lk s.tm t) (a.tmps.getD t undef))→
   (∀(j:Nat) o x t,xs[j]? =some (o,x)→L.getD j false=true→o.dst=some t→RdX w F σ (x.getD .und) (a.tmps.getD t undef))→
   ∀t∈o.looksAt ops.toArray,RdX w F σ (lk (stps s (xs.take i)).tm t) (a.tmps.getD t undef):=by
  intro i o x L a w F σ hi hL hdown hready h1 h2 t ht
  by_cases hw:∃(j:Nat) (p:Oper),ops[j]? =some p∧p.dst=some t
  ·obtain⟨j,p,hj,hp⟩:=hw;obtain⟨y,hy⟩:=hxo j p hj;have huniq:∀(k:Nat) (q:Oper),k≠j→ops[k]? =some q→q.dst≠some t:=fun k q hk hq=>ho.uniq k j q p t hk hq hj hp
   by_cases hij:i=j
   ·subst hij
    have e:lk (stps s (xs.take i)).tm t=lk s.tm t:=by
     refine ae5 _ _ _ fun q hq=>?_
     obtain⟨k,hk⟩:=ga9 hq;rw[ga5]at hk;split at hk
     ·exact huniq k q.1 Oa (hox k q.1 q.2 hk)
     ·cases hk
    rw[e];refine h1 t fun k q hk hkl=>?_
    by_cases hki:k=i
    ·subst hki;rw[hL]at hkl;cases hkl
    ·exact huniq k q hki hk
   ·obtain⟨ha,hb⟩:=ho.looks i j o p t hij (hox i o x hi) hj hp ht
    by_cases hlt:j<i
    ·obtain⟨e,he,hbd,hej⟩:=ha hlt;have hjl:L.getD j false=true:=by rw[←hej];exact hready e he hbd
     have e1:lk (stps s (xs.take i)).tm t=y.getD .und:=by
      refine ae7 _ _ t j p y (by rw[ga5,if_pos hlt];exact hy) hp fun k q hk hq=>?_
      rw[ga5]at hq;split at hq
      ·exact huniq k q.1 hk (hox k q.1 q.2 hq)
      ·cases hq
     rw[e1];exact h2 j p y t hy hjl hp
    ·obtain⟨e,he,hbd,hei⟩:=hb hlt
     have hjl:L.getD j false=false:=by
      cases hjl:L.getD j false with
      |false=>rfl
      |true=>
       have:=hdown j p e hj hjl he hbd;rw[hei,hL]at this
       cases this
     have e1:lk (stps s (xs.take i)).tm t=lk s.tm t:=by
      refine ae5 _ _ _ fun q hq=>?_
      obtain⟨k,hk⟩:=ga9 hq;rw[ga5]at hk;split at hk
      ·exact huniq k q.1 Oa (hox k q.1 q.2 hk)
      ·cases hk
     rw[e1];refine h1 t fun k q hk hkl=>?_
     by_cases hkj:k=j
     ·subst hkj;rw[hjl]at hkl;cases hkl
     ·exact huniq k q hkj hk
  ·have hno:∀(k:Nat) (q:Oper),ops[k]? =some q→q.dst≠some t:=fun k q hk hq=>hw ⟨k,q,hk,hq⟩
   have e1:lk (stps s (xs.take i)).tm t=lk s.tm t:=by
    refine ae5 _ _ _ fun q hq=>?_
    obtain⟨k,hk⟩:=ga9 hq;rw[ga5]at hk;split at hk
    ·exact hno k q.1 (hox k q.1 q.2 hk)
    ·cases hk
   rw[e1];exact h1 t fun k q hk _=>hno k q hk
 -- the end
 have hfin:∀(L:Array Bool) (a:Act) (w:World),(∀i,i<ops.length→L.getD i false=true)→bf0 C s xs ops ie Scr L a w→Q .normal a w:=by
  intro L a w hall hO;obtain⟨F,σ,r1,r2,r3,hi,r4,r5,h1,h2,h3⟩:=hO.rel;rw[hall ie hie]at h3;refine hq a w ⟨F,σ,r1,r2,r3,by rw[ae3];exact hi,r4,r5,fun t=>?_,h3⟩
  by_cases hw:∃(j:Nat) (p:Oper),ops[j]? =some p∧p.dst=some t
  ·obtain⟨j,p,hj,hp⟩:=hw;obtain⟨y,hy⟩:=hxo j p hj;rw[ae7 s xs t j p y hy hp fun k q hk hq=>ho.uniq k j q.1 p t hk (hox k q.1 q.2 hq) hj hp];exact h2 j p y t hy (hall j (fy9.1 hj).1) hp
  ·have hno:∀(k:Nat) (q:Oper),ops[k]? =some q→q.dst≠some t:=fun k q hk hq=>hw ⟨k,q,hk,hq⟩
   rw[ae5 s xs t fun q hq=>by
    obtain⟨k,hk⟩:=ga9 hq;exact hno k q.1 (hox k q.1 q.2 hk)]
   exact h1 t fun k q hk _=>hno k q hk
 -- whoever is ready
 have hready:∀(L:Array Bool) i,i∈Region.ready .any ops.toArray L→L.size=ops.length→∃o,ops[i]? =some o∧L.getD i false=false∧∀e∈o.after,Region.binds .any e=true→L.getD e.on false=true:=by
  intro L i hi hs;unfold Region.ready at hi;rw[gg1,gd5]at hi;obtain⟨hlt,h⟩:=hi;rw[ge3]at hlt;rw[fz4]at h;obtain⟨h1,h2⟩:=h;have ho':ops[i]? =some ops[i]:=fy4 hlt;refine⟨ops[i],ho',?_,?_⟩
  ·rw[←af2 Oa];simpa using h1
  ·intro e he hbd;rw[gd4,ho']at h2;simp only[gc1,ge1]at h2;obtain⟨k,hk,rfl⟩:=gi6 he;have:=gg3.1 h2 k hk;rw[hbd]at this;simpa using this
 have hsome:∀(L:Array Bool) (a:Act) (w:World),bf0 C s xs ops ie Scr L a w→Region.ready .any ops.toArray L=[]→∀i,i<ops.length→L.getD i false=true:=by
  intro L a w hO hr i
  induction i using Nat.strongRecOn with
  |_ i ih=>
   intro hi
   cases hL:L.getD i false with
   |true=>rfl
   |false=>
    have ho':ops[i]? =some ops[i]:=fy4 hi
    have hm:i∈Region.ready .any ops.toArray L:=by
     unfold Region.ready;rw[gg1,gd5,ge3];refine⟨hi,?_⟩;rw[af2 (by rw[hO.size];exact hi),hL,gd4,ho'];simp only[gf3,gd1,gc1,ge1];refine gg3.2 fun k hk=>?_
     cases hbd:Region.binds .any (ops[i]).after[k]with
     |false=>simp
     |true=>
      have hb:=ho.back i _ _ ho' (Array.getElem_mem hk) hbd;rw[ih _ hb Oa];simp
    rw[hr]at hm
    cases hm
 intro fuel
 induction fuel with
 |zero=>
  intro L a w hu hO
  have hall:∀i,i<ops.length→L.getD i false=true:=fun i hi=>by
   rw[←af2 (by rw[hO.size];exact hi)];exact ae9 Oa i hi
  refine⟨?_,hfin L a w hall hO⟩;refine gj4.2 fun i hi=>?_
  obtain⟨o,h1,h2,_⟩:=hready L i hi hO.size;rw[hall i (fy9.1 h1).1]at h2
  cases h2
 |succ fuel ih=>
  intro L a w hu hO;refine⟨fun hr=>hfin L a w (hsome L a w hO hr) hO,fun i hi=>?_⟩;obtain⟨o,hoi,hL,hed⟩:=hready L i hi hO.size;have hlt:i<ops.length:=(fy9.1 hoi).1;obtain⟨x,hxi⟩:=hxo i o hoi;have hd:=hdk i o x hxi;obtain⟨F,σ,r1,r2,r3,hinv,r4,r5,h1,h2,h3⟩:=hO.rel;have hl:=hlook i o x L a w F σ hxi hL hO.down hed h1 h2
  have hu':unl ops.length (L.setIfInBounds i true)≤fuel:=by
   have:=ae8 (L:=L) hO.size hlt (by rw[af2 (by rw[hO.size];exact hlt)];exact hL);omega
  -- the step
  have hstep:∀v w' F',Ext w F w' F'→(o.dst≠none→RdX w' F' σ (x.getD .und) v)→Scr ((L.setIfInBounds i true).getD ie false) w' F' σ→bf0 C s xs ops ie Scr (L.setIfInBounds i true) (a.put o.dst v) w':=by
   intro v w' F' he hvv hsc;have hset:∀j,(L.setIfInBounds i true).getD j false=(L.getD j false||j==i):=fun j=>af1 (by rw[hO.size];exact hlt)
   have hother:∀t,o.dst≠some t→(a.put o.dst v).tmps.getD t undef=a.tmps.getD t undef:=by
    intro t ht
    cases hdd:o.dst with
    |none=>rfl
    |some d=>
     simp only[Act.put,gg4];rw[gi5 (fun e=>ht (by rw[hdd,e]))]
   refine⟨by simp[hO.size],fun j p e hj hjl hee hbd=>?_,F',σ,r1.step he.below,fun b hb=>he.more _ (r2 b hb),fun b hb=>?_,hinv.ext he,by rw[Act.put_def];exact r4,by rw[Act.put_size];exact r5,fun t ht=>?_,fun j p y t hj hjl hp=>?_,hsc⟩
   ·rw[hset]at hjl ⊢;rw[gb0]at hjl ⊢;rcases hjl with hjl|hjl
    ·exact .inl (hO.down j p e hj hjl hee hbd)
    ·obtain rfl:j=i:=by simpa using hjl
     rw[hoi]at hj
     cases hj
     exact .inl (hed e hee hbd)
   ·rcases he.new b hb with h|h
    ·exact r3 b h
    ·exact .inr (r1.new h)
   ·have hit:o.dst≠some t:=ht i o hoi (by rw[hset];simp);rw[hother t hit];exact(h1 t fun j q hj hjl=>ht j q hj (by rw[hset,hjl];rfl)).ext he hinv.flt
   ·rw[hset,gb0]at hjl
    by_cases hji:j=i
    ·subst hji;rw[hxi]at hj
     cases hj
     have hlt':=ad1 hd t hp;rw[hp];simp only[Act.put];have:(a.tmps.setIfInBounds t v).getD t undef=v:=by simp[r5,hlt']
     rw[this];exact hvv (by rw[hp];simp)
    ·have hjl':L.getD j false=true:=by
      rcases hjl with h|h
      ·exact h
      ·exact absurd (by simpa using h) hji
     rw[hother t (ho.uniq i j o p t (fun e=>hji e.symm) hoi (hox j p y hj) hp)];exact(h2 j p y t hj hjl' hp).ext he hinv.flt
  have hset':∀j,(L.setIfInBounds i true).getD j false=(L.getD j false||j==i):=fun j=>af1 (by rw[hO.size];exact hlt)
  have hops:∀z∈o.op.operands.toList,RdX w F σ ((stps s (xs.take i)).ev C.E z) (a.eval z):=by
   intro z hz
   cases z with
   |tmp t=>
    refine hl t ?_;unfold Oper.looksAt;refine gb2.2 (.inl ?_);rw[List.mem_filterMap];exact⟨_,hz,rfl⟩
   |const v=>exact ab4 v
   |global g=>exact ab5 hinv.glob.1 g
   |func f=>exact Rd.imm _ rfl
  unfold wpOp;rw[gd4,hoi];simp only
  by_cases hei:i=ie
  ·subst hei;obtain⟨hdn,hgn,hst⟩:=hve o x hxi;have hwant:Region.wanted o (yielded ops.toArray a.tmps)=true:=by unfold Region.wanted;rw[hgn]
   rw[if_pos hwant];rw[hL]at h3;refine .inl (hst F σ w a _ Q r1 hinv h3 hops fun w' k1 k2 k3 k4=>ih _ _ _ hu' ⟨by simp[hO.size],fun j p e hj hjl hee hbd=>?_,F,σ,k1,r2,r3,k2,r4,r5,fun t ht=>?_,fun j p y t hj hjl hp=>?_,?_⟩)
   ·rw[hset']at hjl ⊢;rw[gb0]at hjl ⊢;rcases hjl with hjl|hjl
    ·exact .inl (hO.down j p e hj hjl hee hbd)
    ·obtain rfl:j=i:=by simpa using hjl
     rw[hoi]at hj
     cases hj
     exact .inl (hed e hee hbd)
   ·exact(h1 t fun j q hj hjl=>ht j q hj (by rw[hset',hjl];rfl)).mono (fun _ h=>h) k3 fun _ _ h=>h
   ·rw[hset',gb0]at hjl
    by_cases hji:j=i
    ·subst hji;rw[hxi]at hj
     cases hj
     rw[hdn]at hp
     cases hp
    ·have hjl':L.getD j false=true:=by
      rcases hjl with h|h
      ·exact h
      ·exact absurd (by simpa using h) hji
     exact(h2 j p y t hj hjl' hp).mono (fun _ h=>h) k3 fun _ _ h=>h
   ·rw[hset'];simpa using k4
  obtain⟨hg,hvop⟩:=hv i o x hei hxi
  have hwant:Region.wanted o (yielded ops.toArray a.tmps)=x.isSome:=by
   refine hg.wanted (N:=C.N) hdst r5 (w:=w) (F:=F) (σ:=σ) fun j pol t hgj ht=>hl t ?_
   unfold Oper.looksAt;refine gb2.2 (.inr ?_);rw[hgj];show t∈((ops.toArray[j]?).bind (·.dst)).toList;rw[ht];simp
  have hsc:∀w' F',Ext w F w' F'→Scr ((L.setIfInBounds i true).getD ie false) w' F' σ:=fun w' F' he=>by
   rw[hset',show(ie==i)=false by rw[beq_eq_false_iff_ne];exact fun e=>hei e.symm,gc6];exact hscr _ _ _ _ _ _ h3 hinv he
  cases hx':x with
  |none=>
   rw[hx']at hwant;rw[if_neg (by rw[hwant];simp)];refine ih _ _ _ hu' (hstep undef w F (Ext.refl hinv.flt) (fun _=>?_) (hsc _ _ (Ext.refl hinv.flt)));rw[hx'];rfl
  |some y=>
   rw[hx']at hwant;rw[if_pos (by rw[hwant];rfl)];exact .inl (hvop y hx' F σ w a _ Q (by rw[ae3];exact hinv) hops fun v w' F' he hvv=>ih _ _ _ hu' (hstep v w' F' he (fun _=>by rw[hx'];exact hvv) (hsc _ _ he)))
section
variable{C:Cx}{s:St}{o:Oper}{x:X}
end
section
variable{C:Cx}{r:List It}{Q:Exit→St→Prop}{tm:List (Nat × X)}{ob:List aa5}
end
end Go.Abs
namespace Go.Abs
open Go Go.RowKit
def bf1(ops:List Oper)(L:Array Bool):Prop:=∀(i:Nat) (o:Oper) (e:Edge),ops[i]? =some o→L.getD i false=true→e∈o.after→Region.binds .any e=true→L.getD e.on false=true
inductive bf2(ops:List Oper):Nat→Nat→Prop
 |edge {j:Nat} {o:Oper} {e:Edge} (h:ops[j]? =some o) (he:e∈o.after) (hb:Region.binds .any e=true):bf2 ops e.on j
 |trans {i j k:Nat} (h:bf2 ops i j) (h':bf2 ops j k):bf2 ops i k
theorem bf2.down{ops:List Oper}{L:Array Bool}{i j:Nat}(h:bf2 ops i j)(hd:bf1 ops L)(hj:L.getD j false=true):L.getD i false=true:=by
 induction h with
 |edge h he hb=>exact hd _ _ _ h hj he hb
 |trans _ _ ih1 ih2=>exact ih1 (ih2 hj)
theorem bf2.ready{ops:List Oper}{L:Array Bool}{i j:Nat}(h:bf2 ops i j)(hd:bf1 ops L){o:Oper}(ho:ops[j]? =some o)(hr:∀e∈o.after,Region.binds .any e=true→L.getD e.on false=true):L.getD i false=true:=by
 induction h with
 |edge h he hb=>rw[ho]at h;cases h;exact hr _ he hb
 |trans h1 _ _ ih2=>exact h1.down hd (ih2 ho)
def bf3(o:Oper)(acc:List Nat):Nat:=o.after.toList.foldl (fun m e=>bif Region.binds .any e then m|||(acc.getD e.on 0|||2 ^ e.on)else m) 0
def bf4:List Oper→List Nat→List Nat
 |[],acc=>acc
 |o::r,acc=>bf4 r (acc++ [bf3 o acc])
def bf5(l:List Oper):List Nat:=bf4 l []
def bf6(A:List Nat)(i j:Nat):Bool:=(A.getD j 0).testBit i
theorem bf7{o:Oper}{acc:List Nat}{i:Nat}(h:(bf3 o acc).testBit i=true):∃e∈o.after,Region.binds .any e=true∧(e.on=i∨(acc.getD e.on 0).testBit i=true):=by
 have key:∀(l:List Edge) (m:Nat),(l.foldl (fun m e=>bif Region.binds .any e then m|||(acc.getD e.on 0|||2 ^ e.on)else m) m).testBit i=true→m.testBit i=true∨∃e∈l,Region.binds .any e=true∧(e.on=i∨(acc.getD e.on 0).testBit i=true):=by
  intro l
  induction l with
  |nil=>intro m h;exact .inl h
  |cons e r ih=>
   intro m h;simp only[gd3]at h;rcases ih _ h with h1|⟨e',he',h2⟩
   ·cases hb:Region.binds .any e with
    |false=>rw[hb]at h1;exact .inl (by simpa using h1)
    |true=>
     rw[hb]at h1;simp only[cond_true,Nat.testBit_or,gb0,Nat.testBit_two_pow,decide_eq_true_eq]at h1;rcases h1 with h1|h1|h1
     ·exact .inl h1
     ·exact .inr ⟨e,by simp,hb,.inr h1⟩
     ·exact .inr ⟨e,by simp,hb,.inl h1⟩
   ·exact .inr ⟨e',by simp[he'],h2⟩
 rcases key _ _ h with h1|⟨e,he,h2⟩
 ·simp at h1
 ·exact⟨e,by simpa using he,h2⟩
theorem bf8{l:List Oper}:∀(r p:List Oper) (acc:List Nat),l=p++r→acc.length=p.length→(∀i j,(acc.getD j 0).testBit i=true→bf2 l i j)→∀i j,((bf4 r acc).getD j 0).testBit i=true→bf2 l i j
 |[],p,acc,_,_,h=>h
 |o::r,p,acc,hl,hlen,h=>by
  refine bf8 r (p++ [o]) (acc++ [bf3 o acc]) (by simp[hl]) (by simp[hlen]) fun i j hij=>?_
  rcases Nat.lt_trichotomy j acc.length with hlt|heq|hgt
  ·rw[gd6,ga0 hlt,←gd6]at hij;exact h i j hij
  ·subst heq;have ho:l[acc.length]? =some o:=by rw[hl,hlen];simp
   rw[gd6,ga7 (fz6 _),Nat.sub_self]at hij;obtain⟨e,he,hb,h2⟩:=bf7 (o:=o) (acc:=acc) (by simpa using hij);rcases h2 with rfl|h2
   ·exact .edge ho he hb
   ·exact .trans (h _ _ h2) (.edge ho he hb)
  ·rw[gd6,gc5 Og]at hij;simp at hij
theorem bf9{l:List Oper}{i j:Nat}(h:bf6 (bf5 l) i j=true):bf2 l i j:=
 bf8 l [] [] rfl rfl (fun i j h=>by simp at h) i j h
def EOp(C:Cx)(s:St)(o:Oper)(x:X)(ob':List aa5):Prop:=
 ∀tm',(∀z∈o.op.operands.toList,(⟨tm',s.ob⟩:St).ev C.E z=s.ev C.E z)→SOp C ⟨tm',s.ob⟩ o ((⟨tm',ob'⟩:St).put o.dst x)
structure Dr(C:Cx)(s:St)(xs:List (Oper × Option X))(ops:List Oper)(obT:Nat→List aa5)(eff:Nat→Bool)(L:Array Bool)(a:Act)(w:World):Prop where
 size:L.size=ops.length
 down:bf1 ops L
 rel:∃tm k,k≤ops.length∧(∀i,i<k→eff i=true→L.getD i false=true)∧(∀i,k≤i→i<ops.length→eff i=true→L.getD i false=false)∧C.Rel ⟨tm,obT k⟩ a w∧
  (∀t,(∀(j:Nat) o,ops[j]? =some o→L.getD j false=true→o.dst≠some t)→lk tm t=lk s.tm t)∧
  (∀(j:Nat) o x t,xs[j]? =some (o,x)→L.getD j false=true→o.dst=some t→lk tm t=x.getD .und)
theorem bg0{n:Nat}{obT:Nat→List aa5}{eff:Nat→Bool}(hc:∀i,i<n→eff i=false→obT (i+1)=obT i):∀(d p:Nat),p+d≤n→(∀e,p≤e→e<p+d→eff e=false)→obT (p+d)=obT p
 |0,p,_,_=>rfl
 |d+1,p,hle,h=>by
  rw[←Nat.add_assoc,hc (p+d) Oa (h _ Oa Oa)];exact bg0 hc d p Oa fun e h1 h2=>h e h1 Oa
theorem Dr.all{C:Cx}{s:St}{xs:List (Oper × Option X)}{ops:List Oper}{obT:Nat→List aa5}{eff:Nat→Bool}(hx:xs.map (·.1)=ops)(ho:ad9 ops)
  (hc:∀i,i<ops.length→eff i=false→obT (i+1)=obT i)
  (hch:∀i j,i<j→j<ops.length→eff i=true→eff j=true→bf2 ops i j)
  (hdk:∀(i:Nat) o x,xs[i]? =some (o,x)→ac9 C o=true∧ad3 ops.toArray (stps s (xs.take i)) o x.isSome)
  (hv:∀(i:Nat) o x,eff i=false→xs[i]? =some (o,x)→∀y,x=some y→
   ((∀e,e<ops.length→eff e=true→(e<i→bf2 ops e i)∧(i<e→bf2 ops i e))∧VOp C ⟨(stps s (xs.take i)).tm,obT i⟩ o y)∨(∀k,k≤ops.length→VOp C ⟨(stps s (xs.take i)).tm,obT k⟩ o y))
  (hve:∀(i:Nat) o x,eff i=true→xs[i]? =some (o,x)→∃y,x=some y∧EOp C ⟨(stps s (xs.take i)).tm,obT i⟩ o y (obT (i+1)))
  {Q:Exit→Act→World→Prop}(hq:∀a w,C.Rel ⟨(stps s xs).tm,obT ops.length⟩ a w→Q .normal a w):
  ∀(fuel:Nat) (L:Array Bool) (a:Act) (w:World),unl ops.length L≤fuel→Dr C s xs ops obT eff L a w→wpAny C.E.P .any ops.toArray Q fuel L a w:=by
 have hxo:∀(i:Nat) o,ops[i]? =some o→∃x,xs[i]? =some (o,x):=by
  intro i o hi;rw[←hx,fz1]at hi
  cases hxi:xs[i]? with
  |none=>rw[hxi]at hi;cases hi
  |some p=>rw[hxi]at hi;simp at hi;exact⟨p.2,by rw[←hi]⟩
 have hox:∀(i:Nat) o x,xs[i]? =some (o,x)→ops[i]? =some o:=by
  intro i o x hi;rw[←hx,fz1,hi];rfl
 have hdst:∀(j:Nat) (p:Oper) d,ops.toArray[j]? =some p→p.dst=some d→d<C.N:=by
  intro j p d hj hd;rw[gd4]at hj;obtain⟨x,hx'⟩:=hxo j p hj;exact ad1 (hdk j p x hx').1 d hd
 -- what a slot that the operation looks at holds
 have hlook:∀(i:Nat) (o:Oper) (x:Option X) (L:Array Bool) (tm:List (Nat × X)),xs[i]? =some (o,x)→L.getD i false=false→bf1 ops L→
   (∀e∈o.after,Region.binds .any e=true→L.getD e.on false=true)→
   (∀t,(∀(j:Nat) o,ops[j]? =some o→L.getD j false=true→o.dst≠some t)→lk tm t=lk s.tm t)→
   (∀(j:Nat) o x t,xs[j]? =some (o,x)→L.getD j false=true→o.dst=some t→lk tm t=x.getD .und)→
   ∀t∈o.looksAt ops.toArray,lk tm t=lk (stps s (xs.take i)).tm t:=by
  intro i o x L tm hi hL hdown hready h1 h2 t ht
  by_cases hw:∃(j:Nat) (p:Oper),ops[j]? =some p∧p.dst=some t
  ·obtain⟨j,p,hj,hp⟩:=hw;obtain⟨y,hy⟩:=hxo j p hj;have huniq:∀(k:Nat) (q:Oper),k≠j→ops[k]? =some q→q.dst≠some t:=fun k q hk hq=>ho.uniq k j q p t hk hq hj hp
   by_cases hij:i=j
   ·subst hij
    have e:lk (stps s (xs.take i)).tm t=lk s.tm t:=by
     refine ae5 _ _ _ fun q hq=>?_
     obtain⟨k,hk⟩:=ga9 hq;rw[ga5]at hk;split at hk
     ·exact huniq k q.1 Oa (hox k q.1 q.2 hk)
     ·cases hk
    rw[e];refine h1 t fun k q hk hkl=>?_
    by_cases hki:k=i
    ·subst hki;rw[hL]at hkl;cases hkl
    ·exact huniq k q hki hk
   ·obtain⟨ha,hb⟩:=ho.looks i j o p t hij (hox i o x hi) hj hp ht
    by_cases hlt:j<i
    ·obtain⟨e,he,hbd,hej⟩:=ha hlt;have hjl:L.getD j false=true:=by rw[←hej];exact hready e he hbd
     have e1:lk (stps s (xs.take i)).tm t=y.getD .und:=by
      refine ae7 _ _ t j p y (by rw[ga5,if_pos hlt];exact hy) hp fun k q hk hq=>?_
      rw[ga5]at hq;split at hq
      ·exact huniq k q.1 hk (hox k q.1 q.2 hq)
      ·cases hq
     rw[e1];exact h2 j p y t hy hjl hp
    ·obtain⟨e,he,hbd,hei⟩:=hb hlt
     have hjl:L.getD j false=false:=by
      cases hjl:L.getD j false with
      |false=>rfl
      |true=>
       have:=hdown j p e hj hjl he hbd;rw[hei,hL]at this
       cases this
     have e1:lk (stps s (xs.take i)).tm t=lk s.tm t:=by
      refine ae5 _ _ _ fun q hq=>?_
      obtain⟨k,hk⟩:=ga9 hq;rw[ga5]at hk;split at hk
      ·exact huniq k q.1 Oa (hox k q.1 q.2 hk)
      ·cases hk
     rw[e1];refine h1 t fun k q hk hkl=>?_
     by_cases hkj:k=j
     ·subst hkj;rw[hjl]at hkl;cases hkl
     ·exact huniq k q hkj hk
  ·have hno:∀(k:Nat) (q:Oper),ops[k]? =some q→q.dst≠some t:=fun k q hk hq=>hw ⟨k,q,hk,hq⟩
   have e1:lk (stps s (xs.take i)).tm t=lk s.tm t:=by
    refine ae5 _ _ _ fun q hq=>?_
    obtain⟨k,hk⟩:=ga9 hq;rw[ga5]at hk;split at hk
    ·exact hno k q.1 (hox k q.1 q.2 hk)
    ·cases hk
   rw[e1];exact h1 t fun k q hk _=>hno k q hk
 -- the end
 have hfin:∀(L:Array Bool) (a:Act) (w:World),(∀i,i<ops.length→L.getD i false=true)→Dr C s xs ops obT eff L a w→Q .normal a w:=by
  intro L a w hall hO;obtain⟨tm,k,k1,k2,k3,hr,h1,h2⟩:=hO.rel
  have hk:obT ops.length=obT k:=by
   have:=bg0 hc (ops.length-k) k Oa fun e e1 e2=>by
    cases he:eff e with
    |false=>rfl
    |true=>
     have e3:=k3 e e1 Oa he;rw[hall e Oa]at e3
     cases e3
   rwa[Nat.add_sub_cancel' k1]at this
  rw[hk]at hq;refine hq a w (ad4.rel (s:=⟨tm,obT k⟩) (s':=⟨(stps s xs).tm,obT k⟩) ⟨fun t=>?_,rfl⟩ hr);show lk (stps s xs).tm t=lk tm t
  by_cases hw:∃(j:Nat) (p:Oper),ops[j]? =some p∧p.dst=some t
  ·obtain⟨j,p,hj,hp⟩:=hw;obtain⟨y,hy⟩:=hxo j p hj;rw[ae7 s xs t j p y hy hp fun k q hk hq=>ho.uniq k j q.1 p t hk (hox k q.1 q.2 hq) hj hp];exact(h2 j p y t hy (hall j (fy9.1 hj).1) hp).symm
  ·have hno:∀(k:Nat) (q:Oper),ops[k]? =some q→q.dst≠some t:=fun k q hk hq=>hw ⟨k,q,hk,hq⟩
   rw[ae5 s xs t fun q hq=>by
    obtain⟨k,hk⟩:=ga9 hq;exact hno k q.1 (hox k q.1 q.2 hk)]
   exact(h1 t fun k q hk _=>hno k q hk).symm
 -- whoever is ready
 have hready:∀(L:Array Bool) i,i∈Region.ready .any ops.toArray L→L.size=ops.length→∃o,ops[i]? =some o∧L.getD i false=false∧∀e∈o.after,Region.binds .any e=true→L.getD e.on false=true:=by
  intro L i hi hs;unfold Region.ready at hi;rw[gg1,gd5]at hi;obtain⟨hlt,h⟩:=hi;rw[ge3]at hlt;rw[fz4]at h;obtain⟨h1,h2⟩:=h;have ho':ops[i]? =some ops[i]:=fy4 hlt;refine⟨ops[i],ho',?_,?_⟩
  ·rw[←af2 Oa];simpa using h1
  ·intro e he hbd;rw[gd4,ho']at h2;simp only[gc1,ge1]at h2;obtain⟨k,hk,rfl⟩:=gi6 he;have:=gg3.1 h2 k hk;rw[hbd]at this;simpa using this
 have hsome:∀(L:Array Bool) (a:Act) (w:World),Dr C s xs ops obT eff L a w→Region.ready .any ops.toArray L=[]→∀i,i<ops.length→L.getD i false=true:=by
  intro L a w hO hr i
  induction i using Nat.strongRecOn with
  |_ i ih=>
   intro hi
   cases hL:L.getD i false with
   |true=>rfl
   |false=>
    have ho':ops[i]? =some ops[i]:=fy4 hi
    have hm:i∈Region.ready .any ops.toArray L:=by
     unfold Region.ready;rw[gg1,gd5,ge3];refine⟨hi,?_⟩;rw[af2 (by rw[hO.size];exact hi),hL,gd4,ho'];simp only[gf3,gd1,gc1,ge1];refine gg3.2 fun k hk=>?_
     cases hbd:Region.binds .any (ops[i]).after[k]with
     |false=>simp
     |true=>
      have hb:=ho.back i _ _ ho' (Array.getElem_mem hk) hbd;rw[ih _ hb Oa];simp
    rw[hr]at hm
    cases hm
 intro fuel
 induction fuel with
 |zero=>
  intro L a w hu hO
  have hall:∀i,i<ops.length→L.getD i false=true:=fun i hi=>by
   rw[←af2 (by rw[hO.size];exact hi)];exact ae9 Oa i hi
  refine⟨?_,hfin L a w hall hO⟩;refine gj4.2 fun i hi=>?_
  obtain⟨o,h1,h2,_⟩:=hready L i hi hO.size;rw[hall i (fy9.1 h1).1]at h2
  cases h2
 |succ fuel ih=>
  intro L a w hu hO;refine⟨fun hr=>hfin L a w (hsome L a w hO hr) hO,fun i hi=>?_⟩;obtain⟨o,hoi,hL,hed⟩:=hready L i hi hO.size;have hlt:i<ops.length:=(fy9.1 hoi).1;obtain⟨x,hxi⟩:=hxo i o hoi;obtain⟨hd,hg⟩:=hdk i o x hxi;obtain⟨tm,k,k1,k2,k3,hr,h1,h2⟩:=hO.rel;have hl:=hlook i o x L tm hxi hL hO.down hed h1 h2;have hset:∀j,(L.setIfInBounds i true).getD j false=(L.getD j false||j==i):=fun j=>af1 (by rw[hO.size];exact hlt)
  have hu':unl ops.length (L.setIfInBounds i true)≤fuel:=by
   have:=ae8 (L:=L) hO.size hlt (by rw[af2 (by rw[hO.size];exact hlt)];exact hL);omega
  have hdown':bf1 ops (L.setIfInBounds i true):=by
   intro j p e hj hjl hee hbd;rw[hset]at hjl ⊢;rw[gb0]at hjl ⊢;rcases hjl with hjl|hjl
   ·exact .inl (hO.down j p e hj hjl hee hbd)
   ·obtain rfl:j=i:=by simpa using hjl
    rw[hoi]at hj
    cases hj
    exact .inl (hed e hee hbd)
  have hwant:Region.wanted o (yielded ops.toArray a.tmps)=x.isSome:=by
   obtain⟨F,σ,_,_,_,_,_,r5,hs⟩:=hr;refine hg.wanted (N:=C.N) hdst r5 (w:=w) (F:=F) (σ:=σ) fun j pol t hgj ht=>?_
   rw[←hl t (by
    unfold Oper.looksAt;refine gb2.2 (.inr ?_);rw[hgj];show t∈((ops.toArray[j]?).bind (·.dst)).toList;rw[ht];simp)]
   exact hs t
  have hops:∀(ob:List aa5) (z:Operand),z∈o.op.operands.toList→(⟨tm,ob⟩:St).ev C.E z=(stps s (xs.take i)).ev C.E z:=by
   intro ob z hz
   cases z with
   |tmp t=>
    refine hl t ?_;unfold Oper.looksAt;refine gb2.2 (.inl ?_);rw[List.mem_filterMap];exact⟨_,hz,rfl⟩
   |_=>rfl
  have hone:∀(y:Option X) (ob:List aa5) (t:Nat),o.dst≠some t→lk ((⟨tm,ob⟩:St).put o.dst (y.getD .und)).tm t=lk tm t:=by
   intro y ob t ht
   cases hdd:o.dst with
   |none=>rfl
   |some d=>
    simp only[St.put,lk]
    cases hb:Nat.beq d t with
    |true=>exact absurd (by rw[hdd,fz8 hb]) ht
    |false=>rfl
  have hnew:∀(ob:List aa5),(∀t,(∀(j:Nat) o,ops[j]? =some o→(L.setIfInBounds i true).getD j false=true→o.dst≠some t)→lk ((⟨tm,ob⟩:St).put o.dst (x.getD .und)).tm t=lk s.tm t)∧
    (∀(j:Nat) o' x' t,xs[j]? =some (o',x')→(L.setIfInBounds i true).getD j false=true→o'.dst=some t→lk ((⟨tm,ob⟩:St).put o.dst (x.getD .und)).tm t=x'.getD .und):=by
   intro ob;refine⟨fun t ht=>?_,fun j p y t hj hjl hp=>?_⟩
   ·rw[hone x ob t (ht i o hoi (by rw[hset];simp))];exact h1 t fun j q hj hjl=>ht j q hj (by rw[hset,hjl];rfl)
   ·rw[hset,gb0]at hjl
    by_cases hji:j=i
    ·subst hji;rw[hxi]at hj
     cases hj
     rw[hp];exact ae6 _ _ _
    ·have hjl':L.getD j false=true:=by
      rcases hjl with h|h
      ·exact h
      ·exact absurd (by simpa using h) hji
     rw[hone x ob t (ho.uniq i j o p t (fun e=>hji e.symm) hoi (hox j p y hj) hp)];exact h2 j p y t hj hjl' hp
  have hputob:∀(ob:List aa5) (y:X),(⟨tm,ob⟩:St).put o.dst y=⟨((⟨tm,ob⟩:St).put o.dst y).tm,ob⟩:=by
   intro ob y
   cases o.dst<;>rfl
  have hlt':∀e,eff e=true→k≤e→e<ops.length→L.getD e false=false:=fun e h1 h2 h3=>k3 e h2 h3 h1
  unfold wpOp;rw[gd4,hoi];simp only
  cases he:eff i with
  |true=>
   obtain⟨y,hy,heop⟩:=hve i o x he hxi;rw[hy]at hwant hnew;rw[if_pos (by rw[hwant];rfl)]
   have hki:k≤i:=by
    rcases fy5 i k with h|h
    ·rw[k2 i h he]at hL;cases hL
    ·exact h
   have hobk:obT i=obT k:=by
    have:=bg0 hc (i-k) k Oa fun e e1 e2=>by
     cases hee:eff e with
     |false=>rfl
     |true=>
      have e3:=k3 e e1 Oa hee;rw[(hch e i Oa hlt hee he).ready hO.down hoi hed]at e3
      cases e3
    rwa[Nat.add_sub_cancel' hki]at this
   have hsop:=heop tm (fun z hz=>hops _ z hz);simp only[hobk]at hsop;refine .inl (hsop w a _ Q hr fun a' w' hr'=>ih _ _ _ hu' ⟨by simp[hO.size],hdown',?_⟩);rw[hputob]at hr';refine⟨_,i+1,hlt,fun e e1 e2=>?_,fun e e1 e2 e3=>?_,hr',(hnew _).1,(hnew _).2⟩
   ·rw[hset,gb0];rcases fy5 e i with h|h
    ·exact .inl ((hch e i h hlt e2 he).ready hO.down hoi hed)
    ·exact .inr Og
   ·rw[hset,show(e==i)=false by rw[beq_eq_false_iff_ne];omega,gc6]
    cases hee:L.getD e false with
    |false=>rfl
    |true=>
     rw[(hch i e Oa e2 he e3).down hO.down hee]at hL
     cases hL
  |false=>
   have hnext:∀a' w',C.Rel ((⟨tm,obT k⟩:St).put o.dst (x.getD .und)) a' w'→wpAny C.E.P .any ops.toArray Q fuel (L.setIfInBounds i true) a' w':=by
    intro a' w' hr';refine ih _ _ _ hu' ⟨by simp[hO.size],hdown',?_⟩;rw[hputob]at hr';refine⟨_,k,k1,fun e e1 e2=>?_,fun e e1 e2 e3=>?_,hr',(hnew _).1,(hnew _).2⟩
    ·rw[hset,k2 e e1 e2];rfl
    ·rw[hset,k3 e e1 e2 e3,show(e==i)=false by rw[beq_eq_false_iff_ne];rintro rfl;rw[he]at e3;cases e3];rfl
   cases hx':x with
   |none=>
    rw[hx']at hwant hnext;rw[if_neg (by rw[hwant];simp)];refine hnext _ _ ?_;obtain⟨F,σ,r1,r2,r3,hi',r4,r5,hs⟩:=hr;exact ad2 r1 r2 r3 hi' r4 r5 hs hd (Ext.refl hi'.flt) fun _=>rfl
   |some y=>
    rw[hx']at hwant hnext;rw[if_pos (by rw[hwant];rfl)]
    have hvop:VOp C ⟨(stps s (xs.take i)).tm,obT k⟩ o y:=by
     rcases hv i o x he hxi y hx' with⟨hfx,hvv⟩|hvv
     ·have hob:obT i=obT k:=by
       rcases Nat.le_total k i with h|h
       ·have:=bg0 hc (i-k) k Oa fun e e1 e2=>by
         cases hee:eff e with
         |false=>rfl
         |true=>
          have e3:=k3 e e1 Oa hee;rw[((hfx e Oa hee).1 Oa).ready hO.down hoi hed]at e3
          cases e3
        rwa[Nat.add_sub_cancel' h]at this
       ·have:=bg0 hc (k-i) i Oa fun e e1 e2=>by
         cases hee:eff e with
         |false=>rfl
         |true=>
          have hne:e≠i:=by rintro rfl;rw[he]at hee;cases hee
          have e3:=k2 e Oa hee;rw[((hfx e Oa hee).2 Oa).down hO.down e3]at hL
          cases hL
        rw[Nat.add_sub_cancel' h]at this;exact this.symm
      rwa[hob]at hvv
     ·exact hvv k k1
    have hvop':VOp C ⟨tm,obT k⟩ o y:=by
     intro F σ w a K Q hi ho hK
     exact hvop F σ w a K Q hi (fun z hz=>by
      have:=ho z hz;rw[hops _ z hz]at this;exact this) hK
    refine .inl (hvop'.sop hd w a _ Q hr fun a' w' hr'=>hnext a' w' hr')
end Go.Abs
