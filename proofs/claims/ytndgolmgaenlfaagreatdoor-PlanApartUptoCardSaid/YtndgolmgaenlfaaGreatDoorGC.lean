/- The walk through a region whose order is drawn and that holds several effects; Calls that are handed objects: data handed back; such calls in a region. Conditions: each part's own, as it says. -/
import Derived.Test.YtndgolmgaenlfaaGreatDoorGB
import Derived.Deep.DeepHandedRow
import Derived.Scope
import Derived.Test.YtndgolmgaenlfaaGreatDoorGA
import Derived.ArgAppend
import Derived.Test.YtndgolmgaenlfaaGreatDoorProg
import Derived.KernelRfl
import Derived.Lib.LaidTab
import Derived.Shelf.Strconv.Itoa3
set_option linter.unusedVariables false
set_option linter.unusedSimpArgs false
namespace Go.Abs
open Go Go.RowKit
structure Wk(wob ob:List aa5):Prop where
 len:wob.length≤ob.length
 get:∀(i:Nat) x,wob[i]? =some x→x.live=true→ob[i]? =some x∧x.below wob.length=true
def wkP(n:Nat):List aa5→List aa5→Prop
 |[],_=>True
 |.dead::r,_::q=>True∧wkP n r q
 |_::_,[]=>False
 |x::r,y::q=>(x=y∧x.below n=true)∧wkP n r q
theorem bg1{n:Nat}:∀{wob ob:List aa5},wkP n wob ob→wob.length≤ob.length∧∀(i:Nat) x,wob[i]? =some x→x.live=true→ob[i]? =some x∧x.below n=true
 |[],_,_=>⟨ga8 _,fun i x h=>by simp at h⟩
 |x::r,[],h=>by cases x<;>simp[wkP]at h
 |x::r,y::q,h=>by
  have key:(x.live=true→x=y∧x.below n=true)∧wkP n r q:=by
   cases x with
   |dead=>exact⟨fun hl=>by simp[aa5.live]at hl,h.2⟩
   |_=>exact⟨fun _=>h.1,h.2⟩
  obtain⟨h1,h2⟩:=bg1 key.2;refine⟨by simpa using h1,fun i z hz hl=>?_⟩
  cases i with
  |zero=>
   simp at hz;subst hz;obtain⟨rfl,h4⟩:=key.1 hl;exact⟨rfl,h4⟩
  |succ i=>exact h2 i z (by simpa using hz) hl
theorem Wk.mk'{wob ob:List aa5}(h:wkP wob.length wob ob):Wk wob ob:=⟨(bg1 h).1,(bg1 h).2⟩
theorem ab2.wk{E:Env}{B:ab1}{F:Nat→Prop}{σ:Sg}{ob wob:List aa5}{w:World}(h:ab2 E B F σ ob w)(hw:Wk wob ob)(hn:B.n0≤wob.length):ab2 E B F (σ.take wob.length) wob w:=by
 have hlen:=h.len;have hl:=hw.len
 have hget:∀(o:Nat) p,(σ.take wob.length)[o]? =some p→σ[o]? =some p:=by
  intro o p hp;rw[ga5]at hp;split at hp
  ·exact hp
  ·cases hp
 refine⟨h.flt,h.glob,by rw[gb6];omega,fun o x p hx hp=>?_,fun o o' x x' p p' hne hx hlx hx' hlx' hp hp'=>?_,fun i p hi hp=>?_⟩
 ·cases hlv:x.live with
  |false=>cases x<;>simp[aa5.live]at hlv<;>trivial
  |true=>exact(h.obs o x p (hw.get o x hx hlv).1 (hget o p hp)).take (hw.get o x hx hlv).2
 ·exact h.inj o o' x x' p p' hne (hw.get o x hx hlx).1 hlx (hw.get o' x' hx' hlx').1 hlx' (hget o p hp) (hget o' p' hp')
 ·rw[ga5,if_pos Oa];exact h.pre i p hi hp
theorem St.ev_below{E:Env}{tm:List (Nat × X)}{ob:List aa5}{n:Nat}(h:∀t,(lk tm t).below n=true)(z:Operand):((⟨tm,ob⟩:St).ev E z).below n=true:=by
 cases z with
 |tmp t=>exact h t
 |const v=>
  show(ab3 v).below n=true;unfold ab3;split
  ·rfl
  ·cases okV v<;>rfl
 |global g=>
  show(aa9 E.G g).below n=true
  have:∀l:List GE,(aa9 l g).below n=true:=by
   intro l
   induction l with
   |nil=>rfl
   |cons a r ih=>
    simp only[aa9]
    cases Nat.beq a.g g
    ·exact ih
    ·rfl
  exact this _
 |func f=>rfl
theorem VOp.wk{C:Cx}{tm:List (Nat × X)}{ob wob:List aa5}{o:Oper}{x:X}(h:VOp C ⟨tm,wob⟩ o x)(hw:Wk wob ob)(hn:C.base.n0≤wob.length)(hb:∀t,(lk tm t).below wob.length=true):VOp C ⟨tm,ob⟩ o x:=by
 intro F σ w a K Q hi hr hK;refine h F (σ.take wob.length) w a K Q (hi.wk hw hn) (fun y hy=>?_) fun v w' F' he hv=>hK v w' F' he ?_
 ·have:=hr y hy;exact RdX.take (n:=wob.length) this (St.ev_below (ob:=ob) hb y)
 ·refine hv.mono (fun _ h=>h) (fun _ _=>rfl) fun o p hp=>?_
  rw[ga5]at hp;split at hp
  ·exact hp
  ·cases hp
def bg2(A E:List Nat)(i:Nat):Bool:=E.all fun e=>Nat.beq e i||(bif Nat.blt e i then bf6 A e i else bf6 A i e)
def bg3(l:List Oper)(E:List Nat)(i:Nat):Prop:=∀e,E.contains e=true→(e<i→bf2 l e i)∧(i<e→bf2 l i e)
theorem bg4{l:List Oper}{E:List Nat}{i:Nat}(h:bg2 (bf5 l) E i=true):bg3 l E i:=by
 intro e he;have h1:=ga6.1 h e (by simpa using he);refine⟨fun hlt=>?_,fun hlt=>?_⟩
 ·have e1:Nat.beq e i=false:=by rw[←ge5];intro hb;have:=fz8 hb;omega
  have e2:Nat.blt e i=true:=by simpa using hlt
  rw[e1,e2]at h1;exact bf9 (by simpa using h1)
 ·have e1:Nat.beq e i=false:=by rw[←ge5];intro hb;have:=fz8 hb;omega
  have e2:Nat.blt e i=false:=by rw[←ge5];simp;omega
  rw[e1,e2]at h1;exact bf9 (by simpa using h1)
def bg5(A E:List Nat):Bool:=E.all fun e=>bg2 A E e
inductive RD(C:Cx)(l:List Oper)(E:List Nat)(wob:List aa5):Nat→List Oper→St→St→Prop
 |nil (i:Nat) (s:St):RD C l E wob i [] s s
 |same {i:Nat} {ops:List Oper} {s s1 s':St} (hs:ad4 s s1) (h:RD C l E wob i ops s1 s'):RD C l E wob i ops s s'
 |fix {i:Nat} {o:Oper} {rest:List Oper} {s s':St} {x:X} (hg:ad3 l.toArray s o true) (hd:ac9 C o=true) (hne:E.contains i=false) (hf:bg3 l E i) (hv:VOp C s o x) (h:RD C l E wob (i+1) rest (s.put o.dst x) s'):RD C l E wob i (o::rest) s s'
 |skip {i:Nat} {o:Oper} {rest:List Oper} {s s':St} (hg:ad3 l.toArray s o false) (hd:ac9 C o=true) (hne:E.contains i=false) (h:RD C l E wob (i+1) rest (s.put o.dst .und) s'):RD C l E wob i (o::rest) s s'
 |weak {i:Nat} {o:Oper} {rest:List Oper} {s s':St} {x:X} (hg:ad3 l.toArray s o true) (hd:ac9 C o=true) (hne:E.contains i=false) (hv:VOp C ⟨s.tm,wob⟩ o x) (hb:∀t,(lk s.tm t).below wob.length=true) (h:RD C l E wob (i+1) rest (s.put o.dst x) s'):RD C l E wob i (o::rest) s s'
 |eff {i:Nat} {o:Oper} {rest:List Oper} {s s':St} {x:X} {ob':List aa5} (hg:ad3 l.toArray s o true) (hd:ac9 C o=true) (hne:E.contains i=true) (hv:EOp C s o x ob') (hw:Wk wob ob') (h:RD C l E wob (i+1) rest ((⟨s.tm,ob'⟩:St).put o.dst x) s'):RD C l E wob i (o::rest) s s'
theorem bg6:∀(xs:List (Oper × Option X)) (s s2:St),(∀t,lk s.tm t=lk s2.tm t)→∀t,lk (stps s xs).tm t=lk (stps s2 xs).tm t
 |[],_,_,h=>h
 |(o,x)::r,s,s2,h=>by
  refine bg6 r _ _ fun t=>?_
  cases o.dst with
  |none=>exact h t
  |some d=>
   simp only[St.put,lk]
   cases Nat.beq d t
   ·exact h t
   ·rfl
theorem VOp.look{C:Cx}{tm tm':List (Nat × X)}{ob:List aa5}{o:Oper}{x:X}(h:VOp C ⟨tm,ob⟩ o x)(he:∀t,lk tm' t=lk tm t):VOp C ⟨tm',ob⟩ o x:=
 ad4.vop (s:=⟨tm,ob⟩) (s':=⟨tm',ob⟩) ⟨he,rfl⟩ h
theorem EOp.look{C:Cx}{tm tm':List (Nat × X)}{ob ob':List aa5}{o:Oper}{x:X}(h:EOp C ⟨tm,ob⟩ o x ob')(he:∀t,lk tm' t=lk tm t):EOp C ⟨tm',ob⟩ o x ob':=by
 intro t2 h2;refine h t2 fun z hz=>(h2 z hz).trans ?_
 cases z with
 |tmp t=>exact he t
 |_=>rfl
theorem ad3.look{all:Array Oper}{s s':St}{o:Oper}{b:Bool}(h:ad3 all s o b)(he:∀t,lk s'.tm t=lk s.tm t):ad3 all s' o b:=by
 unfold ad3 at*
 cases hgd:o.guard with
 |none=>rw[hgd]at h;exact h
 |some jp=>
  rw[hgd]at h;obtain⟨t,h1,h2⟩:=h;exact⟨t,h1,by rw[he];exact h2⟩
theorem RD.data{C:Cx}{l:List Oper}{E:List Nat}{wob:List aa5}{i:Nat}{ops:List Oper}{s s':St}(h:RD C l E wob i ops s s')(hw0:Wk wob s.ob):
  ∃(xs:List (Oper × Option X)) (obT:Nat→List aa5),xs.map (·.1)=ops∧obT 0=s.ob∧obT ops.length=s'.ob∧(∀t,lk (stps s xs).tm t=lk s'.tm t)∧(∀j,j≤ops.length→Wk wob (obT j))∧
   ∀(j:Nat) o x,xs[j]? =some (o,x)→ac9 C o=true∧ad3 l.toArray (stps s (xs.take j)) o x.isSome∧
    (E.contains (i+j)=true→∃y,x=some y∧EOp C ⟨(stps s (xs.take j)).tm,obT j⟩ o y (obT (j+1)))∧
    (E.contains (i+j)=false→obT (j+1)=obT j∧∀y,x=some y→(bg3 l E (i+j)∧VOp C ⟨(stps s (xs.take j)).tm,obT j⟩ o y)∨(VOp C ⟨(stps s (xs.take j)).tm,wob⟩ o y∧∀t,(lk (stps s (xs.take j)).tm t).below wob.length=true)):=by
 induction h with
 |nil i s=>exact⟨[],fun _=>s.ob,rfl,rfl,rfl,fun _=>rfl,fun _ _=>hw0,fun j o x h=>by simp at h⟩
 | @same i ops s s1 s' hs hh ih=>
  obtain⟨xs,obT,h1,h2,h3,h4,h5,h6⟩:=ih (by rw[hs.2];exact hw0);have hst:∀ys t,lk (stps s ys).tm t=lk (stps s1 ys).tm t:=fun ys=>bg6 ys s s1 fun t=>(hs.1 t).symm
  refine⟨xs,obT,h1,h2.trans hs.2,h3,fun t=>(hst xs t).trans (h4 t),h5,fun j o x hj=>?_⟩;obtain⟨a1,a2,a3,a4⟩:=h6 j o x hj;refine⟨a1,a2.look (hst _),fun he=>?_,fun he=>⟨(a4 he).1,fun y hy=>?_⟩⟩
  ·obtain⟨y,hy,hv⟩:=a3 he;exact⟨y,hy,hv.look (hst _)⟩
  ·rcases(a4 he).2 y hy with⟨b1,b2⟩|⟨b1,b2⟩
   ·exact .inl ⟨b1,b2.look (hst _)⟩
   ·exact .inr ⟨b1.look (hst _),fun t=>by rw[hst];exact b2 t⟩
 | @fix i o rest s s' x hg hd hne hf hv hh ih=>
  obtain⟨xs,obT,h1,h2,h3,h4,h5,h6⟩:=ih (by rw[St.put_ob];exact hw0);rw[St.put_ob]at h2;refine⟨(o,some x)::xs,fun j=>match j with|0=>s.ob|j+1=>obT j,by simp[h1],rfl,h3,h4,fun j hj=>?_,fun j o' x' hj=>?_⟩
  ·cases j with
   |zero=>exact hw0
   |succ j=>exact h5 j (by simpa using hj)
  ·cases j with
   |zero=>
    simp at hj;obtain⟨rfl,rfl⟩:=hj;refine⟨hd,hg,fun he=>?_,fun _=>⟨h2,fun y hy=>?_⟩⟩
    ·rw[gd2,hne]at he;cases he
    ·cases hy;exact .inl ⟨hf,hv⟩
   |succ j=>
    have:=h6 j o' x' (by simpa using hj);rw[show i+1+j=i+(j+1) by omega]at this;exact this
 | @skip i o rest s s' hg hd hne hh ih=>
  obtain⟨xs,obT,h1,h2,h3,h4,h5,h6⟩:=ih (by rw[St.put_ob];exact hw0);rw[St.put_ob]at h2;refine⟨(o,none)::xs,fun j=>match j with|0=>s.ob|j+1=>obT j,by simp[h1],rfl,h3,h4,fun j hj=>?_,fun j o' x' hj=>?_⟩
  ·cases j with
   |zero=>exact hw0
   |succ j=>exact h5 j (by simpa using hj)
  ·cases j with
   |zero=>
    simp at hj;obtain⟨rfl,rfl⟩:=hj;refine⟨hd,hg,fun he=>?_,fun _=>⟨h2,fun y hy=>?_⟩⟩
    ·rw[gd2,hne]at he;cases he
    ·cases hy
   |succ j=>
    have:=h6 j o' x' (by simpa using hj);rw[show i+1+j=i+(j+1) by omega]at this;exact this
 | @weak i o rest s s' x hg hd hne hv hb hh ih=>
  obtain⟨xs,obT,h1,h2,h3,h4,h5,h6⟩:=ih (by rw[St.put_ob];exact hw0);rw[St.put_ob]at h2;refine⟨(o,some x)::xs,fun j=>match j with|0=>s.ob|j+1=>obT j,by simp[h1],rfl,h3,h4,fun j hj=>?_,fun j o' x' hj=>?_⟩
  ·cases j with
   |zero=>exact hw0
   |succ j=>exact h5 j (by simpa using hj)
  ·cases j with
   |zero=>
    simp at hj;obtain⟨rfl,rfl⟩:=hj;refine⟨hd,hg,fun he=>?_,fun _=>⟨h2,fun y hy=>?_⟩⟩
    ·rw[gd2,hne]at he;cases he
    ·cases hy;exact .inr ⟨hv,hb⟩
   |succ j=>
    have:=h6 j o' x' (by simpa using hj);rw[show i+1+j=i+(j+1) by omega]at this;exact this
 | @eff i o rest s s' x ob' hg hd hne hv hw hh ih=>
  obtain⟨xs,obT,h1,h2,h3,h4,h5,h6⟩:=ih (by rw[St.put_ob];exact hw);rw[St.put_ob]at h2;have hst:∀ys t,lk (stps (s.put o.dst x) ys).tm t=lk (stps ((⟨s.tm,ob'⟩:St).put o.dst x) ys).tm t:=fun ys=>bg6 ys _ _ fun t=>by cases o.dst<;>rfl
  refine⟨(o,some x)::xs,fun j=>match j with|0=>s.ob|j+1=>obT j,by simp[h1],rfl,h3,fun t=>(hst xs t).trans (h4 t),fun j hj=>?_,fun j o' x' hj=>?_⟩
  ·cases j with
   |zero=>exact hw0
   |succ j=>exact h5 j (by simpa using hj)
  ·cases j with
   |zero=>
    simp at hj;obtain⟨rfl,rfl⟩:=hj;refine⟨hd,hg,fun he=>⟨x,rfl,?_⟩,fun he=>?_⟩
    ·show EOp C ⟨s.tm,s.ob⟩ o x (obT 0);rw[h2];exact hv
    ·rw[gd2,hne]at he;cases he
   |succ j=>
    obtain⟨a1,a2,a3,a4⟩:=h6 j o' x' (by simpa using hj);rw[show i+1+j=i+(j+1) by omega]at a3 a4;refine⟨a1,a2.look (hst _),fun he=>?_,fun he=>⟨(a4 he).1,fun y hy=>?_⟩⟩
    ·obtain⟨y,hy,hv'⟩:=a3 he;exact⟨y,hy,hv'.look (hst _)⟩
    ·rcases(a4 he).2 y hy with⟨b1,b2⟩|⟨b1,b2⟩
     ·exact .inl ⟨b1,b2.look (hst _)⟩
     ·exact .inr ⟨b1.look (hst _),fun t=>by
       have:=b2 t;rw[←hst]at this;exact this⟩
def RGo(C:Cx)(_id:Nat)(l:List Oper)(E:List Nat)(wob:List aa5)(i:Nat)(ops:List Oper)(s:St)(K:St→Prop):Prop:=∃s',RD C l E wob i ops s s'∧K s'
theorem SD.obEq{C:Cx}{all:Array Oper}{ops:List Oper}{s s':St}(h:SD C all true ops s s'):s'.ob=s.ob:=by
 obtain⟨xs,_,h2,_⟩:=h.data;rw[h2.2,ae3]
theorem RD.of_fix_{C:Cx}{l:List Oper}{E:List Nat}{wob:List aa5}{rest:List Oper}{s':St}{pu:Bool}{ops:List Oper}{s s1:St}(h:SD C l.toArray pu ops s s1):pu=true→∀{i:Nat},(∀j,j<ops.length→E.contains (i+j)=false∧bg3 l E (i+j))→RD C l E wob (i+ops.length) rest s1 s'→RD C l E wob i (ops++rest) s s':=by
 induction h with
 |nil s=>exact fun _ _ _ hr=>hr
 | @vop o r s s1 x hg hd hv hh ih=>
  intro hpu i hf hr;refine .fix hg hd (hf 0 Oc).1 (hf 0 Oc).2 hv (ih hpu (i:=i+1) (fun j hj=>?_) ?_)
  ·rw[show i+1+j=i+(j+1) by omega];exact hf (j+1) (by simpa using hj)
  ·rw[show i+1+r.length=i+(o::r).length by simp;omega];exact hr
 | @skip o r s s1 hg hd hh ih=>
  intro hpu i hf hr;refine .skip hg hd (hf 0 Oc).1 (ih hpu (i:=i+1) (fun j hj=>?_) ?_)
  ·rw[show i+1+j=i+(j+1) by omega];exact hf (j+1) (by simpa using hj)
  ·rw[show i+1+r.length=i+(o::r).length by simp;omega];exact hr
 |eff hp=>intro hpu;rw[hpu]at hp;cases hp
 |ghost hp=>intro hpu;rw[hpu]at hp;cases hp
 |same hs hh ih=>exact fun hpu _ hf hr=>.same hs (ih hpu hf hr)
theorem RD.of_fix{C:Cx}{l:List Oper}{E:List Nat}{wob:List aa5}{ops rest:List Oper}{s s1 s':St}(h:SD C l.toArray true ops s s1){i:Nat}(hf:∀j,j<ops.length→E.contains (i+j)=false∧bg3 l E (i+j))(hr:RD C l E wob (i+ops.length) rest s1 s'):RD C l E wob i (ops++rest) s s':=
 RD.of_fix_ h rfl hf hr
theorem SD.keep{C:Cx}{all:Array Oper}{ops:List Oper}{s s':St}(h:SD C all true ops s s'){t:Nat}(ht:∀o∈ops,o.dst≠some t):lk s'.tm t=lk s.tm t:=by
 obtain⟨xs,h1,h2,_⟩:=h.data;rw[h2.1,ae5 s xs t fun p hp=>ht p.1 (by rw[←h1];exact gc4 hp)]
def bg7:List Oper→Bool
 |[]=>true
 |o::r=>(match o.dst with
  |some d=>r.all fun p=>match p.dst with|some d'=> !Nat.beq d d'|none=>true
  |none=>true) &&bg7 r
theorem RD.of_weak_{C:Cx}{l:List Oper}{E:List Nat}{wob ob:List aa5}{rest:List Oper}{s':St}{pu:Bool}{ops:List Oper}{s0 s1:St}(h:SD C l.toArray pu ops s0 s1):pu=true→bg7 ops=true→(∀t,(lk s1.tm t).below wob.length=true)→s0.ob=wob→
  ∀{i:Nat},(∀t,(lk s0.tm t).below wob.length=true)→(∀j,j<ops.length→E.contains (i+j)=false)→RD C l E wob (i+ops.length) rest ⟨s1.tm,ob⟩ s'→RD C l E wob i (ops++rest) ⟨s0.tm,ob⟩ s':=by
 induction h with
 |nil s=>exact fun _ _ _ _ _ _ _ hr=>hr
 | @vop o r s s1 x hg hd hv hh ih=>
  intro hpu hnd hb1 hob i hb hf hr;simp only[bg7,fz4]at hnd
  have hx:∀d,o.dst=some d→x.below wob.length=true:=by
   intro d hdd;have:=hb1 d;subst hpu
   rw[hh.keep (t:=d) fun p hp hpd=>by
    have h1:=hnd.1;rw[hdd]at h1;have h2:=ga6.1 h1 p hp;rw[hpd]at h2;simp at h2]at this
   rwa[hdd,ae6]at this
  have e:(⟨s.tm,ob⟩:St).put o.dst x=⟨(s.put o.dst x).tm,ob⟩:=by cases o.dst<;>rfl
  refine .weak (ad3.look hg fun _=>rfl) hd (hf 0 Oc) (by rw[←hob];exact hv) hb ?_;rw[e];refine ih hpu hnd.2 hb1 (by rw[St.put_ob];exact hob) (i:=i+1) (fun t=>?_) (fun j hj=>?_) ?_
  ·cases hdd:o.dst with
   |none=>exact hb t
   |some d=>
    simp only[St.put,lk]
    cases Nat.beq d t
    ·exact hb t
    ·exact hx d hdd
  ·rw[show i+1+j=i+(j+1) by omega];exact hf (j+1) (by simpa using hj)
  ·rw[show i+1+r.length=i+(o::r).length by simp;omega];exact hr
 | @skip o r s s1 hg hd hh ih=>
  intro hpu hnd hb1 hob i hb hf hr;simp only[bg7,fz4]at hnd;have e:(⟨s.tm,ob⟩:St).put o.dst .und=⟨(s.put o.dst .und).tm,ob⟩:=by cases o.dst<;>rfl
  refine .skip (ad3.look hg fun _=>rfl) hd (hf 0 Oc) ?_;rw[e];refine ih hpu hnd.2 hb1 (by rw[St.put_ob];exact hob) (i:=i+1) (fun t=>?_) (fun j hj=>?_) ?_
  ·cases hdd:o.dst with
   |none=>exact hb t
   |some d=>
    simp only[St.put,lk]
    cases Nat.beq d t
    ·exact hb t
    ·rfl
  ·rw[show i+1+j=i+(j+1) by omega];exact hf (j+1) (by simpa using hj)
  ·rw[show i+1+r.length=i+(o::r).length by simp;omega];exact hr
 |eff hp=>intro hpu;rw[hpu]at hp;cases hp
 |ghost hp=>intro hpu;rw[hpu]at hp;cases hp
 | @same ops s s2 s1 hs hh ih=>
  intro hpu hnd hb1 hob i hb hf hr;exact .same (s1:=⟨s2.tm,ob⟩) ⟨hs.1,rfl⟩ (ih hpu hnd hb1 (by rw[hs.2];exact hob) (fun t=>by rw[hs.1];exact hb t) hf hr)
theorem RD.of_weak{C:Cx}{l:List Oper}{E:List Nat}{wob ob:List aa5}{ops rest:List Oper}{tm:List (Nat × X)}{s1 s':St}(h:SD C l.toArray true ops ⟨tm,wob⟩ s1)(hnd:bg7 ops=true)(hb1:∀t,(lk s1.tm t).below wob.length=true)
  {i:Nat}(hb:∀t,(lk tm t).below wob.length=true)(hf:∀j,j<ops.length→E.contains (i+j)=false)(hr:RD C l E wob (i+ops.length) rest ⟨s1.tm,ob⟩ s'):RD C l E wob i (ops++rest) ⟨tm,ob⟩ s':=
 RD.of_weak_ (s0:=⟨tm,wob⟩) h rfl hnd hb1 rfl hb hf hr
def TmB(n:Nat):List (Nat × X)→Prop
 |[]=>True
 |(_,x)::r=>x.below n=true∧TmB n r
theorem TmB.lk{n:Nat}:∀{tm:List (Nat × X)},TmB n tm→∀t,(lk tm t).below n=true
 |[],_,t=>rfl
 |(k,x)::r,h,t=>by
  simp only[Go.Abs.lk]
  cases Nat.beq k t
  ·exact TmB.lk h.2 t
  ·exact h.1
def bg8:List Nat→List aa5→List aa5
 |[],ob=>ob
 |i::r,ob=>bg8 r (ob.set i .dead)
section
variable{C:Cx}{r:List It}{Q:Exit→St→Prop}{tm:List (Nat × X)}{ob:List aa5}{id:Nat}{l:List Oper}{E:List Nat}{wob:List aa5}{i:Nat}{ops:List Oper}{K:St→Prop}
theorem qR_(wob:List aa5)(E:List Nat)(ho:ad8 l=true)(hE:bg5 (bf5 l) E=true)(hn:C.base.n0≤wob.length)(hw:Wk wob ob)
  (h:RGo C id l E wob 0 l ⟨tm,ob⟩ (fun s'=>go C r s' Q)):go C (.code (.region id l.toArray true)::r) ⟨tm,ob⟩ Q:=by
 intro a w hr;obtain⟨s',h1,h2⟩:=h;obtain⟨xs,obT,e1,e2,e3,e4,e5,e6⟩:=h1.data hw;have hlen:xs.length=l.length:=by rw[←e1];simp
 have hget:∀i,i<l.length→∃o x,xs[i]? =some (o,x):=fun i hi=>by
  have:i<xs.length:=Oa
  exact⟨xs[i].1,xs[i].2,fy4 this⟩
 have hfin:∀a w,C.Rel ⟨(stps ⟨tm,ob⟩ xs).tm,obT l.length⟩ a w→C.Rel s' a w:=by
  intro a w hr;rw[e3]at hr;exact ad4.rel (s:=⟨(stps ⟨tm,ob⟩ xs).tm,s'.ob⟩) (s':=s') ⟨fun t=>(e4 t).symm,rfl⟩ hr
 refine wp_region_any C.E.hM ?_;refine Dr.all (s:=⟨tm,ob⟩) (xs:=xs) (obT:=obT) (eff:=fun i=>E.contains i) e1 (ae2 ho) (fun i hi he=>?_) (fun i j hij hj h3 h4=>?_) (fun i o x hi=>⟨(e6 i o x hi).1,(e6 i o x hi).2.1⟩) (fun i o x he hi y hy=>?_) (fun i o x he hi=>?_) (fun a w hr=>⟨s',hfin a w hr,h2⟩) _ _ _ _ ?_ ⟨by simp,fun j o' ed ho' hL=>?_,tm,0,ga8 _,fun i hi=>by omega,fun i _ hi _=>?_,?_,fun t _=>rfl,fun j o' x t hj hL=>?_⟩
 ·obtain⟨o,x,hx⟩:=hget i hi;exact((e6 i o x hx).2.2.2 (by rw[gc3];exact he)).1
 ·exact(bg4 (ga6.1 hE j (by simpa using h4)) i h3).1 hij
 ·rcases((e6 i o x hi).2.2.2 (by rw[gc3];exact he)).2 y hy with⟨h3,h4⟩|⟨h3,h4⟩
  ·rw[gc3]at h3;exact .inl ⟨fun e _ he'=>h3 e he',h4⟩
  ·exact .inr fun k hk=>h3.wk (e5 k hk) hn h4
 ·exact(e6 i o x hi).2.2.1 (by rw[gc3];exact he)
 ·refine gb8 (gg5 _ _) ?_;simp
 ·exfalso
  by_cases hlt:j<l.length<;>simp[hlt]at hL
 ·rw[gg4,Array.getElem?_replicate];split<;>rfl
 ·rw[e2];obtain⟨F,σ,r1,r2,r3,hi,r4,r5,hs⟩:=hr;have hext:Ext w F {w with drawn:=w.drawn+1} F:=⟨⟨rfl,rfl,rfl,fz6 _,fun _ _=>rfl⟩,fun _ h=>h,fun _ h=>.inl h,hi.flt⟩;exact⟨F,σ,r1.step hext.below,r2,r3,hi.ext hext,r4,r5,fun t=>(hs t).ext hext hi.flt⟩
 ·exfalso
  by_cases hlt:j<l.length<;>simp[hlt]at hL
theorem qR(wob:List aa5)(E:List Nat)(T:List Nat)(ho:ad8 l=true)(hE:bg5 (bf5 l) E=true)(_hwob:bg8 T ob=wob)(hn:Nat.ble C.base.n0 wob.length=true)(hw:wkP wob.length wob ob)
  (h:RGo C id l E wob 0 l ⟨tm,ob⟩ (fun s'=>go C r s' Q)):go C (.code (.region id l.toArray true)::r) ⟨tm,ob⟩ Q:=qR_ wob E ho hE (gc0 hn) (Wk.mk' hw) h
theorem qR0(E:List Nat)(ho:ad8 l=true)(hE:bg5 (bf5 l) E=true)(hw:wkP (List.replicate C.base.n0 aa5.dead).length (List.replicate C.base.n0 aa5.dead) ob)
  (h:RGo C id l E (List.replicate C.base.n0 aa5.dead) 0 l ⟨tm,ob⟩ (fun s'=>go C r s' Q)):go C (.code (.region id l.toArray true)::r) ⟨tm,ob⟩ Q:=by
 have hn:C.base.n0≤(List.replicate C.base.n0 aa5.dead).length:=Oc
 intro a w hr;obtain⟨s',h1,h2⟩:=h;refine qR_ _ E ho hE hn (Wk.mk' hw) ⟨s',h1,h2⟩ a w hr
theorem qRT(E T:List Nat)(ho:ad8 l=true)(hE:bg5 (bf5 l) E=true)(hn:Nat.ble C.base.n0 (bg8 T ob).length=true)(hw:wkP (bg8 T ob).length (bg8 T ob) ob)
  (h:RGo C id l E (bg8 T ob) 0 l ⟨tm,ob⟩ (fun s'=>go C r s' Q)):go C (.code (.region id l.toArray true)::r) ⟨tm,ob⟩ Q:=qR _ E T ho hE rfl hn hw h
theorem rgN(h:K ⟨tm,ob⟩):RGo C id l E wob i [] ⟨tm,ob⟩ K:=⟨_,.nil _ _,h⟩
def rgFB(l:List Oper)(E:List Nat)(i n:Nat):Bool:=(List.range n).all fun j=>bg2 (bf5 l) E (i+j) && !E.contains (i+j)
def rgWB(E:List Nat)(i n:Nat):Bool:=(List.range n).all fun j=> !E.contains (i+j)
theorem rgF(n:Nat)(hc:rgFB l E i n=true)(hn:Nat.ble n ops.length=true)(h:SGo C l.toArray true (ops.take n) ⟨tm,ob⟩ (fun s1=>RGo C id l E wob (i+n) (ops.drop n) ⟨s1.tm,ob⟩ K)):RGo C id l E wob i ops ⟨tm,ob⟩ K:=by
 obtain⟨s1,h1,s',h2,h3⟩:=h;have hlen:(ops.take n).length=n:=by rw[gb6];have:=gc0 hn;omega
 have e:s1=⟨s1.tm,ob⟩:=by have:=h1.obEq;cases s1;simp at this;rw[this]
 refine⟨s',?_,h3⟩;rw[←gf7 n ops];rw[←e]at h2;refine RD.of_fix h1 (fun j hj=>?_) (by rw[hlen];exact h2);have:=ga6.1 hc j (by rw[gd5];omega);rw[fz4]at this;exact⟨by simpa using this.2,bg4 this.1⟩
theorem rgW(n:Nat)(hc:rgWB E i n=true)(hn:Nat.ble n ops.length=true)(hnd:bg7 (ops.take n)=true)(hb:TmB wob.length tm)(h:SGo C l.toArray true (ops.take n) ⟨tm,wob⟩ (fun s1=>TmB wob.length s1.tm∧RGo C id l E wob (i+n) (ops.drop n) ⟨s1.tm,ob⟩ K)):RGo C id l E wob i ops ⟨tm,ob⟩ K:=by
 obtain⟨s1,h1,hb1,s',h2,h3⟩:=h;have hlen:(ops.take n).length=n:=by rw[gb6];have:=gc0 hn;omega
 refine⟨s',?_,h3⟩;rw[←gf7 n ops];refine RD.of_weak h1 hnd (fun t=>hb1.lk t) (fun t=>hb.lk t) (fun j hj=>?_) (by rw[hlen];exact h2);have:=ga6.1 hc j (by rw[gd5];omega);simpa using this
theorem rgX{o:Oper}{rest:List Oper}{x:X}{ob':List aa5}(hne:E.contains i=true)(hg:ap8 l.toArray tm o=some true)(hd:ac9 C o=true)(hv:EOp C ⟨tm,ob⟩ o x ob')(hw:wkP wob.length wob ob')(h:RGo C id l E wob (i+1) rest ((⟨tm,ob'⟩:St).put o.dst x) K):RGo C id l E wob i (o::rest) ⟨tm,ob⟩ K:=
 let⟨s',h1,h2⟩:=h;⟨s',.eff (ap9 hg) hd hne hv (Wk.mk' hw) h1,h2⟩
end
theorem an6.look{E:Env}{tm tm':List (Nat × X)}{ob:List aa5}{args:List Operand}{ds:List D}(h:an6 ⟨tm,ob⟩ E args ds)(he:∀z∈args,(⟨tm',ob⟩:St).ev E z=(⟨tm,ob⟩:St).ev E z):an6 ⟨tm',ob⟩ E args ds:=by
 induction h with
 |nil=>exact .nil
 |cons h _ ih=>exact .cons (by rw[he _ Oc];exact h) (ih fun z hz=>he z (by simp[hz]))
section
variable{C:Cx}{tm:List (Nat × X)}{ob:List aa5}{id:Nat}{l:List Oper}{E:List Nat}{wob:List aa5}{i:Nat}{rest:List Oper}{K:St→Prop}{o:Oper}{d:Nat}{p:Prop}{x:X}
theorem bg9{y x:X}{p:Prop}(h:fw y=some (p,x)):y=x:=(af3 h).symm
theorem bh0{t ty:TypeId}{y z:Operand}{j off:Nat}{c:VC}{e:TE}(hne:E.contains i=true)(ho:o.op=.store t y z)(hg:ap8 l.toArray tm o=some true)(hdst:o.dst=none)(hy:(⟨tm,ob⟩:St).ev C.E y=.ptr j off)(hz:fw ((⟨tm,ob⟩:St).ev C.E z)=some (p,x))(hh:x.held=true)(hob:ob[j]? =some (.var ty c))
  (he:aa8 C.E.T t=some e)(hsz:Nat.beq x.cells.length e.size=true)(hle:Nat.ble (off+x.cells.length) c.cells.length=true)(hw:wkP wob.length wob (ob.set j (.var ty (am8 c off x))))(h:RGo C id l E wob (i+1) rest ⟨tm,ob.set j (.var ty (am8 c off x))⟩ K):RGo C id l E wob i (o::rest) ⟨tm,ob⟩ K:=by
 refine rgX (x:=.und) (ob':=ob.set j (.var ty (am8 c off x))) hne hg (by simp only[ac9,hdst]) (fun tm' hev=>?_) hw (by rw[hdst];exact h);rw[hdst];have e1:=hev y (by simp[ho,Op.operands]);have e2:=hev z (by simp[ho,Op.operands]);exact an4 (s:=⟨tm',ob⟩) ho hdst (e1.trans hy) (e2.trans (bg9 hz)) hh hob he hsz hle
theorem bh1{t:TypeId}{e:TE}(hne:E.contains i=true)(ho:o.op=.alloc t)(hg:ap8 l.toArray tm o=some true)(hdst:o.dst=some d)(hd:Nat.blt d C.N=true)(he:aa8 C.E.T t=some e)(h1z:al8 e.zero.cells.toList=true)
  (hw:wkP wob.length wob (ob++ [.var t (.cs (e.zero.cells.toList.map ab3))]))(h:RGo C id l E wob (i+1) rest ⟨(d,.ptr ob.length 0)::tm,ob++ [.var t (.cs (e.zero.cells.toList.map ab3))]⟩ K):RGo C id l E wob i (o::rest) ⟨tm,ob⟩ K:=by
 have hdk:ac9 C o=true:=by simp only[ac9,hdst];exact hd
 refine rgX (x:=.ptr ob.length 0) (ob':=ob++ [.var t (.cs (e.zero.cells.toList.map ab3))]) hne hg hdk (fun tm' hev=>?_) hw (by rw[hdst];exact h);exact am6 (s:=⟨tm',ob⟩) ho he h1z hdk
theorem rgBox{t:TypeId}{y:Operand}(hne:E.contains i=true)(ho:o.op=.box t y)(hg:ap8 l.toArray tm o=some true)(hdst:o.dst=some d)(hd:Nat.blt d C.N=true)(hx:fw ((⟨tm,ob⟩:St).ev C.E y)=some (p,x))(hh:x.held=true)
  (hw:wkP wob.length wob (ob++ [.var t (.w x)]))(h:RGo C id l E wob (i+1) rest ⟨(d,.ptr ob.length 0)::tm,ob++ [.var t (.w x)]⟩ K):RGo C id l E wob i (o::rest) ⟨tm,ob⟩ K:=by
 have hdk:ac9 C o=true:=by simp only[ac9,hdst];exact hd
 refine rgX (x:=.ptr ob.length 0) (ob':=ob++ [.var t (.w x)]) hne hg hdk (fun tm' hev=>?_) hw (by rw[hdst];exact h);exact am4 (s:=⟨tm',ob⟩) ho ((hev y (by simp[ho,Op.operands])).trans (bg9 hx)) hh hdk
theorem bh2{t te:TypeId}{y z:Operand}{k j off size:Nat}{xs:List D}{e:D}{tt:TE}(d0:D)(hne:E.contains i=true)(ho:o.op=.store t y z)(hg:ap8 l.toArray tm o=some true)(hdst:o.dst=none)(hy:(⟨tm,ob⟩:St).ev C.E y=.pel k j off size)(hz:toD ((⟨tm,ob⟩:St).ev C.E z)=some e)
  (hob:ob[k]? =some (.row te size xs))(hd:xs[j]? =some d0)(he:aa8 C.E.T t=some tt)(hsz:Nat.beq e.cells.length tt.size=true)(hle:Nat.ble (off+e.cells.length) d0.cells.length=true)(hw:wkP wob.length wob (ob.set k (.row te size (xs.set j (ar8 d0 off e)))))
  (h:RGo C id l E wob (i+1) rest ⟨tm,ob.set k (.row te size (xs.set j (ar8 d0 off e)))⟩ K):RGo C id l E wob i (o::rest) ⟨tm,ob⟩ K:=by
 refine rgX (x:=.und) (ob':=ob.set k (.row te size (xs.set j (ar8 d0 off e)))) hne hg (by simp only[ac9,hdst]) (fun tm' hev=>?_) hw (by rw[hdst];exact h);rw[hdst];have e1:=hev y (by simp[ho,Op.operands]);have e2:=hev z (by simp[ho,Op.operands]);exact as0 (s:=⟨tm',ob⟩) ho hdst (e1.trans hy) ((congrArg toD e2).trans hz) hob hd he hsz hle
theorem bh3{tm2 tm':List (Nat × X)}{ob':List aa5}(h:au9 C o tm ob=some (p,tm',ob'))(he:∀z∈o.op.operands.toList,(⟨tm2,ob⟩:St).ev C.E z=(⟨tm,ob⟩:St).ev C.E z):
  ∃d x,o.dst=some d∧tm'=(d,x)::tm∧au9 C o tm2 ob=some (p,(d,x)::tm2,ob'):=by
 unfold au9 at h ⊢;split at h
 ·rename_i t y z ho
  have e1:=he y (by simp[ho,Op.operands]);have e2:=he z (by simp[ho,Op.operands]);simp only[ho]at*;split at h
  ·rename_i d te ky n kz m hdst hte hy hz
   rw[hdst,hte,e1,e2,hy,hz]
   try simp only
   split at h
   ·rename_i zd hzd
    cases hb:Nat.blt d C.N&&(al8 te.zero.cells.toList&&Nat.beq te.zero.cells.size te.size)with
    |false=>rw[hb]at h;cases h
    |true=>
     rw[hb]at h;simp only[cond_true,Option.some.injEq,Prod.mk.injEq]at h;obtain⟨rfl,rfl,rfl⟩:=h;exact⟨_,_,rfl,rfl,rfl⟩
   ·cases h
  ·cases h
 ·rename_i c ho
  obtain⟨ce,args,tys⟩:=c;obtain⟨args⟩:=args;obtain⟨tys⟩:=tys;simp only[ho]at*;split at h
  ·split at h
   ·rename_i d y z t t' hdst
    have e1:=he y (by simp[Op.operands,Call.operands]);have e2:=he z (by simp[Op.operands,Call.operands]);rw[hdst]
    try simp only
    split at h
    ·rename_i te ys hte hz
     rw[hte,e1,e2,hz]
     try simp only
     split at h
     ·rename_i oi xs hown
      cases hb:Nat.blt d C.N&&(Nat.beq t t'&&(Nat.beq te.zero.cells.size te.size&&Nat.blt 0 te.size))with
      |false=>rw[hb]at h;cases h
      |true=>
       rw[hb]at h;simp only[cond_true,Option.some.injEq,Prod.mk.injEq]at h;obtain⟨rfl,rfl,rfl⟩:=h;exact⟨_,_,rfl,rfl,rfl⟩
     ·cases h
    ·cases h
   ·cases h
  ·cases h
 ·cases h
theorem rgS{tm':List (Nat × X)}{ob':List aa5}(hne:E.contains i=true)(hg:ap8 l.toArray tm o=some true)(hd:ac9 C o=true)(hs:au9 C o tm ob=some (p,tm',ob'))(hp:p)(hw:wkP wob.length wob ob')(h:RGo C id l E wob (i+1) rest ⟨tm',ob'⟩ K):RGo C id l E wob i (o::rest) ⟨tm,ob⟩ K:=by
 obtain⟨d,x,hdst,rfl,-⟩:=bh3 (tm2:=tm) hs fun _ _=>rfl
 refine rgX (x:=x) (ob':=ob') hne hg hd (fun tm2 hev=>?_) hw (by rw[hdst];exact h);obtain⟨d',x',hdst',e,h2⟩:=bh3 (tm2:=tm2) hs hev;rw[hdst]at hdst'
 cases hdst'
 cases e
 rw[hdst];exact av0 h2 hp
end
end Go.Abs
namespace Go.Abs
open Go Go.RowKit
theorem ab2.ren2{E:Env}{B:ab1}{F:Nat→Prop}{σ:Sg}{ob ob':List aa5}{w:World}(hi:ab2 E B F σ ob w)(ks:List Nat)(hn:aw9 ks=true)(hob:aw8 ks ob ks=some ob'):ab2 E ⟨B.O,0,[]⟩ F (ks.map fun k=>σ.getD k (0,0,0)) ob' w:=by
 obtain⟨r1,r2,r3,hi1⟩:=hi.ren ks hn hob;refine⟨hi1.flt,hi1.glob,hi1.len,fun o x p hx hp=>?_,hi1.inj,fun i p h=>absurd h (Nat.not_lt_zero _)⟩;refine(hi1.obs o x p hx hp).own fun hl=>?_
 obtain⟨k,y,g1,g2,g3⟩:=r3 o x hx;rw[(r1 o k g1).2]at hp;exact((hi.obs k y p g2 hp).notO (by rw[g3];exact hl)).1
def ResD(C:Cx)(fn:Func)(s:St)(rx:X):Prop:=(∃q d,fn.results= #[q]∧ao4 C s q=some d∧rx=.d d)∨∃q q' d d',fn.results= #[q,q']∧ao4 C s q=some d∧ao4 C s q'=some d'∧rx=.tup [d,d']
theorem ResD.run{C:Cx}{fn:Func}{s:St}{rx:X}{F:Nat→Prop}{σ σ':Sg}{w:World}{a:Act}(h:ResD C fn s rx)(hi:ab2 C.E C.base F σ s.ob w)(hs:∀t,RdX w F σ (lk s.tm t) (a.tmps.getD t undef)):
  ∃v,(results fn a.tmps).run C.E.P w=.ok v w∧RdX w F σ' rx v:=by
 rcases h with⟨q,d,hr,h,rfl⟩|⟨q,q',d,d',hr,h,h',rfl⟩
 ·obtain⟨v,h1,h2⟩:=ao7 hi hs h;exact⟨v,by rw[ao8,hr];simp[h1],h2⟩
 ·obtain⟨v,h1,h2⟩:=ao7 hi hs h;obtain⟨v',h1',h2'⟩:=ao7 hi hs h';refine⟨.tuple #[v,v'],by rw[ao8,hr];simp[h1,h1'],[v,v'],rfl,rfl,fun i x u hx hu=>?_⟩
  match i with
  |0=>simp at hx hu;subst hx hu;exact h2
  |1=>simp at hx hu;subst hx hu;exact h2'
  |i+2=>simp at hx
def bh4(C:Cx)(fn:Func)(rx:X)(ob':List aa5):Exit→St→Prop
 |.ret,s|.normal,s=>ResD C fn s rx∧∃ks,aw9 ks=true∧((List.range C.base.n0).all fun i=>ks[i]? ==some i)=true∧aw8 ks s.ob ks=some ob'
 |_,_=>False
theorem EvS.enterD{E:Env}{f:FuncId}{fn:Func}{c:Code}{xs:List X}{ob ob':List aa5}{rx:X}{N:Nat}(hf:E.P.funcs[f]? =some fn)(hN:fn.ntmps=N)(hb:fn.body=some c)(hle:Nat.ble xs.length N=true)
  (h:∀(w0:World) (F0 O:Nat→Prop) (σ0:Sg),go ⟨E,w0,F0,N,⟨O,ob.length,σ0⟩⟩ [.code c] ⟨(List.range xs.length).zip xs,ob⟩ (bh4 ⟨E,w0,F0,N,⟨O,ob.length,σ0⟩⟩ fn rx ob')):EvS E f xs ob rx ob':=by
 intro w F σ vs hi hl hr;refine calls_of_wp hf hb ?_;have hgo:=h w F (ba3 w ob σ) σ
 have hlook:∀t,RdX w F σ (lk ((List.range xs.length).zip xs) t) ((vs.toArray++Array.replicate (fn.ntmps-vs.toArray.size) undef).getD t undef):=by
  intro t
  have key:∀(k:Nat) (l:List X),(∀(i:Nat) d,l[i]? =some d→xs[k+i]? =some d)→RdX w F σ (lk ((List.range' k l.length).zip l) t) ((vs.toArray++Array.replicate (fn.ntmps-vs.toArray.size) undef).getD t undef):=by
   intro k l
   induction l generalizing k with
   |nil=>intro _;trivial
   |cons d l ih=>
    intro hk;simp only[fy7,List.range'_succ,List.zip_cons_cons,lk]
    cases hbq:Nat.beq k t with
    |true=>
     obtain rfl:=fz8 hbq;have hd:xs[k]? =some d:=by simpa using hk 0 d rfl
     have hlt:k<vs.length:=by rw[hl];exact(fy9.1 hd).1
     have e:(vs.toArray++Array.replicate (fn.ntmps-vs.toArray.size) undef).getD k undef=vs[k]:=by
      simp[Array.getElem?_append,hlt]
     rw[e];exact hr k d _ hd (fy4 hlt)
    |false=>
     refine ih (k+1) fun i d' hi=>?_
     have:=hk (i+1) d' (by simpa using hi);rw[←this];congr 1;omega
  have:=key 0 xs fun i d hd=>by simpa using hd
  rwa[←List.range_eq_range']at this
 have hle':xs.length≤N:=gc0 hle
 have hrel:Cx.Rel ⟨E,w,F,N,⟨ba3 w ob σ,ob.length,σ⟩⟩ ⟨(List.range xs.length).zip xs,ob⟩ {tmps:=vs.toArray++Array.replicate (fn.ntmps-vs.toArray.size) undef,defers:=[]} w:=by
  refine⟨F,σ,aa7.refl (fun _ h=>h.1),fun _ h=>h,fun _ h=>.inl h,⟨hi.flt,hi.glob,hi.len,fun k x p hx hp=>(hi.obs k x p hx hp).own fun hl ho=>ho.2 ⟨k,x,p,hx,hl,hp,rfl⟩,hi.inj,fun i p _ hp=>hp⟩,rfl,?_,hlook⟩;simp[hN,hl];omega
 refine wp_mono (hgo _ w hrel) ?_;rintro e a' w' ⟨s',hrel',hq⟩
 have fin:(ResD ⟨E,w,F,N,⟨ba3 w ob σ,ob.length,σ⟩⟩ fn s' rx∧∃ks,aw9 ks=true∧((List.range ob.length).all fun i=>ks[i]? ==some i)=true∧aw8 ks s'.ob ks=some ob')→a'.defers=[]∧∃v,(results fn a'.tmps).run E.P w'=.ok v w'∧
   ∃v_1 F' σ',Ending.returned v=.returned v_1∧aa7 (ba3 w ob σ) w w'∧(∀b,F b→F' b)∧(∀b,F' b→F b∨ ¬ ba3 w ob σ b)∧(∀(i:Nat) p,i<ob.length→σ[i]? =some p→σ'[i]? =some p)∧ab2 E ⟨ba3 w ob σ,0,[]⟩ F' σ' ob' w'∧RdX w' F' σ' rx v_1:=by
  rintro⟨hres,ks,hn,hk0,hob'⟩;obtain⟨F',σ',h1,h2,h3,hi',h4,h5,hs⟩:=hrel';obtain⟨v,v1,v2⟩:=hres.run (σ':=ks.map fun k=>σ'.getD k (0,0,0)) hi' hs;refine⟨h4,v,v1,v,F',_,rfl,h1,h2,h3,fun i p hlt hp=>?_,hi'.ren2 ks hn hob',v2⟩;have hk:=ga6.1 hk0 i (gd5.2 hlt);have hk':ks[i]? =some i:=by simpa using hk
  rw[((hi'.ren ks hn hob').1 i i hk').2];exact hi'.pre i p hlt hp
 cases e with
 |normal=>exact fin hq
 |ret=>exact fin hq
 |_=>exact hq.elim
section
variable{C:Cx}{r:List It}{fn:Func}{tm:List (Nat × X)}{ob ob':List aa5}
theorem retD1(ks:List Nat){q:ResultVar}{d d':D}(hn:aw9 ks=true)(hk0:((List.range C.base.n0).all fun i=>ks[i]? ==some i)=true)(hob:aw8 ks ob ks=some ob')(hr:fn.results= #[q])(h:ao4 C ⟨tm,ob⟩ q=some d)(he:d=d'):
  go C (.code .ret::r) ⟨tm,ob⟩ (bh4 C fn (.d d') ob'):=ac4 ⟨.inl ⟨q,d,hr,h,by rw[he]⟩,ks,hn,hk0,hob⟩
theorem retD2(ks:List Nat){q q':ResultVar}{d d':D}{l:List D}(hn:aw9 ks=true)(hk0:((List.range C.base.n0).all fun i=>ks[i]? ==some i)=true)(hob:aw8 ks ob ks=some ob')(hr:fn.results= #[q,q'])(h:ao4 C ⟨tm,ob⟩ q=some d)(h':ao4 C ⟨tm,ob⟩ q'=some d')(he:[d,d']=l):
  go C (.code .ret::r) ⟨tm,ob⟩ (bh4 C fn (.tup l) ob'):=ac4 ⟨.inr ⟨q,q',d,d',hr,h,h',by rw[he]⟩,ks,hn,hk0,hob⟩
end
section
variable{C:Cx}{tm:List (Nat × X)}{ob:List aa5}{id:Nat}{l:List Oper}{E:List Nat}{wob:List aa5}{i:Nat}{rest:List Oper}{K:St→Prop}{o:Oper}{d:Nat}
end
end Go.Abs
namespace Go.Abs
open Go Go.RowKit
def bh5(k:Nat):List D→X
 |[]=>.nilS
 |_::_=>.own k
theorem bh6{k:Nat}{xs:List D}{x:X}(h:x.below k=true):as6 k xs x=x:=by
  cases x with
  |own i=>
    have: ¬ i=k:=by have:i<k:=by simpa[X.below]using h
                    omega
    simp only[as6];rw[show Nat.beq i k=false by rw[←ge5];exact fun e=>this (fz8 e)];rfl
  |pel i j off z=>
    have: ¬ i=k:=by have:i<k:=by simpa[X.below]using h
                    omega
    simp only[as6];rw[show Nat.beq i k=false by rw[←ge5];exact fun e=>this (fz8 e)];rfl
  |sub i j off z=>
    have: ¬ i=k:=by have:i<k:=by simpa[X.below]using h
                    omega
    simp only[as6];rw[show Nat.beq i k=false by rw[←ge5];exact fun e=>this (fz8 e)];rfl
  |st cs=>
    simp only[as6];congr 1
    have:∀c∈cs,frzP k xs c=c:=fun c hc=>by
      have h1:=ga6.1 h c hc
      cases c with
      |own i=>
        have: ¬ i=k:=by have:i<k:=by simpa using h1
                        omega
        simp only[frzP];rw[show Nat.beq i k=false by rw[←ge5];exact fun e=>this (fz8 e)];rfl
      |_=>rfl
    rw[List.map_congr_left this];simp
  |_=>rfl
theorem bh7{k:Nat}{xs:List D}{x:aa5}(h:x.below k=true):as9 k xs x=x:=by
 cases x with
 |var t c=>
  simp only[as9];congr 1
  cases c with
  |w y=>
   simp only[as8];congr 1
   cases y with
   |d d=>rfl
   |_=>exact bh6 (ga6.1 h _ (by simp[VC.cells,X.cells]))
  |cs l=>
   simp only[as8];congr 1;have:∀y∈l,as6 k xs y=y:=fun y hy=>bh6 (ga6.1 h y hy)
   rw[List.map_congr_left this];simp
 |_=>rfl
theorem Le.rowD{C:Cx}{t k:Nat}{te:TypeId}{size:Nat}{ys:List D}{tm:List (Nat × X)}{ob:List aa5}(hk:ob.length=k)(h0:C.base.n0≤k)(hT:∀u,(lk tm u).below k=true)(hO:∀x∈ob,x.below k=true):
  Le C ⟨(t,bh5 k ys)::tm,ob++ay0 te size ys⟩ ⟨(t,.d (.sl ys))::tm,ob⟩:=by
 intro a w hr
 cases ys with
 |nil=>
  obtain⟨F,σ,h1,h2,h3,hi,h4,h5,hs⟩:=hr;refine⟨F,σ,h1,h2,h3,by simpa[ay0]using hi,h4,h5,fun u=>?_⟩;have:=hs u;simp only[lk]at this ⊢
  cases hb:Nat.beq t u with
  |true=>
   rw[hb]at this;have hv:a.tmps.getD u undef=.slice none 0 0:=this;rw[hv];exact Rd.slnil
  |false=>rw[hb]at this;exact this
 |cons y ys=>
  simp only[bh5,ay0]at hr;have hob:(ob++ [aa5.row te size (y::ys)])[k]? =some (.row te size (y::ys)):=by rw[←hk];simp
  have hf:frz k ⟨(t,.own k)::tm,ob++ [aa5.row te size (y::ys)]⟩=some ⟨as7 k (y::ys) ((t,.own k)::tm),((ob++ [aa5.row te size (y::ys)]).map (as9 k (y::ys))).set k .dead⟩:=by
   unfold frz;simp only[hob]
  obtain⟨F,σ,h1,h2,h3,hi,h4,h5,hs⟩:=at4 k hf a w hr
  have hwk:Wk ob (((ob++ [aa5.row te size (y::ys)]).map (as9 k (y::ys))).set k .dead):=by
   refine⟨by simp,fun i x hx _=>?_⟩;have hlt:i<k:=by rw[←hk];exact(fy9.1 hx).1
   have hm:=fy6 hx;refine⟨?_,by rw[hk];exact hO x hm⟩;rw[gj0 Oa,fz1,ga0 Oa,hx,gc1,bh7 (hO x hm)]
  refine⟨F,σ.take ob.length,h1,h2,h3,hi.wk hwk Oa,h4,h5,fun u=>?_⟩;have:=hs u;rw[at2]at this;simp only[lk]at this ⊢
  cases hb:Nat.beq t u with
  |true=>
   rw[hb]at this;simp only[cond_true,as6]at this;rw[show Nat.beq k k=true by simp]at this;exact this
  |false=>
   rw[hb]at this;simp only[cond_false]at this ⊢;rw[bh6 (hT u)]at this;rw[hk];exact this.take (hT u)
section
variable{C:Cx}{r:List It}{Q:Exit→St→Prop}{tm:List (Nat × X)}{ob:List aa5}
end
end Go.Abs
namespace Go.Abs
open Go Go.RowKit Go.ChangeShapes Go.WideShapes
theorem bh8{H:Type}{enc:TypeId × Value→H}{P:Program}{w:World}{sp:Nat→Bool}{held:Bool}{r:Reach}{base:Nat}(l:List TypeId)(hc:az3 P l=true){t:TypeId}{v:Value}{d:DataW H}{ps:List MemPlace}(ht:t∈l)
  (hok:Value.okWide P w r base t v)(h:DataW.Trod enc P w 0 sp held t v d ps):∃x,Rd w (F0 w) x v∧az0 P t x∧az1 d x:=by
 obtain⟨fuel,hf⟩:=h;obtain⟨x,hx⟩:=az6 l hc fuel t _ d ps ht hf;refine⟨x,?_,hx.ty,hx.says⟩;have hct:=ga6.1 hc t ht
 have one:v.cells= #[v]→x.one=true→Rd w (F0 w) x v:=by
  intro hv hx1;have hxc:x.cells=[x]:=by cases x<;>simp_all [D.one,D.cells]
  exact hx.rd 0 x v (by rw[hxc];rfl) (by rw[hv];rfl)
 have agg:∀ds:List D,x=.agg ds→(∃cs,v=.agg cs∧cs.size=P.cellsOf t)→Rd w (F0 w) x v:=by
  rintro ds rfl ⟨cs,rfl,-⟩;have hl:=hx.len;have hrd:=hx.rd;simp only[D.cells,Value.cells]at hl hrd;have:=Rd.agg (w:=w) (F:=F0 w) ds cs.toList hl hx.one hrd;simpa using this
 cases hx.ty with
 |bool b hu=>obtain⟨b',rfl⟩:=okWide_bool hu hok;exact one rfl rfl
 |int n hu=>obtain⟨n',rfl⟩:=okWide_int hu hok;exact one rfl rfl
 |str s hu=>obtain⟨s',rfl⟩:=okWide_string hu hok;exact one rfl rfl
 |sl xs hu hxs=>obtain⟨a,n,c,rfl⟩:=okWide_slice hu hok;exact one rfl rfl
 |struct parts hu hl hp=>exact agg _ rfl (okWide_struct hu hok)
 |arr parts hu hl hp=>
  refine agg _ rfl ?_;unfold Value.okWide at hok;rw[hu]at hok;obtain⟨cs,h1,h2,-⟩:=hok;exact⟨cs,h1,h2⟩
theorem bh9{H:Type}{enc:TypeId × Value→H}{P:Program}{w:World}{sp:Nat→Bool}{held:Bool}{r:Reach}{base:Nat}(l:List TypeId)(hc:az3 P l=true):∀{ts:List TypeId} {vs:List Value} {ds:List (DataW H)} {ps:List MemPlace},
  DataW.TrodAll enc P w 0 sp held ts vs ds ps→(∀t∈ts,t∈l)→(∀(j:Nat) t v,ts[j]? =some t→vs[j]? =some v→Value.okWide P w r base t v)→
  ∃xs:List D,xs.length=vs.length∧vs.length=ts.length∧(∀(i:Nat) x v,xs[i]? =some x→vs[i]? =some v→Rd w (F0 w) x v)∧∀(i:Nat) t x,ts[i]? =some t→xs[i]? =some x→az0 P t x∧∀d,ds[i]? =some d→az1 d x
 |[],[],[],_,_,_,_=>⟨[],rfl,rfl,fun i x v h=>by simp at h,fun i t x h=>by simp at h⟩
 |[],[],_::_,_,h,_,_=>h.elim
 |[],_::_,_,_,h,_,_=>h.elim
 |_::_,[],_,_,h,_,_=>h.elim
 |_::_,_::_,[],_,h,_,_=>h.elim
 |t::ts,v::vs,d::ds,ps,h,ht,hok=>by
  obtain⟨p,q,h1,h2,-⟩:=h;obtain⟨x,x1,x2,x5⟩:=bh8 l hc (ht t Oc) (hok 0 t v rfl rfl) h1;obtain⟨xs,a1,a2,a3,a4⟩:=bh9 l hc h2 (fun t' ht'=>ht t' (by simp[ht'])) (fun j t' v' h1 h2=>hok (j+1) t' v' (by simpa using h1) (by simpa using h2));refine⟨x::xs,by simp[a1],by simp[a2],fun i y u hy hu=>?_,fun i t' y hy hu=>?_⟩
  ·cases i with
   |zero=>simp at hy hu;subst hy hu;exact x1
   |succ i=>exact a3 i y u (by simpa using hy) (by simpa using hu)
  ·cases i with
   |zero=>simp at hy hu;subst hy hu;exact⟨x2,fun d' hd=>by simp at hd;subst hd;exact x5⟩
   |succ i=>exact a4 i t' y (by simpa using hy) (by simpa using hu)
theorem bi1{H:Type}{enc:TypeId × Value→H}{C:Checked}{os:Os}{f:FuncId}{fn:Func}{s0:ChangeSpec}{s:OpenSpec}{kf:(H:Type)→List (DataW H)→Bool}{laid:List (String × DataW Unit)}{tb:TypeId}(F:Stop.Interp)(l:List TypeId)(hs0:s.at F=s0)(hk:s.cond=some kf)(hvs:s.vars=[])
  (own:ownKnob C.prog.godebug=none)(started:os.Started)(noInit:C.prog.inits.idxOf? f=none)(hfn:C.prog.funcs[f]? =some fn)
  (witness:∃(w:World) (tape:Tape) (i:Input),w.os=os∧(w.forCall tape i).Shaped C.prog∧i.vars=[]∧Input.okWide C.prog (w.forCall tape i) .any w.heap.size f i∧
   s.preRow enc C.prog fn [] false laid (w.forCall tape i).memory i.args∧({}:Assume).holds C.prog (lone (Frame.enter C.prog f i.args .normal) [] (w.forCall tape i)))
  (hvars:s0.vars=[])(hres:fn.resultTypes= #[tb])(htb:C.prog.underlying tb=some .bool)(hs:∀ds:List (DataW H),ds.length=fn.params.size→s0.fn H ds={results:=[.lit (.bool true)],args:=ds})
  (hlaid:laidOutB C.prog=true)(hr:(fn.params.toList.all fun t=>C.prog.readableRec t&&decide (t<C.prog.types.size))=true)(hc:az3 C.prog l=true)(hin:(fn.params.toList.all fun t=>l.contains t)=true)
  (hcall:∀(W:World) (args:Array Value) (xs:List D) (ds:List (DataW H)),laidMetH C.prog laid W→W.ShapedOpen C.prog→xs.length=args.size→args.size=fn.params.size→(∀(i:Nat) x v,xs[i]? =some x→args.toList[i]? =some v→Rd W (F0 W) x v)→
   (∀(i:Nat) t x,fn.params.toList[i]? =some t→xs[i]? =some x→az0 C.prog t x∧∀d,ds[i]? =some d→az1 d x)→ds.length=fn.params.size→kf H ds=true→Calls C.prog f args W fun e W'=>e=.returned (.bool true)∧Below W.heap.size W W'):
  ReturnsInHanded {} C os f .any (s.preRow enc C.prog fn [] false laid) ((s.at F).post enc C.prog fn false true false false):=by
 subst hs0;refine returnsInHanded_of_row own started noInit hfn witness ?_;intro W base args ds gs before hval hw _ hcond _ hlm hsh _;have hk':=hcond kf hk;obtain⟨p,q,hA,hV,-,-,-⟩:=id hw;rw[hvs]at hV;obtain⟨rfl,rfl⟩:=trodVars_none hV;rw[ge7]at hk';obtain⟨xs,x1,x2,x3,x4⟩:=bh9 (r:=.any) (base:=base) l hc hA (fun t ht=>by simpa using ga6.1 hin t ht) (fun j t v h1 h2=>hval j t v (by simpa using h1) (by simpa using h2));have hsize:args.size=fn.params.size:=by simpa using x2
 have hdl:ds.length=fn.params.size:=by
  have key:∀{ts:List TypeId} {vs:List Value} {ds:List (DataW H)} {ps:List MemPlace},DataW.TrodAll enc C.prog W 0 (fun _=>true) true ts vs ds ps→ds.length=ts.length:=by
   intro ts
   induction ts with
   |nil=>intro vs ds ps h;cases vs<;>cases ds<;>simp[DataW.TrodAll]at h ⊢
   |cons t ts ih=>
    intro vs ds ps h
    cases vs<;>cases ds<;>simp[DataW.TrodAll]at h
    obtain⟨p,-,q,h2,-⟩:=h;simp[ih h2]
  simpa using key hA
 refine(hcall W args xs ds hlm hsh (by simpa using x1) hsize x3 x4 hdl hk').mono fun e W' ⟨he,hb⟩=>?_
 subst he;exact⟨_,rfl,az9 hlaid (by rw[hvars,←hvs];exact hw) hvars hres htb hs hr hb⟩
theorem witness_cond{H:Type}{enc:TypeId × Value→H}{C:Checked}{os:Os}{f:FuncId}{fn:Func}{s:OpenSpec}{kf:(H:Type)→List (DataW H)→Bool}(hk:s.cond=some kf){laid:List (String × DataW Unit)}(w0:World)(args:Array Value)(fuel:Nat)(hos:w0.os=os)
  (hsh:(w0.forCall (fun _ _=>0) ⟨#[],args,[]⟩).Shaped C.prog)(hok:Input.okWideB C.prog (w0.forCall (fun _ _=>0) ⟨#[],args,[]⟩) f ⟨#[],args,[]⟩=true)
  (hx:(match DataW.whole enc C.prog (w0.forCall (fun _ _=>0) ⟨#[],args,[]⟩).memory fn.params.toList s.vars false args.toList fuel with|some x=>kf H (x.1++x.2.1)|none=>false)=true)
  (hsz:s.bare.sizedB enc C.prog fn false (w0.forCall (fun _ _=>0) ⟨#[],args,[]⟩).memory args fuel=true)(hl:laidMetH C.prog laid (w0.forCall (fun _ _=>0) ⟨#[],args,[]⟩).memory):
  ∃(w:World) (tape:Tape) (i:Input),w.os=os∧(w.forCall tape i).Shaped C.prog∧i.vars=[]∧Input.okWide C.prog (w.forCall tape i) .any w.heap.size f i∧
   s.preRow enc C.prog fn [] false laid (w.forCall tape i).memory i.args∧({}:Assume).holds C.prog (lone (Frame.enter C.prog f i.args .normal) [] (w.forCall tape i)):=by
 cases h:DataW.whole enc C.prog (w0.forCall (fun _ _=>0) ⟨#[],args,[]⟩).memory fn.params.toList s.vars false args.toList fuel with
 |none=>rw[h]at hx;cases hx
 |some x=>
  rw[h]at hx;refine⟨w0,fun _ _=>0,⟨#[],args,[]⟩,hos,hsh,(Input.okWide_of_okWideB (base:=0) hok).1,(Input.okWide_of_okWideB hok).2,⟨⟨(OpenSpec.pre_some hk [] false _ _).2 ⟨x.1,x.2.1,x.2.2,DataW.Whole_of_whole h,rfl,hx⟩,hl⟩,sizedMet_of_sizedB hsz⟩,?_⟩;simp only[Assume.holds];exact⟨by simp,by simp,fun _=>Modest.zero,by simp,by simp⟩
mutual
def bi2:D→Nat
 |.imm v=>(match v with|.string s=>s.size+1|_=>1)
 |.sl xs=>bi3 xs+1
 |.agg cs=>bi3 cs
def bi3:List D→Nat
 |[]=>0
 |d::r=>bi2 d+bi3 r
end
theorem bi4:∀(a b:List D),bi3 (a++b)=bi3 a+bi3 b
 |[],b=>by rw[gb7,show bi3 []=0 by rw[bi3]];omega
 |d::r,b=>by rw[gb4,bi3,bi3,bi4 r b];omega
theorem bi5(d:D):bi3 d.cells=bi2 d:=by
 cases d with
 |imm v=>rw[show(D.imm v).cells=[.imm v]from rfl,bi3,show bi3 []=0 by rw[bi3]];omega
 |sl xs=>rw[show(D.sl xs).cells=[.sl xs]from rfl,bi3,show bi3 []=0 by rw[bi3]];omega
 |agg cs=>rw[show(D.agg cs).cells=cs from rfl,bi2]
theorem bi6:∀parts:List D,bi3 (parts.flatMap D.cells)=bi3 parts
 |[]=>rfl
 |d::r=>by rw[gc7,bi4,bi5,bi6 r,bi3]
end Go.Abs
namespace Go.Abs
open Go
section
variable{C:Cx}{all:Array Oper}{pu:Bool}{K:St→Prop}{rest:List Oper}{o:Oper}{tm tm':List (Nat × X)}{ob ob':List aa5}{r:List It}{s:St}{Q:Exit→St→Prop}
theorem zS{p:Prop}(hv:av1 C all pu o tm ob=some (p,tm',ob'))(h:SGo C all pu rest ⟨tm',ob'⟩ K)
  (hp:p:=by first|exact True.intro|rfl|assumption|omega|(simp only[inR];omega)|((show _≤(9223372036854775807:Nat));(try simp only[ByteArray.size_append]);omega)|exact av7 Oa Oa|exact av8 Oa Oa|exact⟨rfl,by decide,by decide⟩):
  SGo C all pu (o::rest) ⟨tm,ob⟩ K:=qS hv hp h
theorem zT{c:Operand}{x y:Code}{b:Bool}(hc:s.ev C.E c=.d (.imm (.bool b)))(ht:go C (.code x::r) s Q)(hb:b=true:=by first|rfl|assumption):go C (.code (.cond c x y)::r) s Q:=qT hc hb ht
theorem zU{c:Operand}{x y:Code}{b:Bool}(hc:s.ev C.E c=.d (.imm (.bool b)))(hf:go C (.code y::r) s Q)(hb:b=false:=by first|rfl|assumption):go C (.code (.cond c x y)::r) s Q:=qU hc hb hf
theorem zX{j t:Nat}{pol b:Bool}{q:Oper}(hg:o.guard=some (j,pol))(hj:all[j]? =some q)(hq:q.dst=some t)(hb:lk tm t=.d (.imm (.bool b)))
  (h:SGo C all pu (o::rest) ⟨(t,.d (.imm (.bool true)))::tm,ob⟩ K)(he:b=true:=by assumption):SGo C all pu (o::rest) ⟨tm,ob⟩ K:=qX hg hj hq hb he h
theorem zW{j t:Nat}{pol b:Bool}{q:Oper}(hg:o.guard=some (j,pol))(hj:all[j]? =some q)(hq:q.dst=some t)(hb:lk tm t=.d (.imm (.bool b)))
  (h:SGo C all pu (o::rest) ⟨(t,.d (.imm (.bool false)))::tm,ob⟩ K)(he:b=false:=by assumption):SGo C all pu (o::rest) ⟨tm,ob⟩ K:=qX hg hj hq hb he h
end
theorem zD{d:D}:d=d:=rfl
theorem zL{l:List D}:l=l:=rfl
theorem zle{C:Cx}{tm tm':List (Nat × X)}{ob ob':List aa5}(n:Nat)(hn:Nat.ble C.base.n0 n=true:=by exact rfl)(hob:ob'=ob.take n:=by exact rfl)
  (ht:TmLe tm n tm':=by repeat(first|exact trivial|refine⟨⟨rfl,rfl⟩,?_⟩))(ho:ap7 n ob':=by repeat(first|exact trivial|refine⟨rfl,?_⟩)):Le C ⟨tm,ob⟩ ⟨tm',ob'⟩:=Le.of' n hn hob ht ho
theorem bi7{C:Cx}{tm tm':List (Nat × X)}{ob ob':List aa5}(ks:List Nat)(hn:aw9 ks=true:=by exact rfl)(hk0:((List.range C.base.n0).all fun i=>ks[i]? ==some i)=true:=by exact rfl)
  (hob:aw8 ks ob ks=some ob':=by exact rfl)(ht:ax8 tm ks tm':=by repeat(first|exact trivial|refine⟨rfl,?_⟩)):Le C ⟨tm,ob⟩ ⟨tm',ob'⟩:=Le.ren ks hn hk0 hob ht
end Go.Abs
namespace Go.Abs
open Go Go.RowKit
theorem RdX.isBelow{w:World}{F:Nat→Prop}{σ:Sg}{x:X}{v:Value}(h:RdX w F σ x v):x.below σ.length=true:=by
 have key:∀(o:Nat) (p:Nat × Nat × Nat),σ[o]? =some p→Nat.blt o σ.length=true:=fun o p h=>by
  have:=(fy9.1 h).1;simpa using this
 have caps:∀(cs:List Cap) (us:List Value),cs.length=us.length→(∀(i:Nat) c u,cs[i]? =some c→us[i]? =some u→aa4 w F σ c u)→∀c∈cs,c.x.below σ.length=true:=by
  intro cs us hl hr c hc;obtain⟨i,hi,he⟩:=List.mem_iff_getElem.1 hc;have h1:=hr i c us[i] (by rw[←he];exact fy4 hi) (fy4 Oa)
  cases c with
  |d x=>rfl
  |ptr o off=>obtain⟨b,c,n,h2,-⟩:=h1;exact key _ _ h2
  |own o=>obtain⟨b,c,n,h2,-⟩:=h1;exact key _ _ h2
 cases x with
 |ptr o off=>obtain⟨b,c,n,h1,-⟩:=h;exact key _ _ h1
 |own o=>obtain⟨b,c,n,h1,-⟩:=h;exact key _ _ h1
 |mp o=>obtain⟨b,c,n,h1,-⟩:=h;exact key _ _ h1
 |pel o i off size=>obtain⟨b,c,n,h1,-⟩:=h;exact key _ _ h1
 |sub o i off size=>obtain⟨b,c,n,h1,-⟩:=h;exact key _ _ h1
 |clo f cs=>
  obtain⟨us,-,hl,hr⟩:=h;refine ga6.2 fun c hc=>?_
  have:=caps cs us hl hr c hc
  cases c with
  |d x=>rfl
  |ptr o off=>exact this
  |own o=>exact this
 |bnd f cs=>
  obtain⟨us,-,hl,hr⟩:=h;refine ga6.2 fun c hc=>?_
  have:=caps cs us hl hr c hc
  cases c with
  |d x=>rfl
  |ptr o off=>exact this
  |own o=>exact this
 |st cs=>
  obtain⟨us,-,hl,-,hr⟩:=h;refine ga6.2 fun c hc=>?_
  have:=caps cs us hl hr c hc
  cases c with
  |d x=>rfl
  |ptr o off=>exact this
  |own o=>exact this
 |_=>rfl
theorem Cx.Rel.tmBelow{C:Cx}{s:St}{a:Act}{w:World}(h:C.Rel s a w)(t:Nat):(lk s.tm t).below s.ob.length=true:=by
 obtain⟨F,σ,-,-,-,hi,-,-,hs⟩:=h;rw[←hi.len];exact(hs t).isBelow
theorem ap7.all{n:Nat}:∀{l:List aa5},ap7 n l→∀x∈l,x.below n=true
 |a::r,h,x,hx=>by
  rcases fz0.1 hx with rfl|hx
  ·exact h.1
  ·exact ap7.all h.2 x hx
theorem EOp.data{C:Cx}{tm:List (Nat × X)}{ob ob1:List aa5}{o:Oper}{d:Nat}{te:TypeId}{size:Nat}{xs:List D}(hdst:o.dst=some d)(h0:C.base.n0≤ob1.length)(hlen:ob1.length=ob.length)(hO:∀x∈ob1,x.below ob1.length=true)(hx:xs≠ [])
  (h:EOp C ⟨tm,ob⟩ o (.own ob1.length) (ob1++ [.row te size xs])):EOp C ⟨tm,ob⟩ o (.d (.sl xs)) ob1:=by
 intro tm' hev w a K Q hrel hK;refine h tm' hev w a K Q hrel fun a' w' hr'=>hK a' w' ?_
 rw[hdst]at hr' ⊢
 cases xs with
 |nil=>exact absurd rfl hx
 |cons y ys=>exact Le.rowD (k:=ob1.length) (ys:=y::ys) rfl h0 (fun u=>by rw[hlen];exact hrel.tmBelow u) hO a' w' hr'
def bi8(n:Nat):List (Nat × X)→List (Nat × X)
 |[]=>[]
 |(t,x)::r=>(t,bif x.below n then x else .top)::bi8 n r
theorem bi9(n:Nat):∀(tm:List (Nat × X)) (t:Nat),lk (bi8 n tm) t=lk tm t∨lk (bi8 n tm) t=.top
 |[],t=>.inl rfl
 |(k,x)::r,t=>by
  simp only[bi8,lk]
  cases Nat.beq k t with
  |false=>exact bi9 n r t
  |true=>cases x.below n<;>simp
theorem bj1(n:Nat):∀(tm:List (Nat × X)) (t:Nat),(lk (bi8 n tm) t).below n=true
 |[],t=>rfl
 |(k,x)::r,t=>by
  simp only[bi8,lk]
  cases Nat.beq k t with
  |false=>exact bj1 n r t
  |true=>
   cases h:x.below n with
   |true=>exact h
   |false=>rfl
theorem VOp.dim{C:Cx}{tm:List (Nat × X)}{ob:List aa5}{o:Oper}{x:X}{n:Nat}(h:VOp C ⟨bi8 n tm,ob⟩ o x):VOp C ⟨tm,ob⟩ o x:=by
 intro F σ w a K Q hi hr hK;refine h F σ w a K Q hi (fun y hy=>?_) hK;have:=hr y hy
 cases y with
 |tmp t=>
  rcases bi9 n tm t with e|e
  ·show RdX w F σ (lk (bi8 n tm) t) _;rw[e];exact this
  ·show RdX w F σ (lk (bi8 n tm) t) _;rw[e];trivial
 |_=>exact this
inductive RDw(C:Cx)(l:List Oper)(E:List Nat)(wob:List aa5):Nat→List Oper→St→St→Prop
 |nil (i:Nat) (s:St):RDw C l E wob i [] s s
 |same {i:Nat} {ops:List Oper} {s s1 s':St} (hs:ad4 s s1) (h:RDw C l E wob i ops s1 s'):RDw C l E wob i ops s s'
 |fix {i:Nat} {o:Oper} {rest:List Oper} {s s':St} {x:X} (hg:ad3 l.toArray s o true) (hd:ac9 C o=true) (hne:E.contains i=false) (hf:bg3 l E i) (hv:VOp C s o x) (h:RDw C l E wob (i+1) rest (s.put o.dst x) s'):RDw C l E wob i (o::rest) s s'
 |skip {i:Nat} {o:Oper} {rest:List Oper} {s s':St} (hg:ad3 l.toArray s o false) (hd:ac9 C o=true) (hne:E.contains i=false) (h:RDw C l E wob (i+1) rest (s.put o.dst .und) s'):RDw C l E wob i (o::rest) s s'
 |weak {i:Nat} {o:Oper} {rest:List Oper} {s s':St} {x:X} (hg:ad3 l.toArray s o true) (hd:ac9 C o=true) (hne:E.contains i=false) (hv:∀ob',Wk wob ob'→VOp C ⟨s.tm,ob'⟩ o x) (h:RDw C l E wob (i+1) rest (s.put o.dst x) s'):RDw C l E wob i (o::rest) s s'
 |eff {i:Nat} {o:Oper} {rest:List Oper} {s s':St} {x:X} {ob':List aa5} (hg:ad3 l.toArray s o true) (hd:ac9 C o=true) (hne:E.contains i=true) (hv:EOp C s o x ob') (hw:Wk wob ob') (h:RDw C l E wob (i+1) rest ((⟨s.tm,ob'⟩:St).put o.dst x) s'):RDw C l E wob i (o::rest) s s'
theorem RDw.dataE{C:Cx}{l:List Oper}{E:List Nat}{wob:List aa5}{i:Nat}{ops:List Oper}{s s':St}(h:RDw C l E wob i ops s s')(hw0:Wk wob s.ob):
  ∃(xs:List (Oper × Option X)) (obT:Nat→List aa5),xs.map (·.1)=ops∧obT 0=s.ob∧obT ops.length=s'.ob∧(∀t,lk (stps s xs).tm t=lk s'.tm t)∧(∀j,j≤ops.length→Wk wob (obT j))∧
   ∀(j:Nat) o x,xs[j]? =some (o,x)→ac9 C o=true∧ad3 l.toArray (stps s (xs.take j)) o x.isSome∧
    (E.contains (i+j)=true→∃y,x=some y∧EOp C ⟨(stps s (xs.take j)).tm,obT j⟩ o y (obT (j+1)))∧
    (E.contains (i+j)=false→obT (j+1)=obT j∧∀y,x=some y→(bg3 l E (i+j)∧VOp C ⟨(stps s (xs.take j)).tm,obT j⟩ o y)∨∀ob',Wk wob ob'→VOp C ⟨(stps s (xs.take j)).tm,ob'⟩ o y):=by
 induction h with
 |nil i s=>exact⟨[],fun _=>s.ob,rfl,rfl,rfl,fun _=>rfl,fun _ _=>hw0,fun j o x h=>by simp at h⟩
 | @same i ops s s1 s' hs hh ih=>
  obtain⟨xs,obT,h1,h2,h3,h4,h5,h6⟩:=ih (by rw[hs.2];exact hw0);have hst:∀ys t,lk (stps s ys).tm t=lk (stps s1 ys).tm t:=fun ys=>bg6 ys s s1 fun t=>(hs.1 t).symm
  refine⟨xs,obT,h1,h2.trans hs.2,h3,fun t=>(hst xs t).trans (h4 t),h5,fun j o x hj=>?_⟩;obtain⟨a1,a2,a3,a4⟩:=h6 j o x hj;refine⟨a1,a2.look (hst _),fun he=>?_,fun he=>⟨(a4 he).1,fun y hy=>?_⟩⟩
  ·obtain⟨y,hy,hv⟩:=a3 he;exact⟨y,hy,hv.look (hst _)⟩
  ·rcases(a4 he).2 y hy with⟨b1,b2⟩|b1
   ·exact .inl ⟨b1,b2.look (hst _)⟩
   ·exact .inr fun ob' hw'=>(b1 ob' hw').look (hst _)
 | @fix i o rest s s' x hg hd hne hf hv hh ih=>
  obtain⟨xs,obT,h1,h2,h3,h4,h5,h6⟩:=ih (by rw[St.put_ob];exact hw0);rw[St.put_ob]at h2;refine⟨(o,some x)::xs,fun j=>match j with|0=>s.ob|j+1=>obT j,by simp[h1],rfl,h3,h4,fun j hj=>?_,fun j o' x' hj=>?_⟩
  ·cases j with
   |zero=>exact hw0
   |succ j=>exact h5 j (by simpa using hj)
  ·cases j with
   |zero=>
    simp at hj;obtain⟨rfl,rfl⟩:=hj;refine⟨hd,hg,fun he=>?_,fun _=>⟨h2,fun y hy=>?_⟩⟩
    ·rw[gd2,hne]at he;cases he
    ·cases hy;exact .inl ⟨hf,hv⟩
   |succ j=>
    have:=h6 j o' x' (by simpa using hj);rw[show i+1+j=i+(j+1) by omega]at this;exact this
 | @skip i o rest s s' hg hd hne hh ih=>
  obtain⟨xs,obT,h1,h2,h3,h4,h5,h6⟩:=ih (by rw[St.put_ob];exact hw0);rw[St.put_ob]at h2;refine⟨(o,none)::xs,fun j=>match j with|0=>s.ob|j+1=>obT j,by simp[h1],rfl,h3,h4,fun j hj=>?_,fun j o' x' hj=>?_⟩
  ·cases j with
   |zero=>exact hw0
   |succ j=>exact h5 j (by simpa using hj)
  ·cases j with
   |zero=>
    simp at hj;obtain⟨rfl,rfl⟩:=hj;refine⟨hd,hg,fun he=>?_,fun _=>⟨h2,fun y hy=>?_⟩⟩
    ·rw[gd2,hne]at he;cases he
    ·cases hy
   |succ j=>
    have:=h6 j o' x' (by simpa using hj);rw[show i+1+j=i+(j+1) by omega]at this;exact this
 | @weak i o rest s s' x hg hd hne hv hh ih=>
  obtain⟨xs,obT,h1,h2,h3,h4,h5,h6⟩:=ih (by rw[St.put_ob];exact hw0);rw[St.put_ob]at h2;refine⟨(o,some x)::xs,fun j=>match j with|0=>s.ob|j+1=>obT j,by simp[h1],rfl,h3,h4,fun j hj=>?_,fun j o' x' hj=>?_⟩
  ·cases j with
   |zero=>exact hw0
   |succ j=>exact h5 j (by simpa using hj)
  ·cases j with
   |zero=>
    simp at hj;obtain⟨rfl,rfl⟩:=hj;refine⟨hd,hg,fun he=>?_,fun _=>⟨h2,fun y hy=>?_⟩⟩
    ·rw[gd2,hne]at he;cases he
    ·cases hy;exact .inr hv
   |succ j=>
    have:=h6 j o' x' (by simpa using hj);rw[show i+1+j=i+(j+1) by omega]at this;exact this
 | @eff i o rest s s' x ob' hg hd hne hv hw hh ih=>
  obtain⟨xs,obT,h1,h2,h3,h4,h5,h6⟩:=ih (by rw[St.put_ob];exact hw);rw[St.put_ob]at h2;have hst:∀ys t,lk (stps (s.put o.dst x) ys).tm t=lk (stps ((⟨s.tm,ob'⟩:St).put o.dst x) ys).tm t:=fun ys=>bg6 ys _ _ fun t=>by cases o.dst<;>rfl
  refine⟨(o,some x)::xs,fun j=>match j with|0=>s.ob|j+1=>obT j,by simp[h1],rfl,h3,fun t=>(hst xs t).trans (h4 t),fun j hj=>?_,fun j o' x' hj=>?_⟩
  ·cases j with
   |zero=>exact hw0
   |succ j=>exact h5 j (by simpa using hj)
  ·cases j with
   |zero=>
    simp at hj;obtain⟨rfl,rfl⟩:=hj;refine⟨hd,hg,fun he=>⟨x,rfl,?_⟩,fun he=>?_⟩
    ·show EOp C ⟨s.tm,s.ob⟩ o x (obT 0);rw[h2];exact hv
    ·rw[gd2,hne]at he;cases he
   |succ j=>
    obtain⟨a1,a2,a3,a4⟩:=h6 j o' x' (by simpa using hj);rw[show i+1+j=i+(j+1) by omega]at a3 a4;refine⟨a1,a2.look (hst _),fun he=>?_,fun he=>⟨(a4 he).1,fun y hy=>?_⟩⟩
    ·obtain⟨y,hy,hv'⟩:=a3 he;exact⟨y,hy,hv'.look (hst _)⟩
    ·rcases(a4 he).2 y hy with⟨b1,b2⟩|b1
     ·exact .inl ⟨b1,b2.look (hst _)⟩
     ·exact .inr fun ob2 hw2=>(b1 ob2 hw2).look (hst _)
def RGw(C:Cx)(_id:Nat)(l:List Oper)(E:List Nat)(wob:List aa5)(i:Nat)(ops:List Oper)(s:St)(K:St→Prop):Prop:=∃s',RDw C l E wob i ops s s'∧K s'
theorem RDw.ofFixE_{C:Cx}{l:List Oper}{E:List Nat}{wob:List aa5}{rest:List Oper}{s':St}{pu:Bool}{ops:List Oper}{s s1:St}(h:SD C l.toArray pu ops s s1):pu=true→∀{i:Nat},(∀j,j<ops.length→E.contains (i+j)=false∧bg3 l E (i+j))→RDw C l E wob (i+ops.length) rest s1 s'→RDw C l E wob i (ops++rest) s s':=by
 induction h with
 |nil s=>exact fun _ _ _ hr=>hr
 | @vop o r s s1 x hg hd hv hh ih=>
  intro hpu i hf hr;refine .fix hg hd (hf 0 Oc).1 (hf 0 Oc).2 hv (ih hpu (i:=i+1) (fun j hj=>?_) ?_)
  ·rw[show i+1+j=i+(j+1) by omega];exact hf (j+1) (by simpa using hj)
  ·rw[show i+1+r.length=i+(o::r).length by simp;omega];exact hr
 | @skip o r s s1 hg hd hh ih=>
  intro hpu i hf hr;refine .skip hg hd (hf 0 Oc).1 (ih hpu (i:=i+1) (fun j hj=>?_) ?_)
  ·rw[show i+1+j=i+(j+1) by omega];exact hf (j+1) (by simpa using hj)
  ·rw[show i+1+r.length=i+(o::r).length by simp;omega];exact hr
 |eff hp=>intro hpu;rw[hpu]at hp;cases hp
 |ghost hp=>intro hpu;rw[hpu]at hp;cases hp
 |same hs hh ih=>exact fun hpu _ hf hr=>.same hs (ih hpu hf hr)
theorem RDw.ofFixE{C:Cx}{l:List Oper}{E:List Nat}{wob:List aa5}{ops rest:List Oper}{s s1 s':St}(h:SD C l.toArray true ops s s1){i:Nat}(hf:∀j,j<ops.length→E.contains (i+j)=false∧bg3 l E (i+j))(hr:RDw C l E wob (i+ops.length) rest s1 s'):RDw C l E wob i (ops++rest) s s':=
 RDw.ofFixE_ h rfl hf hr
section
variable{C:Cx}{r:List It}{Q:Exit→St→Prop}{tm:List (Nat × X)}{ob:List aa5}{id:Nat}{l:List Oper}{E:List Nat}{wob:List aa5}{i:Nat}{ops:List Oper}{K:St→Prop}
theorem qEr_(wob:List aa5)(E:List Nat)(ho:ad8 l=true)(hE:bg5 (bf5 l) E=true)(hw:Wk wob ob)
  (h:RGw C id l E wob 0 l ⟨tm,ob⟩ (fun s'=>go C r s' Q)):go C (.code (.region id l.toArray true)::r) ⟨tm,ob⟩ Q:=by
 intro a w hr;obtain⟨s',h1,h2⟩:=h;obtain⟨xs,obT,e1,e2,e3,e4,e5,e6⟩:=h1.dataE hw;have hlen:xs.length=l.length:=by rw[←e1];simp
 have hget:∀i,i<l.length→∃o x,xs[i]? =some (o,x):=fun i hi=>by
  have:i<xs.length:=Oa
  exact⟨xs[i].1,xs[i].2,fy4 this⟩
 have hfin:∀a w,C.Rel ⟨(stps ⟨tm,ob⟩ xs).tm,obT l.length⟩ a w→C.Rel s' a w:=by
  intro a w hr;rw[e3]at hr;exact ad4.rel (s:=⟨(stps ⟨tm,ob⟩ xs).tm,s'.ob⟩) (s':=s') ⟨fun t=>(e4 t).symm,rfl⟩ hr
 refine wp_region_any C.E.hM ?_;refine Dr.all (s:=⟨tm,ob⟩) (xs:=xs) (obT:=obT) (eff:=fun i=>E.contains i) e1 (ae2 ho) (fun i hi he=>?_) (fun i j hij hj h3 h4=>?_) (fun i o x hi=>⟨(e6 i o x hi).1,(e6 i o x hi).2.1⟩) (fun i o x he hi y hy=>?_) (fun i o x he hi=>?_) (fun a w hr=>⟨s',hfin a w hr,h2⟩) _ _ _ _ ?_ ⟨by simp,fun j o' ed ho' hL=>?_,tm,0,ga8 _,fun i hi=>by omega,fun i _ hi _=>?_,?_,fun t _=>rfl,fun j o' x t hj hL=>?_⟩
 ·obtain⟨o,x,hx⟩:=hget i hi;exact((e6 i o x hx).2.2.2 (by rw[gc3];exact he)).1
 ·exact(bg4 (ga6.1 hE j (by simpa using h4)) i h3).1 hij
 ·rcases((e6 i o x hi).2.2.2 (by rw[gc3];exact he)).2 y hy with⟨h3,h4⟩|h3
  ·rw[gc3]at h3;exact .inl ⟨fun e _ he'=>h3 e he',h4⟩
  ·exact .inr fun k hk=>h3 _ (e5 k hk)
 ·exact(e6 i o x hi).2.2.1 (by rw[gc3];exact he)
 ·refine gb8 (gg5 _ _) ?_;simp
 ·exfalso
  by_cases hlt:j<l.length<;>simp[hlt]at hL
 ·rw[gg4,Array.getElem?_replicate];split<;>rfl
 ·rw[e2];obtain⟨F,σ,r1,r2,r3,hi,r4,r5,hs⟩:=hr;have hext:Ext w F {w with drawn:=w.drawn+1} F:=⟨⟨rfl,rfl,rfl,fz6 _,fun _ _=>rfl⟩,fun _ h=>h,fun _ h=>.inl h,hi.flt⟩;exact⟨F,σ,r1.step hext.below,r2,r3,hi.ext hext,r4,r5,fun t=>(hs t).ext hext hi.flt⟩
 ·exfalso
  by_cases hlt:j<l.length<;>simp[hlt]at hL
theorem bj2(E T:List Nat)(ho:ad8 l=true)(hE:bg5 (bf5 l) E=true)(hw:wkP (bg8 T ob).length (bg8 T ob) ob)(h:RGw C id l E (bg8 T ob) 0 l ⟨tm,ob⟩ (fun s'=>go C r s' Q)):go C (.code (.region id l.toArray true)::r) ⟨tm,ob⟩ Q:=qEr_ _ E ho hE (Wk.mk' hw) h
theorem reN(h:K ⟨tm,ob⟩):RGw C id l E wob i [] ⟨tm,ob⟩ K:=⟨_,.nil _ _,h⟩
theorem reF(n:Nat)(hc:rgFB l E i n=true)(hn:Nat.ble n ops.length=true)(h:SGo C l.toArray true (ops.take n) ⟨tm,ob⟩ (fun s1=>RGw C id l E wob (i+n) (ops.drop n) ⟨s1.tm,ob⟩ K)):RGw C id l E wob i ops ⟨tm,ob⟩ K:=by
 obtain⟨s1,h1,s',h2,h3⟩:=h;have hlen:(ops.take n).length=n:=by rw[gb6];have:=gc0 hn;omega
 have e:s1=⟨s1.tm,ob⟩:=by have:=h1.obEq;cases s1;simp at this;rw[this]
 refine⟨s',?_,h3⟩;rw[←gf7 n ops];rw[←e]at h2;refine RDw.ofFixE h1 (fun j hj=>?_) (by rw[hlen];exact h2);have:=ga6.1 hc j (by rw[gd5];omega);rw[fz4]at this;exact⟨by simpa using this.2,bg4 this.1⟩
theorem reX{o:Oper}{rest:List Oper}{x:X}{ob':List aa5}(hne:E.contains i=true)(hg:ap8 l.toArray tm o=some true)(hd:ac9 C o=true)(hv:EOp C ⟨tm,ob⟩ o x ob')(hw:wkP wob.length wob ob')(h:RGw C id l E wob (i+1) rest ((⟨tm,ob'⟩:St).put o.dst x) K):RGw C id l E wob i (o::rest) ⟨tm,ob⟩ K:=
 let⟨s',h1,h2⟩:=h;⟨s',.eff (ap9 hg) hd hne hv (Wk.mk' hw) h1,h2⟩
theorem reV{o:Oper}{rest:List Oper}{x:X}{d:Nat}{p:Prop}(hne:E.contains i=false)(hg:ap8 l.toArray tm o=some true)(hdst:o.dst=some d)(hd:Nat.blt d C.N=true)(hn:Nat.ble C.base.n0 wob.length=true)
  (hv:vop C ⟨bi8 wob.length tm,wob⟩ o=some (p,x))(hp:p)(h:RGw C id l E wob (i+1) rest ⟨(d,x)::tm,ob⟩ K):RGw C id l E wob i (o::rest) ⟨tm,ob⟩ K:=by
 obtain⟨s',h1,h2⟩:=h;refine⟨s',.weak (ap9 hg) (by simp only[ac9,hdst];exact hd) hne (fun ob' hw'=>((ap6 hv hp).wk hw' (gc0 hn) (bj1 _ tm)).dim) ?_,h2⟩;rw[show(⟨tm,ob⟩:St).put o.dst x=⟨(d,x)::tm,ob⟩ by rw[hdst];rfl];exact h1
end
section
variable{C:Cx}{tm:List (Nat × X)}{ob:List aa5}{id:Nat}{l:List Oper}{E:List Nat}{wob:List aa5}{i:Nat}{rest:List Oper}{K:St→Prop}{o:Oper}{d:Nat}{p:Prop}{x:X}
theorem reS{tm':List (Nat × X)}{ob':List aa5}(hne:E.contains i=true)(hg:ap8 l.toArray tm o=some true)(hd:ac9 C o=true)(hs:au9 C o tm ob=some (p,tm',ob'))(hp:p)(hw:wkP wob.length wob ob')(h:RGw C id l E wob (i+1) rest ⟨tm',ob'⟩ K):RGw C id l E wob i (o::rest) ⟨tm,ob⟩ K:=by
 obtain⟨d,x,hdst,rfl,-⟩:=bh3 (tm2:=tm) hs fun _ _=>rfl
 refine reX (x:=x) (ob':=ob') hne hg hd (fun tm2 hev=>?_) hw (by rw[hdst];exact h);obtain⟨d',x',hdst',e,h2⟩:=bh3 (tm2:=tm2) hs hev;rw[hdst]at hdst'
 cases hdst'
 cases e
 rw[hdst];exact av0 h2 hp
end
end Go.Abs
namespace Go.Abs
open Go Go.RowKit
structure Kp(C:Cx)(ob:List aa5)(σ:Sg)(w:World)(F:Nat→Prop)(w':World)(F':Nat→Prop):Prop where
 kept:aa7 C.O C.w0 w'
 more:∀b,F b→F' b
 new:∀b,F' b→F b∨ ¬ C.O b
 same:∀b,F b→w'.heap[b]? =w.heap[b]?
 inv:ab2 C.E C.base F' σ ob w'
theorem Kp.of_ext{C:Cx}{ob:List aa5}{σ:Sg}{w w':World}{F F':Nat→Prop}(h1:aa7 C.O C.w0 w)(hi:ab2 C.E C.base F σ ob w)(he:Ext w F w' F'):Kp C ob σ w F w' F':=
 ⟨h1.step he.below,he.more,fun b hb=>(he.new b hb).imp id h1.new,he.keep hi.flt,hi.ext he⟩
def POp(C:Cx)(s:St)(o:Oper)(x:X):Prop:=
 ∀(F:Nat→Prop) (σ:Sg) (w:World) (a:Act) (K:Act→World→Prop) (Q:Exit→Act→World→Prop),aa7 C.O C.w0 w→ab2 C.E C.base F σ s.ob w→
  (∀y∈o.op.operands.toList,RdX w F σ (s.ev C.E y) (a.eval y))→
  (∀v w' F',Kp C s.ob σ w F w' F'→RdX w' F' σ x v→K (a.put o.dst v) w')→o.wp C.E.P a w K Q
theorem VOp.pop{C:Cx}{s:St}{o:Oper}{x:X}(h:VOp C s o x):POp C s o x:=
 fun F σ w a K Q h1 hi hr hK=>h F σ w a K Q hi hr fun v w' F' he hv=>hK v w' F' (Kp.of_ext h1 hi he) hv
theorem ad4.pop{C:Cx}{s s':St}(h:ad4 s s'){o:Oper}{x:X}(hv:POp C s o x):POp C s' o x:=by
 intro F σ w a K Q h1 hi ho hK;refine hv F σ w a K Q h1 (by rw[←h.2];exact hi) (fun y hy=>?_) (fun v w' F' hk hx=>hK v w' F' (by rw[h.2];exact hk) hx);rw[←h.ev];exact ho y hy
theorem af0.allP{C:Cx}{s:St}{xs:List (Oper × Option X)}{ops:List Oper}(hx:xs.map (·.1)=ops)(ho:ad9 ops)
  (hv:∀(i:Nat) o x,xs[i]? =some (o,x)→ac9 C o=true∧ad3 ops.toArray (stps s (xs.take i)) o x.isSome∧∀y,x=some y→POp C (stps s (xs.take i)) o y)
  {Q:Exit→Act→World→Prop}(hq:∀a w,C.Rel (stps s xs) a w→Q .normal a w):
  ∀(fuel:Nat) (L:Array Bool) (a:Act) (w:World),unl ops.length L≤fuel→af0 C s xs ops L a w→wpAny C.E.P .any ops.toArray Q fuel L a w:=by
 have hxo:∀(i:Nat) o,ops[i]? =some o→∃x,xs[i]? =some (o,x):=by
  intro i o hi;rw[←hx,fz1]at hi
  cases hxi:xs[i]? with
  |none=>rw[hxi]at hi;cases hi
  |some p=>rw[hxi]at hi;simp at hi;exact⟨p.2,by rw[←hi]⟩
 have hox:∀(i:Nat) o x,xs[i]? =some (o,x)→ops[i]? =some o:=by
  intro i o x hi;rw[←hx,fz1,hi];rfl
 have hlen:xs.length=ops.length:=by rw[←hx];simp
 have hdst:∀(j:Nat) (p:Oper) d,ops.toArray[j]? =some p→p.dst=some d→d<C.N:=by
  intro j p d hj hd;rw[gd4]at hj;obtain⟨x,hx'⟩:=hxo j p hj;exact ad1 (hv j p x hx').1 d hd
 -- what the state behind the first ones says of a slot
 have hlook:∀(i:Nat) (o:Oper) (x:Option X) (L:Array Bool) (a:Act) (w:World) (F:Nat→Prop) (σ:Sg),xs[i]? =some (o,x)→L.getD i false=false→
   (∀(j:Nat) (o:Oper) (e:Edge),ops[j]? =some o→L.getD j false=true→e∈o.after→Region.binds .any e=true→L.getD e.on false=true)→
   (∀e∈o.after,Region.binds .any e=true→L.getD e.on false=true)→
   (∀t,(∀(j:Nat) o,ops[j]? =some o→L.getD j false=true→o.dst≠some t)→RdX w F σ (lk s.tm t) (a.tmps.getD t undef))→
   (∀(j:Nat) o x t,xs[j]? =some (o,x)→L.getD j false=true→o.dst=some t→RdX w F σ (x.getD .und) (a.tmps.getD t undef))→
   ∀t∈o.looksAt ops.toArray,RdX w F σ (lk (stps s (xs.take i)).tm t) (a.tmps.getD t undef):=by
  intro i o x L a w F σ hi hL hdown hready h1 h2 t ht
  by_cases hw:∃(j:Nat) (p:Oper),ops[j]? =some p∧p.dst=some t
  ·obtain⟨j,p,hj,hp⟩:=hw;obtain⟨y,hy⟩:=hxo j p hj;have huniq:∀(k:Nat) (q:Oper),k≠j→ops[k]? =some q→q.dst≠some t:=fun k q hk hq=>ho.uniq k j q p t hk hq hj hp
   by_cases hij:i=j
   ·subst hij
    have e:lk (stps s (xs.take i)).tm t=lk s.tm t:=by
     refine ae5 _ _ _ fun q hq=>?_
     obtain⟨k,hk⟩:=ga9 hq;rw[ga5]at hk;split at hk
     ·exact huniq k q.1 Oa (hox k q.1 q.2 hk)
     ·cases hk
    rw[e];refine h1 t fun k q hk hkl=>?_
    by_cases hki:k=i
    ·subst hki;rw[hL]at hkl;cases hkl
    ·exact huniq k q hki hk
   ·obtain⟨ha,hb⟩:=ho.looks i j o p t hij (hox i o x hi) hj hp ht
    by_cases hlt:j<i
    ·obtain⟨e,he,hbd,hej⟩:=ha hlt;have hjl:L.getD j false=true:=by rw[←hej];exact hready e he hbd
     have e1:lk (stps s (xs.take i)).tm t=y.getD .und:=by
      refine ae7 _ _ t j p y (by rw[ga5,if_pos hlt];exact hy) hp fun k q hk hq=>?_
      rw[ga5]at hq;split at hq
      ·exact huniq k q.1 hk (hox k q.1 q.2 hq)
      ·cases hq
     rw[e1];exact h2 j p y t hy hjl hp
    ·obtain⟨e,he,hbd,hei⟩:=hb hlt
     have hjl:L.getD j false=false:=by
      cases hjl:L.getD j false with
      |false=>rfl
      |true=>
       have:=hdown j p e hj hjl he hbd;rw[hei,hL]at this
       cases this
     have e1:lk (stps s (xs.take i)).tm t=lk s.tm t:=by
      refine ae5 _ _ _ fun q hq=>?_
      obtain⟨k,hk⟩:=ga9 hq;rw[ga5]at hk;split at hk
      ·exact huniq k q.1 Oa (hox k q.1 q.2 hk)
      ·cases hk
     rw[e1];refine h1 t fun k q hk hkl=>?_
     by_cases hkj:k=j
     ·subst hkj;rw[hjl]at hkl;cases hkl
     ·exact huniq k q hkj hk
  ·have hno:∀(k:Nat) (q:Oper),ops[k]? =some q→q.dst≠some t:=fun k q hk hq=>hw ⟨k,q,hk,hq⟩
   have e1:lk (stps s (xs.take i)).tm t=lk s.tm t:=by
    refine ae5 _ _ _ fun q hq=>?_
    obtain⟨k,hk⟩:=ga9 hq;rw[ga5]at hk;split at hk
    ·exact hno k q.1 (hox k q.1 q.2 hk)
    ·cases hk
   rw[e1];exact h1 t fun k q hk _=>hno k q hk
 -- the end
 have hfin:∀(L:Array Bool) (a:Act) (w:World),(∀i,i<ops.length→L.getD i false=true)→af0 C s xs ops L a w→Q .normal a w:=by
  intro L a w hall hO;obtain⟨F,σ,r1,r2,r3,hi,r4,r5,h1,h2⟩:=hO.rel;refine hq a w ⟨F,σ,r1,r2,r3,by rw[ae3];exact hi,r4,r5,fun t=>?_⟩
  by_cases hw:∃(j:Nat) (p:Oper),ops[j]? =some p∧p.dst=some t
  ·obtain⟨j,p,hj,hp⟩:=hw;obtain⟨y,hy⟩:=hxo j p hj;rw[ae7 s xs t j p y hy hp fun k q hk hq=>ho.uniq k j q.1 p t hk (hox k q.1 q.2 hq) hj hp];exact h2 j p y t hy (hall j (fy9.1 hj).1) hp
  ·have hno:∀(k:Nat) (q:Oper),ops[k]? =some q→q.dst≠some t:=fun k q hk hq=>hw ⟨k,q,hk,hq⟩
   rw[ae5 s xs t fun q hq=>by
    obtain⟨k,hk⟩:=ga9 hq;exact hno k q.1 (hox k q.1 q.2 hk)]
   exact h1 t fun k q hk _=>hno k q hk
 -- whoever is ready
 have hready:∀(L:Array Bool) i,i∈Region.ready .any ops.toArray L→L.size=ops.length→∃o,ops[i]? =some o∧L.getD i false=false∧∀e∈o.after,Region.binds .any e=true→L.getD e.on false=true:=by
  intro L i hi hs;unfold Region.ready at hi;rw[gg1,gd5]at hi;obtain⟨hlt,h⟩:=hi;rw[ge3]at hlt;rw[fz4]at h;obtain⟨h1,h2⟩:=h;have ho':ops[i]? =some ops[i]:=fy4 hlt;refine⟨ops[i],ho',?_,?_⟩
  ·rw[←af2 Oa];simpa using h1
  ·intro e he hbd;rw[gd4,ho']at h2;simp only[gc1,ge1]at h2;obtain⟨k,hk,rfl⟩:=gi6 he;have:=gg3.1 h2 k hk;rw[hbd]at this;simpa using this
 have hsome:∀(L:Array Bool) (a:Act) (w:World),af0 C s xs ops L a w→Region.ready .any ops.toArray L=[]→∀i,i<ops.length→L.getD i false=true:=by
  intro L a w hO hr i
  induction i using Nat.strongRecOn with
  |_ i ih=>
   intro hi
   cases hL:L.getD i false with
   |true=>rfl
   |false=>
    have ho':ops[i]? =some ops[i]:=fy4 hi
    have hm:i∈Region.ready .any ops.toArray L:=by
     unfold Region.ready;rw[gg1,gd5,ge3];refine⟨hi,?_⟩;rw[af2 (by rw[hO.size];exact hi),hL,gd4,ho'];simp only[gf3,gd1,gc1,ge1];refine gg3.2 fun k hk=>?_
     cases hbd:Region.binds .any (ops[i]).after[k]with
     |false=>simp
     |true=>
      have hb:=ho.back i _ _ ho' (Array.getElem_mem hk) hbd;rw[ih _ hb Oa];simp
    rw[hr]at hm
    cases hm
 intro fuel
 induction fuel with
 |zero=>
  intro L a w hu hO
  have hall:∀i,i<ops.length→L.getD i false=true:=fun i hi=>by
   rw[←af2 (by rw[hO.size];exact hi)];exact ae9 Oa i hi
  refine⟨?_,hfin L a w hall hO⟩;refine gj4.2 fun i hi=>?_
  obtain⟨o,h1,h2,_⟩:=hready L i hi hO.size;rw[hall i (fy9.1 h1).1]at h2
  cases h2
 |succ fuel ih=>
  intro L a w hu hO;refine⟨fun hr=>hfin L a w (hsome L a w hO hr) hO,fun i hi=>?_⟩;obtain⟨o,hoi,hL,hed⟩:=hready L i hi hO.size;have hlt:i<ops.length:=(fy9.1 hoi).1;obtain⟨x,hxi⟩:=hxo i o hoi;obtain⟨hd,hg,hvop⟩:=hv i o x hxi;obtain⟨F,σ,r1,r2,r3,hinv,r4,r5,h1,h2⟩:=hO.rel;have hl:=hlook i o x L a w F σ hxi hL hO.down hed h1 h2
  have hu':unl ops.length (L.setIfInBounds i true)≤fuel:=by
   have:=ae8 (L:=L) hO.size hlt (by rw[af2 (by rw[hO.size];exact hlt)];exact hL);omega
  have hwant:Region.wanted o (yielded ops.toArray a.tmps)=x.isSome:=by
   refine hg.wanted (N:=C.N) hdst r5 (w:=w) (F:=F) (σ:=σ) fun j pol t hgj ht=>hl t ?_
   unfold Oper.looksAt;refine gb2.2 (.inr ?_);rw[hgj];show t∈((ops.toArray[j]?).bind (·.dst)).toList;rw[ht];simp
  -- the step
  have hstep:∀v w' F',Kp C s.ob σ w F w' F'→(o.dst≠none→RdX w' F' σ (x.getD .und) v)→af0 C s xs ops (L.setIfInBounds i true) (a.put o.dst v) w':=by
   intro v w' F' he hvv;have hset:∀j,(L.setIfInBounds i true).getD j false=(L.getD j false||j==i):=fun j=>af1 (by rw[hO.size];exact hlt)
   have hother:∀t,o.dst≠some t→(a.put o.dst v).tmps.getD t undef=a.tmps.getD t undef:=by
    intro t ht
    cases hdd:o.dst with
    |none=>rfl
    |some d=>
     simp only[Act.put,gg4];rw[gi5 (fun e=>ht (by rw[hdd,e]))]
   refine⟨by simp[hO.size],fun j p e hj hjl hee hbd=>?_,F',σ,he.kept,fun b hb=>he.more _ (r2 b hb),fun b hb=>?_,he.inv,by rw[Act.put_def];exact r4,by rw[Act.put_size];exact r5,fun t ht=>?_,fun j p y t hj hjl hp=>?_⟩
   ·rw[hset]at hjl ⊢;rw[gb0]at hjl ⊢;rcases hjl with hjl|hjl
    ·exact .inl (hO.down j p e hj hjl hee hbd)
    ·obtain rfl:j=i:=by simpa using hjl
     rw[hoi]at hj
     cases hj
     exact .inl (hed e hee hbd)
   ·rcases he.new b hb with h|h
    ·exact r3 b h
    ·exact .inr h
   ·have hit:o.dst≠some t:=ht i o hoi (by rw[hset];simp);rw[hother t hit];exact(h1 t fun j q hj hjl=>ht j q hj (by rw[hset,hjl];rfl)).mono he.more he.same fun _ _ h=>h
   ·rw[hset,gb0]at hjl
    by_cases hji:j=i
    ·subst hji;rw[hxi]at hj
     cases hj
     have hlt':=ad1 hd t hp;rw[hp];simp only[Act.put];have:(a.tmps.setIfInBounds t v).getD t undef=v:=by simp[r5,hlt']
     rw[this];exact hvv (by rw[hp];simp)
    ·have hjl':L.getD j false=true:=by
      rcases hjl with h|h
      ·exact h
      ·exact absurd (by simpa using h) hji
     rw[hother t (ho.uniq i j o p t (fun e=>hji e.symm) hoi (hox j p y hj) hp)];exact(h2 j p y t hj hjl' hp).mono he.more he.same fun _ _ h=>h
  unfold wpOp;rw[gd4,hoi];simp only
  cases hx':x with
  |none=>
   rw[hx']at hwant;rw[if_neg (by rw[hwant];simp)];refine ih _ _ _ hu' (hstep undef w F (Kp.of_ext r1 hinv (Ext.refl hinv.flt)) fun _=>?_);rw[hx'];rfl
  |some y=>
   rw[hx']at hwant;rw[if_pos (by rw[hwant];rfl)];refine .inl (hvop y hx' F σ w a _ Q r1 (by rw[ae3];exact hinv) (fun z hz=>?_) fun v w' F' he hvv=>ih _ _ _ hu' (hstep v w' F' (by rw[ae3]at he;exact he) fun _=>by rw[hx'];exact hvv))
   cases z with
   |tmp t=>
    refine hl t ?_;unfold Oper.looksAt;refine gb2.2 (.inl ?_);rw[List.mem_filterMap];exact⟨_,hz,rfl⟩
   |const v=>exact ab4 v
   |global g=>exact ab5 hinv.glob.1 g
   |func f=>exact Rd.imm _ rfl
section
variable{C:Cx}{s:St}{o:Oper}
theorem bj3{f:FuncId}{xs ys:List X}{ob1:List aa5}{rx:X}{sel:List Nat}
    (hcall:∀(w:World) (a:Act) (F:Nat→Prop) (σ:Sg),(∀y∈o.op.operands.toList,RdX w F σ (s.ev C.E y) (a.eval y))→∃vals:List Value,(execOp a.eval o).run C.E.P w=.ok (.enter f vals.toArray) w∧ys.length=vals.length∧∀(i:Nat) x v,ys[i]? =some x→vals[i]? =some v→RdX w F σ x v)
    (hn:aw9 sel=true)(hob:aw8 sel s.ob sel=some ob1)(hx:aw5 sel ys=some xs)(h:EvS C.E f xs ob1 rx ob1)(hback:ba9 (bk sel s.ob.length) sel ob1 s.ob=s.ob):
    POp C s o (bkX (bk sel s.ob.length) rx):=by
  intro F σ w a K Q h1 hi hr hK;obtain⟨vals,hrun,hvl,hvals⟩:=hcall w a F σ hr;obtain⟨r1,r2,r3,hi1⟩:=hi.ren sel hn hob;obtain⟨l1,l2⟩:=ax3 hx
  have hargs:∀(i:Nat) x v,xs[i]? =some x→vals[i]? =some v→RdX w F (sel.map fun k=>σ.getD k (0,0,0)) x v:=by
    intro i x v hxi hvi;obtain⟨x0,g1,g2⟩:=l2 i x hxi;exact ax2 (fun i o ho=>(r1 i o ho).2) g2 (hvals i x0 v g1 hvi)
  unfold Oper.wp;rw[hrun];refine(h w F _ vals hi1 (by rw[l1];exact hvl.symm) hargs).mono ?_;rintro e w' ⟨v,F',σ',rfl,k1,k2,k3,k4,k5,k6⟩;have hm:sel.length≤ob1.length:=by rw[r2];exact fz6 _
  have hσn:σ.length=s.ob.length:=hi.len
  have hg:∀(i:Nat) p,σ'[i]? =some p→(σ++σ'.drop sel.length)[bk sel s.ob.length i]? =some p:=by
    intro i p hp;unfold bk
    cases hb:Nat.blt i sel.length with
    |true=>
      have hlt:i<sel.length:=by simpa using hb
      have hk:=fy4 hlt;obtain⟨q1,q2⟩:=r1 i _ hk;have hσl:i<(sel.map fun k=>σ.getD k (0,0,0)).length:=by simpa using hlt
      have hp':=k4 i _ (by rw[r2];exact hlt) (fy4 hσl);rw[hp]at hp';rw[←fy4 hσl,q2]at hp';simp only[cond_true,gd6,hk,ge1];rw[ga0 (by rw[hσn];exact q1)];exact hp'.symm
    |false=>
      have hge: ¬ i<sel.length:=fun h=>by
        have:Nat.blt i sel.length=true:=by simpa using h
        rw[hb]at this
        cases this
      simp only[cond_false];rw[ga7 Oa,ge4,←hp];congr 1;omega
  have hheld:∀(k:Nat) z p,k ∉ sel→s.ob[k]? =some z→z.live=true→σ[k]? =some p→ba3 w ob1 (sel.map fun k=>σ.getD k (0,0,0)) p.1:=by
    intro k z p hk hz hl hp;refine⟨(hi.obs k z p hz hp).lt hl,?_⟩;rintro⟨i,x,p',e1,e2,e3,e4⟩;obtain⟨k',x',f1,f2,f3⟩:=r3 i x e1;rw[(r1 i k' f1).2]at e3;exact hi.inj k' k x' z p' p (fun e=>hk (e ▸ fy6 f1)) f2 (by rw[f3];exact e2) hz hl e3 hp e4
  have hOld:∀b,C.O b→ba3 w ob1 (sel.map fun k=>σ.getD k (0,0,0)) b:=by
    intro b hb;refine⟨gi1 (h1.old b hb) h1.size,?_⟩;rintro⟨i,x,p',e1,e2,e3,e4⟩;obtain⟨k',x',f1,f2,f3⟩:=r3 i x e1;rw[(r1 i k' f1).2]at e3;exact((hi.obs k' x' p' f2 e3).notO (by rw[f3];exact e2)).1 (e4 ▸ hb)
  have hF:∀b,F b→ba3 w ob1 (sel.map fun k=>σ.getD k (0,0,0)) b:=by
    intro b hb;refine⟨hi.flt b hb,?_⟩;rintro⟨i,x,p',e1,e2,e3,e4⟩;obtain⟨k',x',f1,f2,f3⟩:=r3 i x e1;rw[(r1 i k' f1).2]at e3;exact((hi.obs k' x' p' f2 e3).notO (by rw[f3];exact e2)).2 (e4 ▸ hb)
  have hkeep:∀b,F b→w'.heap[b]? =w.heap[b]? :=fun b hb=>k1.block b (hF b hb)
  have happ:∀(o:Nat) p,σ[o]? =some p→(σ++σ'.drop sel.length)[o]? =some p:=fun o p hp=>by
    rw[ga0 (fy9.1 hp).1];exact hp
  have hcase:∀(k:Nat) z p,(ba9 (bk sel s.ob.length) sel ob1 s.ob)[k]? =some z→(σ++σ'.drop sel.length)[k]? =some p→
      (k ∉ sel∧k<s.ob.length∧s.ob[k]? =some z∧σ[k]? =some p)∨∃i y,ob1[i]? =some y∧z=bkO (bk sel s.ob.length) y∧bk sel s.ob.length i=k∧σ'[i]? =some p:=by
    intro k z p hz hp
    have fin:∀i y,ob1[i]? =some y→bk sel s.ob.length i=k→σ'[i]? =some p:=by
      intro i y hy e;have hil:i<σ'.length:=by rw[k5.len];exact(fy9.1 hy).1
      have:=hg i _ (fy4 hil);rw[e,hp]at this;rw[fy4 hil,this]
    unfold ba9 at hz;rcases fy5 k s.ob.length with hlt|hge
    · rw[ga0 (by rw[bb0];exact hlt)]at hz;rcases bb1 sel _ s.ob k z (by simpa using hm) hz with⟨g1,g2⟩|⟨i,g1,g2⟩
      · rw[ga0 (by rw[hσn];exact hlt)]at hp;exact .inl ⟨g1,hlt,g2,hp⟩
      · rw[fz1,fz9]at g2;obtain⟨y,hy,rfl⟩:=g2
        have hbk:bk sel s.ob.length i=k:=by
          have hil:=(fy9.1 g1).1;unfold bk;rw[show Nat.blt i sel.length=true by simpa using hil];simp[gd6,g1]
        exact .inr ⟨i,y,hy,rfl,hbk,fin i y hy hbk⟩
    · rw[ga7 (by rw[bb0];exact hge),bb0,fz1,fz9]at hz;obtain⟨y,hy,rfl⟩:=hz;rw[ge4]at hy
      have hbk:bk sel s.ob.length (sel.length+(k-s.ob.length))=k:=by
        unfold bk
        have hf':Nat.blt (sel.length+(k-s.ob.length)) sel.length=false:=by
          cases h:Nat.blt (sel.length+(k-s.ob.length)) sel.length with
          |false=>rfl
          |true=>have:sel.length+(k-s.ob.length)<sel.length:=by simpa using h
                 omega
        rw[hf'];simp only[cond_false];omega
      exact .inr ⟨_,y,hy,rfl,hbk,fin _ y hy hbk⟩
  have hdrop:σ'.drop sel.length=[]:=by
    refine ga2 ?_;rw[k5.len,r2];exact fz6 _
  have hinv:ab2 C.E C.base F' (σ++σ'.drop sel.length) (ba9 (bk sel s.ob.length) sel ob1 s.ob) w':=by
    refine⟨k5.flt,k5.glob,?_,fun k z p hz hp=>?_,fun k k' z z' p p' hne hz hl hz' hl' hp hp'=>?_,fun i p hi' hp=>happ _ _ (hi.pre i p hi' hp)⟩
    · simp only[ba9,fy8,bb0,fz3,gf4,hσn,k5.len]
    · rcases hcase k z p hz hp with⟨g1,g2,g3,g4⟩|⟨i,y,g1,rfl,g2,g3⟩
      · exact(hi.obs k z p g3 g4).mono k2 hkeep happ (fun hl=>k1.block _ (hheld k z p g1 g3 hl g4)) fun hl hnf hf=>by
          rcases k3 _ hf with q|q
          · exact hnf q
          · exact q (hheld k z p g1 g3 hl g4)
      · refine(ba6 hg (k5.obs i y p g1 g3)).own fun hl ho=>?_
        rw[ba7]at hl;exact((k5.obs i y p g1 g3).notO hl).1 (hOld _ ho)
    · rcases hcase k z p hz hp with⟨g1,g2,g3,g4⟩|⟨i,y,g1,rfl,g2,g3⟩<;>rcases hcase k' z' p' hz' hp' with⟨g1',g2',g3',g4'⟩|⟨i',y',g1',rfl,g2',g3'⟩
      · exact hi.inj k k' z z' p p' hne g3 hl g3' hl' g4 g4'
      · intro e;rw[ba7]at hl';exact((k5.obs i' y' p' g1' g3').notO hl').1 (e ▸ hheld k z p g1 g3 hl g4)
      · intro e;rw[ba7]at hl;exact((k5.obs i y p g1 g3).notO hl).1 (e ▸ hheld k' z' p' g1' g3' hl' g4')
      · rw[ba7]at hl hl';refine k5.inj i i' y y' p p' (fun e=>?_) g1 hl g1' hl' g3 g3';subst e;exact hne (g2.symm.trans g2')
  rw[hdrop,ge7]at hinv hg;rw[hback]at hinv;refine hK _ _ _ ⟨⟨k1.os.trans h1.os,k1.tape.trans h1.tape,k1.output.trans h1.output,gb8 h1.size k1.size,fun k hk=>(k1.block k (hOld k hk)).trans (h1.block k hk),h1.old⟩,k2,fun b hb=>?_,hkeep,hinv⟩ (ba5 hg k6);exact(k3 b hb).imp id fun hb' ho=>hb' (hOld b ho)
end
section
variable{C:Cx}{s:St}{o:Oper}
theorem bj4{y:Operand}{args:List Operand}{tys:Array TypeId}{f:FuncId}{cs xs:List X}{ob1:List aa5}{rx x2:X}(sel:List Nat)(ho:o.op=.call {callee:=.value y,args:=args.toArray,argTypes:=tys})
  (hf:FnX (s.ev C.E y) f cs)(hb:an9 C.E f)(h:EvS C.E f xs ob1 rx ob1)(hn:aw9 sel=true)(hob:aw8 sel s.ob sel=some ob1)(hx:aw5 sel (args.map (fun z=>nrm (s.ev C.E z))++cs)=some xs)
  (hback:ba9 (bk sel s.ob.length) sel ob1 s.ob=s.ob)(hx2:bkX (bk sel s.ob.length) rx=x2):POp C s o x2:=by
 subst hx2;refine bj3 (fun w a F σ hr=>?_) hn hob hx h hback;obtain⟨us,u1,u2,u3⟩:=hf.val (hr y (by simp[ho,Op.operands,Call.operands]));refine⟨args.map a.eval++us,?_,by simp[u2],fun i x0 v g1 hvi=>?_⟩
 ·simp only[execOp,ho];rw[bb2 u1];simpa using hb (args.toArray.map a.eval++us.toArray) w
 ·rcases fy5 i args.length with hlt|hge
  ·rw[ga0 (by simpa using hlt)]at g1 hvi;rw[fz1,fz9]at g1 hvi;obtain⟨z,z1,rfl⟩:=g1;obtain⟨z',z1',rfl⟩:=hvi;rw[z1]at z1'
   cases z1'
   exact bb3 (hr z (by simp[ho,Op.operands,Call.operands,fy6 z1]))
  ·rw[ga7 (by simpa using hge)]at g1 hvi;simp only[fz3]at g1 hvi;exact u3 _ _ _ g1 hvi
end
inductive SP(C:Cx)(all:Array Oper):List Oper→St→St→Prop
 |nil (s:St):SP C all [] s s
 |seg {pre rest:List Oper} {s s1 s':St} (h:SD C all true pre s s1) (hr:SP C all rest s1 s'):SP C all (pre++rest) s s'
 |pop {o:Oper} {rest:List Oper} {s s':St} {x:X} (hg:o.guard=none) (hd:ac9 C o=true) (hv:POp C s o x) (hr:SP C all rest (s.put o.dst x) s'):SP C all (o::rest) s s'
theorem SP.data{C:Cx}{all:Array Oper}{ops:List Oper}{s s':St}(h:SP C all ops s s'):
  ∃xs:List (Oper × Option X),xs.map (·.1)=ops∧ad4 (stps s xs) s'∧∀(i:Nat) o x,xs[i]? =some (o,x)→ac9 C o=true∧ad3 all (stps s (xs.take i)) o x.isSome∧∀y,x=some y→POp C (stps s (xs.take i)) o y:=by
 induction h with
 |nil s=>exact⟨[],rfl,ad4.refl _,fun i o x h=>by simp at h⟩
 | @seg pre rest s s1 s' h hr ih=>
  obtain⟨xs1,e1,q1,v1⟩:=h.data;obtain⟨xs2,e2,q2,v2⟩:=ih;refine⟨xs1++xs2,by simp[e1,e2],by rw[ae4];exact(q1.stps xs2).trans q2,fun i o x hi=>?_⟩;rcases fy5 i xs1.length with hlt|hge
  ·rw[ga0 hlt]at hi;rw[List.take_append_of_le_length Oa];obtain⟨a1,a2,a3⟩:=v1 i o x hi;exact⟨a1,a2,fun y hy=>(a3 y hy).pop⟩
  ·obtain⟨m,rfl⟩:∃m,i=xs1.length+m:=⟨i-xs1.length,by omega⟩;rw[ga7 Oa,Nat.add_sub_cancel_left]at hi;rw[List.take_length_add_append,ae4];obtain⟨a1,a2,a3⟩:=v2 m o x hi;have hss:=(q1.stps (xs2.take m)).symm;exact⟨a1,hss.guard a2,fun y hy=>hss.pop (a3 y hy)⟩
 | @pop o rest s s' x hg hd hv hr ih=>
  obtain⟨xs,h1,h2,h3⟩:=ih;refine⟨(o,some x)::xs,by simp[h1],h2,fun i o' x' hi=>?_⟩
  cases i with
  |zero=>
   simp at hi;obtain⟨rfl,rfl⟩:=hi;exact⟨hd,by unfold ad3;rw[hg];rfl,fun y hy=>by cases hy;exact hv⟩
  |succ i=>exact h3 i o' x' (by simpa using hi)
def PGo(C:Cx)(all:Array Oper)(_id _i:Nat)(ops:List Oper)(s:St)(K:St→Prop):Prop:=∃s',SP C all ops s s'∧K s'
section
variable{C:Cx}{r:List It}{s:St}{Q:Exit→St→Prop}{all:Array Oper}{K:St→Prop}{id i:Nat}
theorem pgN(h:K s):PGo C all id i [] s K:=⟨s,.nil s,h⟩
theorem pgF{ops pre rest:List Oper}(n:Nat)(h1:ops.take n=pre)(h2:ops.drop n=rest)(h:SGo C all true pre s (fun s1=>PGo C all id (i+n) rest s1 K)):PGo C all id i ops s K:=by
 obtain⟨s1,h3,s',h4,h5⟩:=h;subst h1 h2;exact⟨s',by have:=SP.seg h3 h4;rwa[gf7]at this,h5⟩
theorem pgS(sel:List Nat){o:Oper}{rest:List Oper}{tm:List (Nat × X)}{ob:List aa5}{d:Nat}{y:Operand}{args:List Operand}{tys:Array TypeId}{f:FuncId}{cs xs:List X}{ob1:List aa5}{rx x2:X}(hg:o.guard=none)(hdst:o.dst=some d)(hd:Nat.blt d C.N=true)
  (ho:o.op=.call {callee:=.value y,args:=args.toArray,argTypes:=tys})(hf:FnX ((⟨tm,ob⟩:St).ev C.E y) f cs)(hb:an9 C.E f)(h:EvS C.E f xs ob1 rx ob1)(hn:aw9 sel=true)(hob:aw8 sel ob sel=some ob1)(hx:aw5 sel (args.map (fun z=>nrm ((⟨tm,ob⟩:St).ev C.E z))++cs)=some xs)
  (hback:ba9 (bk sel ob.length) sel ob1 ob=ob)(hx2:bkX (bk sel ob.length) rx=x2)(hk:PGo C all id (i+1) rest ⟨(d,x2)::tm,ob⟩ K):PGo C all id i (o::rest) ⟨tm,ob⟩ K:=by
 obtain⟨s',h1,h2⟩:=hk;refine⟨s',.pop hg (by simp only[ac9,hdst];exact hd) (bj4 (s:=⟨tm,ob⟩) sel ho hf hb h hn hob hx hback hx2) ?_,h2⟩;rw[hdst];exact h1
theorem qCP{l:List Oper}(ho:ad8 l=true)(h:PGo C l.toArray id 0 l s (fun s'=>go C r s' Q)):go C (.code (.region id l.toArray true)::r) s Q:=by
 intro a w hr;obtain⟨s',h1,h2⟩:=h;obtain⟨xs,hx,heq,hv⟩:=h1.data;refine wp_region_any C.E.hM ?_;obtain⟨F,σ,r1,r2,r3,hi,r4,r5,hs⟩:=hr;have hext:Ext w F {w with drawn:=w.drawn+1} F:=⟨⟨rfl,rfl,rfl,fz6 _,fun _ _=>rfl⟩,fun _ h=>h,fun _ h=>.inl h,hi.flt⟩;refine af0.allP hx (ae2 ho) hv (fun a w hr=>⟨_,heq.rel hr,h2⟩) _ _ _ _ ?_ ⟨by simp,fun i o e ho' hL=>?_,F,σ,r1.step hext.below,r2,r3,hi.ext hext,r4,r5,fun t _=>(hs t).ext hext hi.flt,fun j o x t hj hL=>?_⟩
 ·refine gb8 (gg5 _ _) ?_;simp
 ·exfalso
  by_cases hlt:i<l.length<;>simp[hlt]at hL
 ·exfalso
  by_cases hlt:j<l.length<;>simp[hlt]at hL
end
section
variable{C:Cx}{s:St}{o:Oper}
end
section
variable{C:Cx}{K:St→Prop}{all:Array Oper}{rest:List Oper}{tm:List (Nat × X)}{ob:List aa5}{d:Nat}{o:Oper}
end
section
variable{C:Cx}{r:List It}{Q:Exit→St→Prop}{tm:List (Nat × X)}{ob:List aa5}
theorem bj5{c:Code}(t:Nat)(h:lk tm t=.nilS)(hg:go C (.code c::r) ⟨(t,.d (.sl []))::tm,ob⟩ Q):go C (.code c::r) ⟨tm,ob⟩ Q:=by
 refine ac7 (fun a w hr=>?_) hg;obtain⟨F,σ,r1,r2,r3,hi,r4,r5,hs⟩:=hr;refine⟨F,σ,r1,r2,r3,hi,r4,r5,fun u=>?_⟩;show RdX w F σ (bif Nat.beq t u then _ else lk tm u) _
 cases hb:Nat.beq t u with
 |true=>
  have hu:=hs u;obtain rfl:=fz8 hb;rw[h]at hu;rw[show a.tmps.getD t undef=.slice none 0 0 from hu];exact Rd.slnil
 |false=>exact hs u
end
section
variable{C:Cx}{K:St→Prop}{all:Array Oper}{rest:List Oper}{tm:List (Nat × X)}{ob:List aa5}{d:Nat}{pu:Bool}{o:Oper}
end
end Go.Abs
namespace Go.Abs
open Go Go.RowKit
def bj6:X→Option (List Cap)
 |.d d=>some (d.cells.map Cap.d)
 |.nilS=>some [.d (.sl [])]
 |.own o=>some [.own o]
 |.ptr o off=>some [.ptr o off]
 |.st cs=>some cs
 |_=>none
theorem bj7{w:World}{F:Nat→Prop}{σ:Sg}{x:X}{v:Value}{ds:List Cap}(h:bj6 x=some ds)(hv:RdX w F σ x v):
  v.cells.size=ds.length∧(∀(i:Nat) c u,ds[i]? =some c→v.cells.toList[i]? =some u→aa4 w F σ c u)∧∀u∈v.cells.toList,u.oneCell'=true:=by
 have one:v.oneCell'=true→∀c,aa4 w F σ c v→v.cells.size=[c].length∧(∀(i:Nat) c' u,[c][i]? =some c'→v.cells.toList[i]? =some u→aa4 w F σ c' u)∧∀u∈v.cells.toList,u.oneCell'=true:=by
  intro h1 c hc;have hvc:v.cells= #[v]:=by cases v<;>simp_all [Value.oneCell',Value.cells]
  rw[hvc];refine⟨rfl,fun i c' u hi hu=>?_,by simpa using h1⟩
  cases i with
  |zero=>simp at hi hu;subst hi hu;exact hc
  |succ i=>simp at hi
 cases x with
 |d d=>
  simp only[bj6]at h
  cases h
  obtain⟨a1,a2,a3⟩:=RdX.cells_ (x:=.d d) hv rfl;refine⟨by simpa[X.cells]using a1,fun i c u hi hu=>?_,a2⟩;rw[fz1,fz9]at hi;obtain⟨e,he,rfl⟩:=hi;exact a3 i (.d e) u (by simp[X.cells,he]) hu
 |nilS=>
  simp only[bj6]at h
  cases h
  refine one (by rw[show v=_ from hv];rfl) _ ?_;rw[show v=.slice none 0 0 from hv];exact Rd.slnil
 |own o=>
  simp only[bj6]at h
  cases h
  refine one ?_ _ hv;obtain⟨b,c,n,-,rfl⟩:=hv;rfl
 |ptr o off=>
  simp only[bj6]at h
  cases h
  refine one ?_ _ hv;obtain⟨b,c,n,-,rfl⟩:=hv;rfl
 |st cs=>
  simp only[bj6]at h
  cases h
  obtain⟨us,rfl,hl,h1,hr⟩:=hv;exact⟨by simpa[Value.cells]using hl.symm,fun i c u hi hu=>hr i c u hi (by simpa[Value.cells]using hu),fun u hu=>h1 u (by simpa[Value.cells]using hu)⟩
 |_=>simp[bj6]at h
structure bj8(w:World)(F:Nat→Prop)(σ:Sg)(vs:List Value)(cs:List Cap):Prop where
 len:cs.length=vs.length
 one:∀v∈vs,v.oneCell'=true
 rd:∀(i:Nat) c v,cs[i]? =some c→vs[i]? =some v→aa4 w F σ c v
def bj9:List Cap→Nat→List Cap→List Cap
 |cs,_,[]=>cs
 |cs,k,d::r=>bj9 (cs.set k d) (k+1) r
theorem bk0:∀(r cs:List Cap) (k:Nat),k+r.length≤cs.length→bj9 cs k r=cs.take k++r++cs.drop (k+r.length)
 |[],cs,k,_=>by simp[bj9]
 |d::r,cs,k,h=>by
  simp only[bj9];simp only[fy7]at h;rw[bk0 r (cs.set k d) (k+1) Og]
  have e1:(cs.set k d).take (k+1)=cs.take k++ [d]:=by
   rw[gi7 Og,List.take_set_of_le (fz6 _)];simp
  have e2:(cs.set k d).drop (k+1+r.length)=cs.drop (k+(d::r).length):=by
   rw[List.drop_set_of_lt Oa];simp only[fy7];congr 1;omega
  rw[e1,e2];simp
theorem bj8.set_{w:World}{F:Nat→Prop}{σ:Sg}{vs:List Value}{cs ds:List Cap}{v:Value}{off:Nat}(h:bj8 w F σ vs cs)(a1:v.cells.size=ds.length)
  (a2:∀(i:Nat) c u,ds[i]? =some c→v.cells.toList[i]? =some u→aa4 w F σ c u)(a3:∀u∈v.cells.toList,u.oneCell'=true)(hle:off+ds.length≤cs.length):
  bj8 w F σ (vs.take off++v.cells.toList++vs.drop (off+v.cells.toList.length)) (bj9 cs off ds):=by
 have hl:v.cells.toList.length=ds.length:=by simpa using a1
 rw[bk0 _ _ _ hle];have hlen:=h.len;have h1:(cs.take off).length=off:=by rw[gb6];omega
 have h2:(vs.take off).length=off:=by rw[gb6];omega
 refine⟨?_,fun u hu=>?_,fun i c u hc hu=>?_⟩
 ·simp only[fy8,gb6,gf4,hl,hlen]
 ·rw[gb2,gb2]at hu;rcases hu with(hu|hu)|hu
  ·exact h.one u (gg6 hu)
  ·exact a3 u hu
  ·exact h.one u (gi2 hu)
 ·rcases fy5 i off with hlt|hge
  ·rw[fz5,ga0 Oa,ga5,if_pos hlt]at hu hc;exact h.rd i c u hc hu
  ·rw[fz5,ga7 Oa]at hu hc;rw[h2]at hu;rw[h1]at hc;rcases fy5 (i-off) ds.length with hlt|hge2
   ·rw[ga0 Oa]at hu hc;exact a2 _ c u hc hu
   ·rw[ga7 Oa,ge4]at hu hc;rw[hl]at hu;exact h.rd _ c u hc hu
section
variable{C:Cx}{s:St}{o:Oper}{x:X}
theorem bk1{t:TypeId}{y:Operand}{cs:List Cap}(ho:o.op=.box t y)(hx:s.ev C.E y=.st cs)(hd:ac9 C o=true):SOp C s o (s.add o.dst (.var t (.cs (cs.map Cap.x))) (.ptr s.ob.length 0)):=by
 rintro w a K Q ⟨F,σ,h1,h2,h3,hi,h4,h5,hs⟩ hK;have hv:=ab6 (E:=C.E) hi hs y;rw[hx]at hv
 have hrun:(execOp a.eval o).run C.E.P w=.ok (.value (.pointer (some ⟨w.heap.size,0,none⟩))) (w.alloc (.cells (a.eval y).cells t)):=by
  simp[execOp,ho,Instr.box,newVar,newRow]
 unfold Oper.wp;rw[hrun];have he:=am2 (F:=F) (.cells (a.eval y).cells t) hi.flt;have hv':RdX (w.alloc (.cells (a.eval y).cells t)) F (σ++ [(w.heap.size,0,0)]) (.st cs) (a.eval y):=(hv.ext he hi.flt).mono (fun _ h=>h) (fun _ _=>rfl) σ_app;obtain⟨c1,c2,c3⟩:=bj7 (x:=.st cs) rfl hv';refine hK _ _ (am3 h1 h2 h3 hi h4 h5 hs hd (x:=.var t (.cs (cs.map Cap.x))) (c:=0) (n:=0) ⟨(a.eval y).cells.toList,by simpa using am0,by simpa[VC.cells]using c1.symm,c3,fun i x v hx hv=>?_,h1.new (fz6 _),fun hf=>?_⟩ ⟨w.heap.size,0,0,?_,rfl⟩)
 ·simp only[VC.cells,fz1,fz9]at hx;obtain⟨c,hc,rfl⟩:=hx;exact Cap.x_rd (c2 i c v hc hv)
 ·exact absurd (hi.flt _ hf) (gg9 _)
 ·rw[←hi.len];simp
end
section
variable{C:Cx}{K:St→Prop}{all:Array Oper}{rest:List Oper}{tm:List (Nat × X)}{ob:List aa5}{d:Nat}{pu:Bool}{o:Oper}
end
section
variable{C:Cx}{id:Nat}{l:List Oper}{E:List Nat}{wob:List aa5}{i:Nat}{rest:List Oper}{o:Oper}{tm:List (Nat × X)}{ob:List aa5}{K:St→Prop}{d:Nat}
theorem bk2{t:TypeId}{y:Operand}{cs:List Cap}{m:List X}(hne:E.contains i=true)(ho:o.op=.box t y)(hg:ap8 l.toArray tm o=some true)(hdst:o.dst=some d)(hd:Nat.blt d C.N=true)(hx:(⟨tm,ob⟩:St).ev C.E y=.st cs)(hm:cs.map Cap.x=m)
  (hw:wkP wob.length wob (ob++ [.var t (.cs m)]))(h:RGo C id l E wob (i+1) rest ⟨(d,.ptr ob.length 0)::tm,ob++ [.var t (.cs m)]⟩ K):RGo C id l E wob i (o::rest) ⟨tm,ob⟩ K:=by
 subst hm;have hdk:ac9 C o=true:=by simp only[ac9,hdst];exact hd
 refine rgX (x:=.ptr ob.length 0) (ob':=ob++ [.var t (.cs (cs.map Cap.x))]) hne hg hdk (fun tm' hev=>?_) hw (by rw[hdst];exact h);exact bk1 (s:=⟨tm',ob⟩) ho ((hev y (by simp[ho,Op.operands])).trans hx) hdk
end
end Go.Abs
namespace Go.Abs
open Go Go.RowKit
section
variable{C:Cx}{tm:List (Nat × X)}{ob:List aa5}{id:Nat}{l:List Oper}{E:List Nat}{wob:List aa5}{i:Nat}{rest:List Oper}{K:St→Prop}{o:Oper}{d:Nat}
theorem bk3(sel:List Nat){y:Operand}{args:List Operand}{tys:Array TypeId}{f:FuncId}{cs xs:List X}{ob1 ob1' ob2:List aa5}{rx x2:X}(hne:E.contains i=true)(ho:o.op=.call {callee:=.value y,args:=args.toArray,argTypes:=tys})(hg:ap8 l.toArray tm o=some true)(hdst:o.dst=some d)
  (hd:Nat.blt d C.N=true)(hf:FnX ((⟨tm,ob⟩:St).ev C.E y) f cs)(hb:an9 C.E f)(h0:EvS C.E f xs ob1 rx ob1')(hn:aw9 sel=true)(hob:aw8 sel ob sel=some ob1)(hx:aw5 sel (args.map (fun z=>nrm ((⟨tm,ob⟩:St).ev C.E z))++cs)=some xs)
  (hob2:ba9 (bk sel ob.length) sel ob1' ob=ob2)(hx2:bkX (bk sel ob.length) rx=x2)(hw:wkP wob.length wob ob2)(h:RGw C id l E wob (i+1) rest ⟨(d,x2)::tm,ob2⟩ K):RGw C id l E wob i (o::rest) ⟨tm,ob⟩ K:=by
 subst hob2 hx2;have hdk:ac9 C o=true:=by simp only[ac9,hdst];exact hd
 refine reX (x:=bkX (bk sel ob.length) rx) (ob':=ba9 (bk sel ob.length) sel ob1' ob) hne hg hdk (fun tm' hev=>?_) hw (by rw[hdst];exact h)
 have hm:∀z,z=y∨z∈args→(⟨tm',ob⟩:St).ev C.E z=(⟨tm,ob⟩:St).ev C.E z:=by
  intro z hz;refine hev z ?_;rcases hz with rfl|hz<;>simp[ho,Op.operands,Call.operands, *]
 refine bb5 (s:=⟨tm',ob⟩) ho (by rw[hm y (.inl rfl)];exact hf) hb hn hob ?_ h0 hdk;rw[←hx];congr 2;exact List.map_congr_left fun z hz=>by rw[hm z (.inr hz)]
end
end Go.Abs
namespace Go.Abs
open Go Go.RowKit
def vEq:Value→Value→Bool
 |.bool a,.bool b=>a==b
 |.int _ a,.int _ b=>a==b
 |.string a,.string b=>a==b
 |_,_=>false
theorem bk4{d:TypeDesc}{a b:Value}(ha:MapKept.IsKey d a)(hb:MapKept.IsKey d b):vEq a b=true↔a=b:=by
 cases d<;>cases a<;>cases b<;>simp_all [MapKept.IsKey,vEq,MapKept.bytes_beq]
def keyB:TypeDesc→Value→Bool
 |.bool,.bool _=>true
 |.int k,.int k' _=>decide (k'=k)
 |.string,.string _=>true
 |_,_=>false
theorem bk5{d:TypeDesc}{v:Value}(h:keyB d v=true):MapKept.IsKey d v:=by
 cases d<;>cases v<;>simp_all [keyB,MapKept.IsKey]
def bk6(k:Value):List (Value × D)→Option Nat
 |[]=>none
 |x::r=>bif vEq k x.1 then some 0 else(bk6 k r).map (· +1)
def bk7(k:Value)(d:D)(xs:List (Value × D)):List (Value × D):=match bk6 k xs with
 |some i=>xs.set i (k,d)
 |none=>xs++ [(k,d)]
theorem bk8{k:Value}:∀{xs:List (Value × D)} {i:Nat},bk6 k xs=some i→∃x,xs[i]? =some x∧vEq k x.1=true
 |[],i,h=>by cases h
 |x::r,i,h=>by
  simp only[bk6]at h
  cases hc:vEq k x.1 with
  |true=>rw[hc]at h;cases h;exact⟨x,rfl,hc⟩
  |false=>
   rw[hc,cond_false,fz9]at h;obtain⟨j,hj,rfl⟩:=h;obtain⟨y,h1,h2⟩:=bk8 hj;exact⟨y,by simpa using h1,h2⟩
theorem bk9{d:TypeDesc}{k:Value}(hk:MapKept.IsKey d k):∀(es:List MapEntry) (xs:List (Value × D)) (i:Nat),es.length=xs.length→(∀(j:Nat) e x,es[j]? =some e→xs[j]? =some x→e.key=x.1)→
  (∀x∈xs,MapKept.IsKey d x.1)→Instr.findNow d k es i=some (match bk6 k xs with|some j=>(es[j]?).map (fun e=>(i+j,e.val))|none=>none)
 |[],[],i,_,_,_=>rfl
 |[],_::_,i,h,_,_=>by simp at h
 |_::_,[],i,h,_,_=>by simp at h
 |e::es,x::xs,i,hl,he,hx=>by
  have hex:=he 0 e x rfl rfl;obtain⟨r,hr,hiff⟩:=MapKept.sameNow_of_keys hk (hx x Oc);have ih:=bk9 hk es xs (i+1) (by simpa using hl) (fun j a b h1 h2=>he (j+1) a b (by simpa using h1) (by simpa using h2)) fun y hy=>hx y (by simp[hy])
  have hv:vEq k x.1=r:=by
   rw[gb5,bk4 hk (hx x Oc),hiff]
  simp only[Instr.findNow,bk6,hex,hr,hv]
  cases r with
  |true=>simp
  |false=>
   simp only[cond_false];rw[ih]
   cases bk6 k xs with
   |none=>rfl
   |some j=>simp only[gc1,gj5];congr 2;funext e;congr 1;omega
section
variable{C:Cx}{s:St}{o:Oper}
theorem ab2.turnW{E:Env}{B:ab1}{F:Nat→Prop}{σ:Sg}{ob:List aa5}{w w':World}{i b c n:Nat}{x y:aa5}(h:ab2 E B F σ ob w)(hx:ob[i]? =some x)(hl:x.live=true)(hσ:σ[i]? =some (b,c,n))(hF: ¬ F b)
  (hs:w'.heap.size=w.heap.size)(ho:∀k,k≠b→w'.heap[k]? =w.heap[k]?)(hy:aa6 w' F σ B.O y (b,c,n)):ab2 E B F σ (ob.set i y) w':=by
 have keep:∀k,F k→w'.heap[k]? =w.heap[k]? :=fun k hk=>ho k (fun e=>hF (e ▸ hk))
 refine⟨fun k hk=>by rw[hs];exact h.flt k hk,h.glob.mono (fun _ h=>h) keep,by simp[h.len],fun k z p hz hp=>?_,fun k k' z z' p p' hne hz hzl hz' hzl' hp hp'=>?_,h.pre⟩
 ·rw[ge2]at hz;split at hz
  ·rename_i he
   subst he;split at hz
   ·cases hz
    rw[hσ]at hp
    cases hp
    exact hy
   ·cases hz
  ·rename_i he
   refine(h.obs k z p hz hp).mono (fun _ h=>h) keep (fun _ _ h=>h) (fun hzl=>?_) (fun _ h=>h);exact ho p.1 (h.inj k i z x p (b,c,n) (fun e=>he e.symm) hz hzl hx hl hp hσ)
 ·have key:∀(k:Nat) (z:aa5),(ob.set i y)[k]? =some z→z.live=true→∃u:aa5,ob[k]? =some u∧u.live=true:=by
   intro k z hz hzl;rw[ge2]at hz;split at hz
   ·rename_i he;subst he;exact⟨x,hx,hl⟩
   ·exact⟨z,hz,hzl⟩
  obtain⟨u,u1,u2⟩:=key k z hz hzl;obtain⟨u',u1',u2'⟩:=key k' z' hz' hzl';exact h.inj k k' u u' p p' hne u1 u2 u1' u2' hp hp'
theorem bl0{t:TypeId}{kd:TypeDesc}(ho:o.op=.makeMap t none)(hd:ac9 C o=true):SOp C s o (s.add o.dst (.map kd []) (.mp s.ob.length)):=by
 rintro w a K Q ⟨F,σ,h1,h2,h3,hi,h4,h5,hs⟩ hK
 have hrun:(execOp a.eval o).run C.E.P w=.ok (.value (.map (some w.heap.size))) (w.alloc (.map #[] 0)):=by
  simp[execOp,ho,Instr.makeMap,Result.andThen]
 unfold Oper.wp;rw[hrun];refine hK _ _ (am3 h1 h2 h3 hi h4 h5 hs hd (x:=.map kd []) (c:=0) (n:=0) ⟨#[],(MapKept.heap_alloc w _).1,rfl,fun i e x he=>by simp at he,fun x hx=>by simp at hx,h1.new (fz6 _),fun hf=>absurd (hi.flt _ hf) (gg9 _)⟩ ⟨w.heap.size,0,0,?_,rfl⟩);rw[←hi.len];simp
theorem obMap{w:World}{F:Nat→Prop}{σ:Sg}{B:Nat→Prop}{kd:TypeDesc}{ys:List (Value × D)}{b c n:Nat}{es es':Array MapEntry}(q1:w.heap[b]? =some (.map es es.size))(q5: ¬ B b)(q6: ¬ F b)(hl:es'.size=ys.length)
  (h3:∀(i:Nat) e x,es'[i]? =some e→ys[i]? =some x→(e.key=x.1∧e.born=i)∧Rd w F x.2 e.val)(h4:∀x∈ys,MapKept.IsKey kd x.1):
  aa6 {w with heap:=w.heap.setIfInBounds b (.map es' es'.size)} F σ B (.map kd ys) (b,c,n):=by
 have hh:=MapKept.heap_set (o':=.map es' es'.size) q1;refine⟨es',hh.1,hl,fun i e x he hx=>⟨(h3 i e x he hx).1,(h3 i e x he hx).2.mono (fun _ h=>h) fun k hk=>hh.2 k (fun e=>q6 (e ▸ hk))⟩,h4,q5,q6⟩
theorem bl1{a:Act}{w:World}{F:Nat→Prop}{σ:Sg}{k b c n:Nat}{kd:TypeDesc}{xs ys:List (Value × D)}{es es':Array MapEntry}(h1:aa7 C.O C.w0 w)(h2:∀b,C.F0 b→F b)(h3:∀b,F b→C.F0 b∨ ¬ C.O b)(hi:ab2 C.E C.base F σ s.ob w)
  (h4:a.defers=[])(h5:a.tmps.size=C.N)(hs:∀t,RdX w F σ (lk s.tm t) (a.tmps.getD t undef))(hob:s.ob[k]? =some (.map kd xs))(p1:σ[k]? =some (b,c,n))(q1:w.heap[b]? =some (.map es es.size))(q5: ¬ C.O b)(q6: ¬ F b)
  (hl:es'.size=ys.length)(h3':∀(i:Nat) e x,es'[i]? =some e→ys[i]? =some x→(e.key=x.1∧e.born=i)∧Rd w F x.2 e.val)(h4':∀x∈ys,MapKept.IsKey kd x.1):
  C.Rel (s.setOb k (.map kd ys)) a {w with heap:=w.heap.setIfInBounds b (.map es' es'.size)}:=by
 have hh:=MapKept.heap_set (o':=.map es' es'.size) q1;have hsz:(w.heap.setIfInBounds b (.map es' es'.size)).size=w.heap.size:=Oc
 refine⟨F,σ,⟨h1.os,h1.tape,h1.output,by show _≤(w.heap.setIfInBounds b _).size;rw[hsz];exact h1.size,fun j hj=>(hh.2 j fun e=>q5 (e ▸ hj)).trans (h1.block j hj),h1.old⟩,h2,h3,hi.turnW hob rfl p1 q6 hsz (fun j hj=>hh.2 j hj) (obMap q1 q5 q6 hl h3' h4'),h4,h5,fun t=>?_⟩;exact(hs t).mono (fun _ h=>h) (fun j hj=>hh.2 j fun e=>q6 (e ▸ hj)) fun _ _ h=>h
end
section
variable{C:Cx}{K:St→Prop}{all:Array Oper}{pu:Bool}{rest:List Oper}{tm:List (Nat × X)}{ob:List aa5}{d:Nat}{o:Oper}
theorem bl2{t kt et:TypeId}{kd:TypeDesc}(ho:o.op=.makeMap t none)(hg:ap8 all tm o=some true)(hdst:o.dst=some d)(hd:Nat.blt d C.N=true)(hm:at8 C.E t=some (.map kt et))(hk:at8 C.E kt=some kd)(h:SGo C all false rest ⟨(d,.mp ob.length)::tm,ob++ [.map kd []]⟩ K):SGo C all false (o::rest) ⟨tm,ob⟩ K:=by
 refine SGo.eff (ap9 hg) (bl0 (kd:=kd) ho (by simp only[ac9,hdst];exact hd)) ?_;rw[hdst];exact h
end
end Go.Abs
namespace Go.Abs
open Go Go.RowKit
theorem ab2.recell{E:Env}{B:ab1}{F:Nat→Prop}{σ:Sg}{ob:List aa5}{w:World}{k:Nat}{ty:TypeId}{vc:VC}(hi:ab2 E B F σ ob w)(hk:ob[k]? =some (.var ty vc)):ab2 E B F σ (ob.set k (.var ty (.cs vc.cells))) w:=by
 have hlt:k<ob.length:=(fy9.1 hk).1
 have hget:∀(i:Nat) (y:aa5),(ob.set k (.var ty (.cs vc.cells)))[i]? =some y→(i=k∧y=.var ty (.cs vc.cells))∨ob[i]? =some y:=by
  intro i y hy
  by_cases h:i=k
  ·subst h;rw[List.getElem?_set_self hlt]at hy
   cases hy
   exact .inl ⟨rfl,rfl⟩
  ·rw[gj0 (Ne.symm h)]at hy;exact .inr hy
 have hliv:∀(i:Nat) (y:aa5),(ob.set k (.var ty (.cs vc.cells)))[i]? =some y→y.live=true→∃z,ob[i]? =some z∧z.live=true:=by
  intro i y hy hl;rcases hget i y hy with⟨rfl,rfl⟩|h
  ·exact⟨_,hk,rfl⟩
  ·exact⟨y,h,hl⟩
 refine⟨hi.flt,hi.glob,by rw[List.length_set];exact hi.len,fun o x p hx hp=>?_,fun o o' x x' p p' hne hx hlx hx' hlx' hp hp'=>?_,hi.pre⟩
 ·rcases hget o x hx with⟨rfl,rfl⟩|hx
  ·have hob:=hi.obs o _ p hk hp;obtain⟨pb,pc,pn⟩:=p;exact hob
  ·exact hi.obs o x p hx hp
 ·obtain⟨z,hz,hzl⟩:=hliv o x hx hlx;obtain⟨z',hz',hzl'⟩:=hliv o' x' hx' hlx';exact hi.inj o o' z z' p p' hne hz hzl hz' hzl' hp hp'
section
variable{C:Cx}{s:St}{o:Oper}{p:Prop}{x:X}
theorem bl3{t:TypeId}{y:Operand}{k off:Nat}{ty:TypeId}{vc:VC}(ho:o.op=.load t y)(hy:s.ev C.E y=.ptr k off)(hob:s.ob[k]? =some (.var ty vc))
  (h:ag4 C.E (s.ob.set k (.var ty (.cs vc.cells))) t (.ptr k off)=some (p,x)):VOp C s o x:=by
 refine VOp.pure_ fun F σ w a hi hr=>?_
 have h0:=hr y (by simp[ho,Op.operands]);rw[hy]at h0;obtain⟨v,h1,h2⟩:=ak1 (hi.recell hob) h0 h;exact⟨v,by simp[execOp,ho,h1],h2⟩
theorem bl4{t:TypeId}{y:Operand}{z:D}(n:Nat)(ho:o.op=.load t y)(hy:s.ev C.E y=.at_ z 0)
  (h:ag4 C.E s.ob t (.at_ (.agg (z.cells.take n)) 0)=some (p,x)):VOp C s o x:=by
 refine VOp.pure_ fun F σ w a hi hr=>?_
 have h0:=hr y (by simp[ho,Op.operands]);rw[hy]at h0;obtain⟨ad,⟨hF,hone,hm⟩,hv⟩:=h0
 have h0':RdX w F σ (.at_ (.agg (z.cells.take n)) 0) (a.eval y):=by
  refine⟨ad,⟨hF,fun c hc=>hone c (gg6 hc),fun j c hj=>hm j c ?_⟩,hv⟩;have hj':(z.cells.take n)[j]? =some c:=hj;rw[ga5]at hj';split at hj'
  ·exact hj'
  ·cases hj'
 obtain⟨v,h1,h2⟩:=ak1 hi h0' h;exact⟨v,by simp[execOp,ho,h1],h2⟩
end
section
variable{C:Cx}{all:Array Oper}{pu:Bool}{rest:List Oper}{tm:List (Nat × X)}{ob:List aa5}{K:St→Prop}{o:Oper}{d:Nat}{p:Prop}{x:X}
theorem bl5{t:TypeId}{y:Operand}{k off:Nat}{ty:TypeId}{vc:VC}(ho:o.op=.load t y)(hg:ap8 all tm o=some true)(hdst:o.dst=some d)(hd:Nat.blt d C.N=true)(hy:(⟨tm,ob⟩:St).ev C.E y=.ptr k off)(hob:ob[k]? =some (.var ty vc))
  (hl:ag4 C.E (ob.set k (.var ty (.cs vc.cells))) t (.ptr k off)=some (p,x))(h:SGo C all pu rest ⟨(d,x)::tm,ob⟩ K):SGo C all pu (o::rest) ⟨tm,ob⟩ K:=
 av2 hg hdst hd (bl3 ho hy hob hl) h
theorem bl6{t:TypeId}{y:Operand}{z:D}(n:Nat)(ho:o.op=.load t y)(hg:ap8 all tm o=some true)(hdst:o.dst=some d)(hd:Nat.blt d C.N=true)(hy:(⟨tm,ob⟩:St).ev C.E y=.at_ z 0)
  (hl:ag4 C.E ob t (.at_ (.agg (z.cells.take n)) 0)=some (p,x))(h:SGo C all pu rest ⟨(d,x)::tm,ob⟩ K):SGo C all pu (o::rest) ⟨tm,ob⟩ K:=
 av2 hg hdst hd (bl4 n ho hy hl) h
end
end Go.Abs
namespace Go.Abs
open Go Go.RowKit
section
variable{C:Cx}{s:St}{o:Oper}{x:X}{p:Prop}
end
section
variable{C:Cx}{all:Array Oper}{pu:Bool}{rest:List Oper}{tm:List (Nat × X)}{ob:List aa5}{K:St→Prop}{o:Oper}{d:Nat}{p:Prop}{x:X}
end
end Go.Abs
namespace Go.Abs
open Go Go.RowKit
section
variable{C:Cx}{K:St→Prop}{all:Array Oper}{rest:List Oper}{tm:List (Nat × X)}{ob:List aa5}{d:Nat}{pu:Bool}{o:Oper}
end
end Go.Abs
namespace Go.Abs
open Go
theorem yz{P R:Prop}(h:R)(f:R→P:=by
  first
  |exact fun h=>zS rfl h|exact qA|exact qB rfl|exact qD|exact qF|exact qE|exact qG|exact fun h=>zT rfl h|exact fun h=>zU rfl h|exact qL rfl rfl|exact qH rfl|exact qM rfl rfl rfl|exact qC Ob|exact qO rfl rfl rfl):P:=f h
section
variable{C:Cx}{all:Array Oper}{pu:Bool}{K:St→Prop}{rest:List Oper}{o:Oper}{tm:List (Nat × X)}{ob:List aa5}{d:Nat}
theorem yp{y:Operand}{args:List Operand}{tys:Array TypeId}{f:FuncId}{ds:List D}{rx:X}(hb:an9 C.E f)(h0:Ev C.E f ds rx)(h:SGo C all pu rest ⟨(d,rx)::tm,ob⟩ K)
  (ho:o.op=.call {callee:=.value y,args:=args.toArray,argTypes:=tys}:=by exact rfl)(hg:ap8 all tm o=some true:=by exact rfl)(hdst:o.dst=some d:=by exact rfl)(hd:Nat.blt d C.N=true:=by exact rfl)
  (hf:(⟨tm,ob⟩:St).ev C.E y=.d (.imm (.func (.func f) #[] #[])):=by exact rfl)(hds:an7 C.E ⟨tm,ob⟩ args=some ds:=by exact rfl):SGo C all pu (o::rest) ⟨tm,ob⟩ K:=qP ho hg hdst hd hf hds hb h0 h
theorem yi{t:TypeId}{y z:Operand}{xs:List D}{k:IntKind}{i:Int}{te:TE}(x:D)(hx:xs[i.toNat]? =some x)(h:SGo C all pu rest ⟨(d,.at_ x 0)::tm,ob⟩ K)(ho:o.op=.indexAddr t y z:=by exact rfl)(hg:ap8 all tm o=some true:=by exact rfl)(hdst:o.dst=some d:=by exact rfl)
  (hd:Nat.blt d C.N=true:=by exact rfl)(hy:(⟨tm,ob⟩:St).ev C.E y=.d (.sl xs):=by exact rfl)(hz:(⟨tm,ob⟩:St).ev C.E z=.d (.imm (.int k i)):=by exact rfl)(hte:al2 C.E t=some te:=by exact rfl)(hsz:Nat.beq x.cells.length te.size=true:=by exact rfl)
  (h0:0≤i:=by first|omega|decide):SGo C all pu (o::rest) ⟨tm,ob⟩ K:=qI x ho (ap9 hg) hdst hd hy hz hte hsz h0 hx h
theorem yc(sel:List Nat){y:Operand}{args:List Operand}{tys:Array TypeId}{f:FuncId}{cs xs:List X}{ob1 ob1' ob2:List aa5}{rx x2:X}(hb:an9 C.E f)(h0:EvS C.E f xs ob1 rx ob1')(h:SGo C all false rest ⟨(d,x2)::tm,ob2⟩ K)
  (ho:o.op=.call {callee:=.value y,args:=args.toArray,argTypes:=tys}:=by exact rfl)(hg:ap8 all tm o=some true:=by exact rfl)(hdst:o.dst=some d:=by exact rfl)(hd:Nat.blt d C.N=true:=by exact rfl)
  (hf:FnX ((⟨tm,ob⟩:St).ev C.E y) f cs:=by exact FnX.plain _)(hn:aw9 sel=true:=by exact rfl)(hob:aw8 sel ob sel=some ob1:=by exact rfl)(hx:aw5 sel (args.map (fun z=>nrm ((⟨tm,ob⟩:St).ev C.E z))++cs)=some xs:=by exact rfl)
  (hob2:ba9 (bk sel ob.length) sel ob1' ob=ob2:=by exact rfl)(hx2:bkX (bk sel ob.length) rx=x2:=by exact rfl):SGo C all false (o::rest) ⟨tm,ob⟩ K:=bc1 sel ho hg hdst hd hf hb h0 hn hob hx hob2 hx2 h
theorem yv{k:Nat}{tm:List (Nat × X)}{P:Prop}(h:P)(hb:TmB k tm:=by repeat(first|exact trivial|refine⟨rfl,?_⟩)):TmB k tm∧P:=⟨hb,h⟩
end
section
variable{C:Cx}{l:List Oper}{E:List Nat}{wob:List aa5}{ops:List Oper}{tm:List (Nat × X)}{ob:List aa5}{K:St→Prop}{r:List It}{Q:Exit→St→Prop}
theorem yq(id:Nat)(E:List Nat)(h:RGo C id l E (List.replicate C.base.n0 aa5.dead) 0 l ⟨tm,ob⟩ (fun s'=>go C r s' Q))(ho:ad8 l=true:=by kernel_rfl)(hE:bg5 (bf5 l) E=true:=by kernel_rfl)
  (hw:wkP (List.replicate C.base.n0 aa5.dead).length (List.replicate C.base.n0 aa5.dead) ob:=by repeat(first|exact trivial|refine⟨⟨rfl,rfl⟩,?_⟩|refine⟨trivial,?_⟩)):go C (.code (.region id l.toArray true)::r) ⟨tm,ob⟩ Q:=qR0 E ho hE hw h
theorem yf(id i n:Nat)(h:SGo C l.toArray true (ops.take n) ⟨tm,ob⟩ (fun s1=>RGo C id l E wob (i+n) (ops.drop n) ⟨s1.tm,ob⟩ K))(hc:rgFB l E i n=true:=by kernel_rfl)(hn:Nat.ble n ops.length=true:=by exact rfl):RGo C id l E wob i ops ⟨tm,ob⟩ K:=rgF n hc hn h
end
theorem yy{P R1 R2:Prop}(h1:R1)(h2:R2)(f:R1→R2→P:=by exact qY rfl rfl rfl rfl):P:=f h1 h2
theorem yx{P R:Prop}(h:R)(f:R→P:=by first|exact fun h=>zX rfl rfl rfl rfl h|exact fun h=>zW rfl rfl rfl rfl h):P:=f h
theorem yw{P R:Prop}(h:R)(f:R→P:=by
  first
  |exact bh0 rfl rfl rfl rfl rfl rfl rfl rfl rfl rfl rfl Oj
  |exact bh1 rfl rfl rfl rfl rfl rfl rfl Oj
  |exact rgBox rfl rfl rfl rfl rfl rfl rfl Oj
  |exact bk2 rfl rfl rfl rfl rfl rfl rfl Oj
  |exact bh2 _ rfl rfl rfl rfl rfl rfl rfl Of rfl rfl rfl Oj
  |exact fun h=>rgS rfl rfl rfl rfl (by first|exact True.intro|rfl|assumption|omega|(simp only[inR];omega)|((show _≤(9223372036854775807:Nat));(try simp only[ByteArray.size_append]);omega)|exact av7 Oa Oa|exact av8 Oa Oa|exact⟨rfl,by decide,by decide⟩) Oj h):P:=f h
theorem yF(p:Prop)[Decidable p](h: ¬p):decide p=false:=decide_eq_false h
theorem yT(p:Prop)[Decidable p](h:p):decide p=true:=decide_eq_true h
section
variable{C:Cx}{all:Array Oper}{pu:Bool}{K:St→Prop}{rest:List Oper}{o:Oper}{tm:List (Nat × X)}{ob ob':List aa5}{d:Nat}{r:List It}{fn:Func}
theorem yl{t te:TypeId}{y:Operand}{i k off size:Nat}{xs:List D}{e:D}{x:X}{p:Prop}(he:xs[i]? =some e)(h:SGo C all pu rest ⟨(d,x)::tm,ob⟩ K)(ho:o.op=.load t y:=by exact rfl)(hg:ap8 all tm o=some true:=by exact rfl)(hdst:o.dst=some d:=by exact rfl)(hd:Nat.blt d C.N=true:=by exact rfl)
  (hy:(⟨tm,ob⟩:St).ev C.E y=.pel k i off size:=by exact rfl)(hob:ob[k]? =some (.row te size xs):=by exact rfl)(hl:ag4 C.E ob t (.at_ e off)=some (p,x):=by exact rfl):SGo C all pu (o::rest) ⟨tm,ob⟩ K:=qW e ho hg hdst hd hy hob he hl h
theorem yr(ks:List Nat){q:ResultVar}{d d':D}(he:d=d')(hn:aw9 ks=true:=by exact rfl)(hk0:((List.range C.base.n0).all fun i=>ks[i]? ==some i)=true:=by exact rfl)(hob:aw8 ks ob ks=some ob':=by exact rfl)(hr:fn.results= #[q]:=by exact rfl)(h:ao4 C ⟨tm,ob⟩ q=some d:=by exact rfl):
  go C (.code .ret::r) ⟨tm,ob⟩ (bh4 C fn (.d d') ob'):=retD1 ks hn hk0 hob hr h he
theorem yt(ks:List Nat){q q':ResultVar}{d d':D}{l:List D}(he:[d,d']=l)(hn:aw9 ks=true:=by exact rfl)(hk0:((List.range C.base.n0).all fun i=>ks[i]? ==some i)=true:=by exact rfl)(hob:aw8 ks ob ks=some ob':=by exact rfl)(hr:fn.results= #[q,q']:=by exact rfl)(h:ao4 C ⟨tm,ob⟩ q=some d:=by exact rfl)(h':ao4 C ⟨tm,ob⟩ q'=some d':=by exact rfl):
  go C (.code .ret::r) ⟨tm,ob⟩ (bh4 C fn (.tup l) ob'):=retD2 ks hn hk0 hob hr h h' he
theorem yo(ks:List Nat)(hn:aw9 ks=true:=by exact rfl)(hk0:((List.range C.base.n0).all fun i=>ks[i]? ==some i)=true:=by exact rfl)(hob:aw8 ks ob ks=some ob':=by exact rfl)(hr:fn.results= #[]:=by exact rfl):go C [] ⟨tm,ob⟩ (bc3 C fn (.tup []) ob'):=bc5 ks hn hk0 hob hr
end
section
variable{E:Env}{f:FuncId}{fn:Func}{c:Code}{rx:X}{N:Nat}{d0 d1 d2:D}
theorem ye1(hf:E.P.funcs[f]? =some fn)(hN:fn.ntmps=N)(h:∀(w0:World) (F0 O:Nat→Prop),go ⟨E,w0,F0,N,⟨O,0,[]⟩⟩ [.code c] ⟨[(0,.d d0)],[]⟩ (ao3 ⟨E,w0,F0,N,⟨O,0,[]⟩⟩ fn rx))(hb:fn.body=some c:=by exact rfl)(hle:Nat.ble 1 N=true:=by exact rfl):Ev E f [d0] rx:=aq3 hf hN hb hle h
theorem ye2(hf:E.P.funcs[f]? =some fn)(hN:fn.ntmps=N)(h:∀(w0:World) (F0 O:Nat→Prop),go ⟨E,w0,F0,N,⟨O,0,[]⟩⟩ [.code c] ⟨[(0,.d d0),(1,.d d1)],[]⟩ (ao3 ⟨E,w0,F0,N,⟨O,0,[]⟩⟩ fn rx))(hb:fn.body=some c:=by exact rfl)(hle:Nat.ble 2 N=true:=by exact rfl):Ev E f [d0,d1] rx:=aq4 hf hN hb hle h
theorem ye3(hf:E.P.funcs[f]? =some fn)(hN:fn.ntmps=N)(h:∀(w0:World) (F0 O:Nat→Prop),go ⟨E,w0,F0,N,⟨O,0,[]⟩⟩ [.code c] ⟨[(0,.d d0),(1,.d d1),(2,.d d2)],[]⟩ (ao3 ⟨E,w0,F0,N,⟨O,0,[]⟩⟩ fn rx))(hb:fn.body=some c:=by exact rfl)(hle:Nat.ble 3 N=true:=by exact rfl):Ev E f [d0,d1,d2] rx:=aq5 hf hN hb hle h
variable{xs:List X}{ob ob':List aa5}{tm:List (Nat × X)}{n:Nat}
theorem yn(hf:E.P.funcs[f]? =some fn)(hN:fn.ntmps=N)(h:∀(w0:World) (F0 O:Nat→Prop) (σ0:Sg),go ⟨E,w0,F0,N,⟨O,n,σ0⟩⟩ [.code c] ⟨tm,ob⟩ (bc3 ⟨E,w0,F0,N,⟨O,n,σ0⟩⟩ fn rx ob'))(hb:fn.body=some c:=by exact rfl)(hle:Nat.ble xs.length N=true:=by exact rfl)
  (hn:ob.length=n:=by(dsimp only[List.range,List.range.loop,List.zip,List.zipWith,List.length]<;>exact rfl))(ht:(List.range xs.length).zip xs=tm:=by(dsimp only[List.range,List.range.loop,List.zip,List.zipWith,List.length]<;>exact rfl)):EvS E f xs ob rx ob':=by
 subst hn ht;exact EvS.enter hf hN hb hle h
theorem yd(hf:E.P.funcs[f]? =some fn)(hN:fn.ntmps=N)(h:∀(w0:World) (F0 O:Nat→Prop) (σ0:Sg),go ⟨E,w0,F0,N,⟨O,n,σ0⟩⟩ [.code c] ⟨tm,ob⟩ (bh4 ⟨E,w0,F0,N,⟨O,n,σ0⟩⟩ fn rx ob'))(hb:fn.body=some c:=by exact rfl)(hle:Nat.ble xs.length N=true:=by exact rfl)
  (hn:ob.length=n:=by(dsimp only[List.range,List.range.loop,List.zip,List.zipWith,List.length]<;>exact rfl))(ht:(List.range xs.length).zip xs=tm:=by(dsimp only[List.range,List.range.loop,List.zip,List.zipWith,List.length]<;>exact rfl)):EvS E f xs ob rx ob':=by
 subst hn ht;exact EvS.enterD hf hN hb hle h
end
section
variable{C:Cx}{l:List Oper}{wob:List aa5}{E:List Nat}{ops:List Oper}{tm:List (Nat × X)}{ob:List aa5}{K:St→Prop}{r:List It}{Q:Exit→St→Prop}
theorem yu(id:Nat)(E T:List Nat)(h:RGo C id l E (bg8 T ob) 0 l ⟨tm,ob⟩ (fun s'=>go C r s' Q))(ho:ad8 l=true:=by kernel_rfl)(hE:bg5 (bf5 l) E=true:=by kernel_rfl)(hn:Nat.ble C.base.n0 (bg8 T ob).length=true:=by exact rfl)(hw:wkP (bg8 T ob).length (bg8 T ob) ob:=by repeat(first|exact trivial|refine⟨⟨rfl,rfl⟩,?_⟩|refine⟨trivial,?_⟩)):go C (.code (.region id l.toArray true)::r) ⟨tm,ob⟩ Q:=qRT E T ho hE hn hw h
theorem yk(id i n:Nat)(h:SGo C l.toArray true (ops.take n) ⟨tm,wob⟩ (fun s1=>TmB wob.length s1.tm∧RGo C id l E wob (i+n) (ops.drop n) ⟨s1.tm,ob⟩ K))(hc:rgWB E i n=true:=by kernel_rfl)(hn:Nat.ble n ops.length=true:=by exact rfl)(hnd:bg7 (ops.take n)=true:=by kernel_rfl)(hb:TmB wob.length tm:=by repeat(first|exact trivial|refine⟨rfl,?_⟩)):RGo C id l E wob i ops ⟨tm,ob⟩ K:=rgW n hc hn hnd hb h
end
end Go.Abs
namespace Go.Abs
open Go Go.RowKit
section
variable{C:Cx}{s:St}{o:Oper}
end
section
variable{C:Cx}{s:St}{o:Oper}
end
section
variable{C:Cx}{all:Array Oper}{pu:Bool}{K:St→Prop}{rest:List Oper}{tm:List (Nat × X)}{ob:List aa5}{d:Nat}{o:Oper}
end
end Go.Abs
namespace Go.Abs
open Go Go.RowKit
section
variable{C:Cx}{s:St}{o:Oper}
theorem bl7{t t':TypeId}{y z:Operand}{te:TE}{e':TypeId}{k:Nat}{xs:List D}(ho:o.op=.call {callee:=.builtin .append,args:= #[y,z],argTypes:= #[t,t']})(hte:al2 C.E t=some te)(hd':at8 C.E t'=some (.slice e'))
  (hy':s.ev C.E y=.own k)(hob:s.ob[k]? =some (.row te.t te.size xs))(hz':s.ev C.E z=.d (.sl [])):VOp C s o (.own k):=by
 obtain⟨hu,hok⟩:=al3 hte;refine VOp.pure_ fun F σ w a hi hr=>?_
 have hy:=hr y (by simp[ho,Op.operands,Call.operands]);have hz:=hr z (by simp[ho,Op.operands,Call.operands]);rw[hy']at hy;rw[hz']at hz
 have key:∀v,(Builtin.append_ #[t,t'] o.type #[a.eval y,a.eval z]).run C.E.P w=.ok v w→(execOp a.eval o).run C.E.P w=.ok (.value v) w:=by
  intro v hv;simp[execOp,ho,resolve,invoke,builtin,hv]
 have hzv:∃zb zc,a.eval z=.slice zb 0 zc:=by
  rcases Rd.sl_inv hz with⟨-,e⟩|⟨_,ad,cap,e,-⟩
  ·exact⟨_,_,e⟩
  ·exact⟨_,_,e⟩
 obtain⟨zb,zc,ez⟩:=hzv;refine⟨a.eval y,key _ ?_,hy⟩;obtain⟨b,c,n,p1,p2⟩:=hy;obtain⟨vs,q1,q2,q3,q4,-⟩:=hi.obs k _ _ hob p1;rw[p2,ez];exact ay6 hu hok (at9 hd') q4
end
section
variable{C:Cx}{all:Array Oper}{pu:Bool}{K:St→Prop}{rest:List Oper}{tm:List (Nat × X)}{ob:List aa5}{d:Nat}{o:Oper}
theorem bl8{t t':TypeId}{y z:Operand}{te:TE}{e':TypeId}{k:Nat}{xs:List D}(ho:o.op=.call {callee:=.builtin .append,args:= #[y,z],argTypes:= #[t,t']})
  (hg:ap8 all tm o=some true)(hdst:o.dst=some d)(hd:Nat.blt d C.N=true)(hte:al2 C.E t=some te)(hd':at8 C.E t'=some (.slice e'))(hy':(⟨tm,ob⟩:St).ev C.E y=.own k)(hob:ob[k]? =some (.row te.t te.size xs))(hz':(⟨tm,ob⟩:St).ev C.E z=.d (.sl []))
  (h:SGo C all pu rest ⟨(d,.own k)::tm,ob⟩ K):SGo C all pu (o::rest) ⟨tm,ob⟩ K:=
 av2 hg hdst hd (bl7 ho hte hd' hy' hob hz') h
end
end Go.Abs
namespace Go.Abs
open Go Go.RowKit
theorem Le.dead{C:Cx}{tm:List (Nat × X)}{ob:List aa5}:Le C ⟨tm,ob⟩ ⟨tm,ob++ [.dead]⟩:=by
 rintro a w ⟨F,σ,h1,h2,h3,hi,h4,h5,hs⟩
 have hget:∀(o:Nat) (x:aa5) (p:Nat × Nat × Nat),(ob++ [aa5.dead])[o]? =some x→(σ++ [(0,0,0)])[o]? =some p→x.live=true→ob[o]? =some x∧σ[o]? =some p:=by
  intro o x p hx hp hl
  have hlt:o<ob.length:=by
   rcases fy5 o ob.length with h|h
   ·exact h
   ·rw[ga7 h]at hx;rcases gh7 (o-ob.length)with e|e
    ·rw[e]at hx;cases hx;simp[aa5.live]at hl
    ·rw[gc5 Og]at hx;cases hx
  rw[ga0 hlt]at hx;rw[ga0 (by rw[hi.len];exact hlt)]at hp;exact⟨hx,hp⟩
 refine⟨F,σ++ [(0,0,0)],h1,h2,h3,⟨hi.flt,hi.glob,by simp[hi.len],fun o x p hx hp=>?_,fun o o' x x' p p' hne hx hl hx' hl' hp hp'=>?_,fun i p hp hq=>σ_app _ _ (hi.pre i p hp hq)⟩,h4,h5,fun t=>(hs t).mono (fun _ h=>h) (fun _ _=>rfl) σ_app⟩
 ·cases hl:x.live with
  |false=>
   cases x with
   |dead=>trivial
   |_=>simp[aa5.live]at hl
  |true=>
   obtain⟨g1,g2⟩:=hget o x p hx hp hl;exact(hi.obs o x p g1 g2).mono (fun _ h=>h) (fun _ _=>rfl) σ_app (fun _=>rfl) (fun _ h=>h)
 ·obtain⟨g1,g2⟩:=hget o x p hx hp hl;obtain⟨g3,g4⟩:=hget o' x' p' hx' hp' hl';exact hi.inj o o' x x' p p' hne g1 hl g3 hl' g2 g4
section
variable{C:Cx}{r:List It}{Q:Exit→St→Prop}{tm:List (Nat × X)}{ob:List aa5}{c:Code}
theorem bl9(h:go C (.code c::r) ⟨tm,ob++ [.dead]⟩ Q):go C (.code c::r) ⟨tm,ob⟩ Q:=ac7 Le.dead h
end
end Go.Abs
namespace Go.Abs
open Go Go.RowKit
section
variable{C:Cx}{s:St}{o:Oper}
theorem bm0{t kt et:TypeId}{y z v:Operand}{k:Nat}{kd:TypeDesc}{xs:List (Value × D)}{kv:Value}{e:D}(ho:o.op=.mapUpdate t y z v)(hdst:o.dst=none)(hy:s.ev C.E y=.mp k)(hz:s.ev C.E z=.d (.imm kv))(hv:toD (s.ev C.E v)=some e)
  (hob:s.ob[k]? =some (.map kd xs))(hm:at8 C.E t=some (.map kt et))(hk:at8 C.E kt=some kd)(hkv:keyB kd kv=true):SOp C s o (s.setOb k (.map kd (bk7 kv e xs))):=by
 rintro w a K Q ⟨F,σ,h1,h2,h3,hi,h4,h5,hs⟩ hK;have g1:=ab6 (E:=C.E) hi hs y;have g2:=ab6 (E:=C.E) hi hs z;have g3:=ao5 hv (ab6 (E:=C.E) hi hs v);rw[hy]at g1;rw[hz]at g2;obtain⟨b,c,n,p1,p2⟩:=g1;obtain⟨e2,-⟩:=Rd.imm_inv g2;obtain⟨es,q1,q2,q3,q4,q5,q6⟩:=hi.obs k _ _ hob p1;have hkk:=bk5 hkv;have hf:=bk9 hkk es.toList xs 0 (by simpa using q2) (fun j e x he hx=>(q3 j e x (by simpa using he) hx).1.1) q4
 cases hi':bk6 kv xs with
 |none=>
  rw[hi']at hf;have hp:bk7 kv e xs=xs++ [(kv,e)]:=by rw[bk7,hi']
  have hrun:(execOp a.eval o).run C.E.P w=.ok .skip {w with heap:=w.heap.setIfInBounds b (.map (es.push {key:=kv,val:=a.eval v,born:=es.size}) (es.size+1))}:=by
   simp[execOp,ho,p2,e2,Instr.mapUpdate,run_underlying (at9 hm),MapKept.run_getObj_map q1,MapKept.run_checkKey (at9 hk) hkk,MapKept.run_findKey (at9 hk) hf,MapKept.run_setObj_map _ q1,Result.andThen]
  unfold Oper.wp;rw[hp]at hK;rw[hrun];simp only[Oper.upon];rw[hdst];have:=bl1 (s:=s) (ys:=xs++ [(kv,e)]) (es':=es.push {key:=kv,val:=a.eval v,born:=es.size}) h1 h2 h3 hi h4 h5 hs hob p1 q1 q5 q6 (by simp[q2]) (fun i u x he hx=>?_) (fun x hx=>?_)
  ·rw[Array.size_push]at this;exact hK _ _ this
  ·rcases fy5 i xs.length with hlt|hge
   ·rw[ga0 hlt]at hx;rw[Array.getElem?_push,if_neg Oa]at he;exact q3 i u x he hx
   ·have hie:i=xs.length:=by
     have:=(fy9.1 hx).1;simp at this;omega
    subst hie;rw[ga7 (fz6 _),Nat.sub_self]at hx;rw[Array.getElem?_push,if_pos q2.symm]at he
    cases hx
    cases he
    exact⟨⟨rfl,q2⟩,g3⟩
  ·rcases gb2.1 hx with hx|hx
   ·exact q4 x hx
   ·rw[ga4.1 hx];exact hkk
 |some i=>
  rw[hi']at hf;obtain⟨x,hx,hxv⟩:=bk8 hi';have hix:i<xs.length:=(fy9.1 hx).1;have hil:i<es.size:=Oa
  obtain⟨u,he⟩:∃u,es[i]? =some u:=⟨es[i],by simp[hil]⟩;have hf':Instr.findNow kd kv es.toList 0=some (some (i,u.val)):=by rw[hf];simp[he]
  have hkx:kv=x.1:=(bk4 hkk (q4 x (fy6 hx))).1 hxv;obtain⟨⟨hek,heb⟩,hev⟩:=q3 i u x he hx;have hekv:u.key=kv:=by rw[hek,hkx]
  have hp:bk7 kv e xs=xs.set i (kv,e):=by rw[bk7,hi']
  have hrun:(execOp a.eval o).run C.E.P w=.ok .skip {w with heap:=w.heap.setIfInBounds b (.map (es.modify i fun e'=>{e' with key:=kv,val:=a.eval v}) es.size)}:=by
   simp[execOp,ho,p2,e2,Instr.mapUpdate,run_underlying (at9 hm),MapKept.run_getObj_map q1,MapKept.run_checkKey (at9 hk) hkk,MapKept.run_findKey (at9 hk) hf',he,hekv,MapKept.run_keyThatStays hkk,MapKept.run_setObj_map _ q1,Result.andThen]
  unfold Oper.wp;rw[hp]at hK;rw[hrun];simp only[Oper.upon];rw[hdst];have:=bl1 (s:=s) (ys:=xs.set i (kv,e)) (es':=es.modify i fun e'=>{e' with key:=kv,val:=a.eval v}) h1 h2 h3 hi h4 h5 hs hob p1 q1 q5 q6 (by simp[q2]) (fun j w' v' hu hv'=>?_) (fun u' hu=>?_)
  ·rw[Array.size_modify]at this;exact hK _ _ this
  ·rw[Array.getElem?_modify]at hu;rw[ge2]at hv';split at hu
   ·rename_i e1
    subst e1;rw[if_pos rfl,if_pos hix]at hv'
    cases hv'
    rw[fz9]at hu;obtain⟨u0,hu0,rfl⟩:=hu;rw[he]at hu0
    cases hu0
    exact⟨⟨rfl,heb⟩,g3⟩
   ·rename_i e1
    rw[if_neg e1]at hv';exact q3 j w' v' hu hv'
  ·rcases gi8 hu with h|h
   ·exact q4 u' h
   ·rw[h];exact hkk
end
section
variable{C:Cx}{K:St→Prop}{all:Array Oper}{pu:Bool}{rest:List Oper}{tm:List (Nat × X)}{ob:List aa5}{d:Nat}{o:Oper}
theorem bm1{t kt et:TypeId}{y z v:Operand}{k:Nat}{kd:TypeDesc}{xs:List (Value × D)}{kv:Value}{e:D}(h:SGo C all false rest ⟨tm,ob.set k (.map kd (bk7 kv e xs))⟩ K)(ho:o.op=.mapUpdate t y z v:=by exact rfl)(hg:ap8 all tm o=some true:=by exact rfl)(hdst:o.dst=none:=by exact rfl)(hy:(⟨tm,ob⟩:St).ev C.E y=.mp k:=by exact rfl)(hz:(⟨tm,ob⟩:St).ev C.E z=.d (.imm kv):=by exact rfl)
  (hv:toD ((⟨tm,ob⟩:St).ev C.E v)=some e:=by exact rfl)(hob:ob[k]? =some (.map kd xs):=by exact rfl)(hm:at8 C.E t=some (.map kt et):=by exact rfl)(hk:at8 C.E kt=some kd:=by exact rfl)(hkv:keyB kd kv=true:=by exact rfl):SGo C all false (o::rest) ⟨tm,ob⟩ K:=
 SGo.eff (ap9 hg) (bm0 ho hdst hy hz hv hob hm hk hkv) h
end
end Go.Abs
namespace Go.Abs
open Go Go.RowKit
section
variable{C:Cx}{s:St}{o:Oper}
theorem bm2{t t':TypeId}{y z:Operand}{te:TE}{e':TypeId}(ho:o.op=.call {callee:=.builtin .append,args:= #[y,z],argTypes:= #[t,t']})(hte:al2 C.E t=some te)(hd':at8 C.E t'=some (.slice e'))
  (hy':s.ev C.E y=.nilS)(hz':s.ev C.E z=.d (.sl [])):VOp C s o .nilS:=by
 obtain⟨hu,hok⟩:=al3 hte;refine VOp.pure_ fun F σ w a hi hr=>?_
 have hy:=hr y (by simp[ho,Op.operands,Call.operands]);have hz:=hr z (by simp[ho,Op.operands,Call.operands]);rw[hy']at hy;rw[hz']at hz
 have key:∀v,(Builtin.append_ #[t,t'] o.type #[a.eval y,a.eval z]).run C.E.P w=.ok v w→(execOp a.eval o).run C.E.P w=.ok (.value v) w:=by
  intro v hv;simp[execOp,ho,resolve,invoke,builtin,hv]
 have hzv:∃zb zc,a.eval z=.slice zb 0 zc:=by
  rcases Rd.sl_inv hz with⟨-,e⟩|⟨_,ad,cap,e,-⟩
  ·exact⟨_,_,e⟩
  ·exact⟨_,_,e⟩
 obtain⟨zb,zc,ez⟩:=hzv;refine⟨a.eval y,key _ ?_,hy⟩;rw[show a.eval y=.slice none 0 0 from hy,ez];exact ay6 hu hok (at9 hd') (fz6 _)
end
section
variable{C:Cx}{all:Array Oper}{pu:Bool}{K:St→Prop}{rest:List Oper}{tm:List (Nat × X)}{ob:List aa5}{d:Nat}{o:Oper}
theorem bm3{t t':TypeId}{y z:Operand}{te:TE}{e':TypeId}(h:SGo C all pu rest ⟨(d,.nilS)::tm,ob⟩ K)(ho:o.op=.call {callee:=.builtin .append,args:= #[y,z],argTypes:= #[t,t']}:=by exact rfl)
  (hg:ap8 all tm o=some true:=by exact rfl)(hdst:o.dst=some d:=by exact rfl)(hd:Nat.blt d C.N=true:=by exact rfl)(hte:al2 C.E t=some te:=by exact rfl)(hd':at8 C.E t'=some (.slice e'):=by exact rfl)(hy':(⟨tm,ob⟩:St).ev C.E y=.nilS:=by exact rfl)(hz':(⟨tm,ob⟩:St).ev C.E z=.d (.sl []):=by exact rfl):SGo C all pu (o::rest) ⟨tm,ob⟩ K:=
 av2 hg hdst hd (bm2 ho hte hd' hy' hz') h
end
end Go.Abs
namespace Go.Abs
open Go Go.RowKit
def Dn(eff:Nat→Bool)(L:Array Bool):Nat→Bool:=fun i=>eff i&&L.getD i false
structure bm4(ops:List Oper)(eff:Nat→Bool)(i:Nat)(D:Nat→Bool):Prop where
 sub:∀j,D j=true→eff j=true
 pre:∀j,eff j=true→bf2 ops j i→D j=true
 post:∀j,eff j=true→bf2 ops i j→D j=false
structure Dr2(C:Cx)(s:St)(xs:List (Oper × Option X))(ops:List Oper)(obT:(Nat→Bool)→List aa5)(eff:Nat→Bool)(L:Array Bool)(a:Act)(w:World):Prop where
 size:L.size=ops.length
 down:bf1 ops L
 rel:∃tm,C.Rel ⟨tm,obT (Dn eff L)⟩ a w∧
  (∀t,(∀(j:Nat) o,ops[j]? =some o→L.getD j false=true→o.dst≠some t)→lk tm t=lk s.tm t)∧
  (∀(j:Nat) o x t,xs[j]? =some (o,x)→L.getD j false=true→o.dst=some t→lk tm t=x.getD .und)
theorem Dr2.all{C:Cx}{s:St}{xs:List (Oper × Option X)}{ops:List Oper}{obT:(Nat→Bool)→List aa5}{eff:Nat→Bool}(hx:xs.map (·.1)=ops)(ho:ad9 ops)
  (hdk:∀(i:Nat) o x,xs[i]? =some (o,x)→ac9 C o=true∧ad3 ops.toArray (stps s (xs.take i)) o x.isSome)
  (hv:∀(i:Nat) o x,eff i=false→xs[i]? =some (o,x)→∀y,x=some y→∀D,bm4 ops eff i D→VOp C ⟨(stps s (xs.take i)).tm,obT D⟩ o y)
  (hve:∀(i:Nat) o x,eff i=true→xs[i]? =some (o,x)→∃y,x=some y∧∀D,bm4 ops eff i D→D i=false→∀tm',(∀z∈o.op.operands.toList,(⟨tm',obT D⟩:St).ev C.E z=(⟨(stps s (xs.take i)).tm,obT D⟩:St).ev C.E z)→
   (∀t,lk tm' t=lk s.tm t∨∃j p z,j≠i∧ ¬ bf2 ops i j∧xs[j]? =some (p,z)∧lk tm' t=z.getD .und)→SOp C ⟨tm',obT D⟩ o ((⟨tm',obT (fun j=>D j||j==i)⟩:St).put o.dst y))
  {Q:Exit→Act→World→Prop}(hq:∀a w,C.Rel ⟨(stps s xs).tm,obT (fun j=>eff j&&decide (j<ops.length))⟩ a w→Q .normal a w):
  ∀(fuel:Nat) (L:Array Bool) (a:Act) (w:World),unl ops.length L≤fuel→Dr2 C s xs ops obT eff L a w→wpAny C.E.P .any ops.toArray Q fuel L a w:=by
 have hxo:∀(i:Nat) o,ops[i]? =some o→∃x,xs[i]? =some (o,x):=by
  intro i o hi;rw[←hx,fz1]at hi
  cases hxi:xs[i]? with
  |none=>rw[hxi]at hi;cases hi
  |some p=>rw[hxi]at hi;simp at hi;exact⟨p.2,by rw[←hi]⟩
 have hox:∀(i:Nat) o x,xs[i]? =some (o,x)→ops[i]? =some o:=by
  intro i o x hi;rw[←hx,fz1,hi];rfl
 have hdst:∀(j:Nat) (p:Oper) d,ops.toArray[j]? =some p→p.dst=some d→d<C.N:=by
  intro j p d hj hd;rw[gd4]at hj;obtain⟨x,hx'⟩:=hxo j p hj;exact ad1 (hdk j p x hx').1 d hd
 -- what a slot that the operation looks at holds
 have hlook:∀(i:Nat) (o:Oper) (x:Option X) (L:Array Bool) (tm:List (Nat × X)),xs[i]? =some (o,x)→L.getD i false=false→bf1 ops L→
   (∀e∈o.after,Region.binds .any e=true→L.getD e.on false=true)→
   (∀t,(∀(j:Nat) o,ops[j]? =some o→L.getD j false=true→o.dst≠some t)→lk tm t=lk s.tm t)→
   (∀(j:Nat) o x t,xs[j]? =some (o,x)→L.getD j false=true→o.dst=some t→lk tm t=x.getD .und)→
   ∀t∈o.looksAt ops.toArray,lk tm t=lk (stps s (xs.take i)).tm t:=by
  intro i o x L tm hi hL hdown hready h1 h2 t ht
  by_cases hw:∃(j:Nat) (p:Oper),ops[j]? =some p∧p.dst=some t
  ·obtain⟨j,p,hj,hp⟩:=hw;obtain⟨y,hy⟩:=hxo j p hj;have huniq:∀(k:Nat) (q:Oper),k≠j→ops[k]? =some q→q.dst≠some t:=fun k q hk hq=>ho.uniq k j q p t hk hq hj hp
   by_cases hij:i=j
   ·subst hij
    have e:lk (stps s (xs.take i)).tm t=lk s.tm t:=by
     refine ae5 _ _ _ fun q hq=>?_
     obtain⟨k,hk⟩:=ga9 hq;rw[ga5]at hk;split at hk
     ·exact huniq k q.1 Oa (hox k q.1 q.2 hk)
     ·cases hk
    rw[e];refine h1 t fun k q hk hkl=>?_
    by_cases hki:k=i
    ·subst hki;rw[hL]at hkl;cases hkl
    ·exact huniq k q hki hk
   ·obtain⟨ha,hb⟩:=ho.looks i j o p t hij (hox i o x hi) hj hp ht
    by_cases hlt:j<i
    ·obtain⟨e,he,hbd,hej⟩:=ha hlt;have hjl:L.getD j false=true:=by rw[←hej];exact hready e he hbd
     have e1:lk (stps s (xs.take i)).tm t=y.getD .und:=by
      refine ae7 _ _ t j p y (by rw[ga5,if_pos hlt];exact hy) hp fun k q hk hq=>?_
      rw[ga5]at hq;split at hq
      ·exact huniq k q.1 hk (hox k q.1 q.2 hq)
      ·cases hq
     rw[e1];exact h2 j p y t hy hjl hp
    ·obtain⟨e,he,hbd,hei⟩:=hb hlt
     have hjl:L.getD j false=false:=by
      cases hjl:L.getD j false with
      |false=>rfl
      |true=>
       have:=hdown j p e hj hjl he hbd;rw[hei,hL]at this
       cases this
     have e1:lk (stps s (xs.take i)).tm t=lk s.tm t:=by
      refine ae5 _ _ _ fun q hq=>?_
      obtain⟨k,hk⟩:=ga9 hq;rw[ga5]at hk;split at hk
      ·exact huniq k q.1 Oa (hox k q.1 q.2 hk)
      ·cases hk
     rw[e1];refine h1 t fun k q hk hkl=>?_
     by_cases hkj:k=j
     ·subst hkj;rw[hjl]at hkl;cases hkl
     ·exact huniq k q hkj hk
  ·have hno:∀(k:Nat) (q:Oper),ops[k]? =some q→q.dst≠some t:=fun k q hk hq=>hw ⟨k,q,hk,hq⟩
   have e1:lk (stps s (xs.take i)).tm t=lk s.tm t:=by
    refine ae5 _ _ _ fun q hq=>?_
    obtain⟨k,hk⟩:=ga9 hq;rw[ga5]at hk;split at hk
    ·exact hno k q.1 (hox k q.1 q.2 hk)
    ·cases hk
   rw[e1];exact h1 t fun k q hk _=>hno k q hk
 -- the end
 have hfin:∀(L:Array Bool) (a:Act) (w:World),(∀i,i<ops.length→L.getD i false=true)→Dr2 C s xs ops obT eff L a w→Q .normal a w:=by
  intro L a w hall hO;obtain⟨tm,hr,h1,h2⟩:=hO.rel
  have hk:Dn eff L=fun j=>eff j&&decide (j<ops.length):=by
   funext j
   unfold Dn
   by_cases hj:j<ops.length
   ·rw[hall j hj,decide_eq_true hj]
   ·rw[decide_eq_false hj]
    have:L.getD j false=false:=by
     rw[gg4,gh5 (by rw[hO.size];omega)];rfl
    rw[this]
  rw[hk]at hr;refine hq a w (ad4.rel (s:=⟨tm,obT _⟩) (s':=⟨(stps s xs).tm,obT _⟩) ⟨fun t=>?_,rfl⟩ hr);show lk (stps s xs).tm t=lk tm t
  by_cases hw:∃(j:Nat) (p:Oper),ops[j]? =some p∧p.dst=some t
  ·obtain⟨j,p,hj,hp⟩:=hw;obtain⟨y,hy⟩:=hxo j p hj;rw[ae7 s xs t j p y hy hp fun k q hk hq=>ho.uniq k j q.1 p t hk (hox k q.1 q.2 hq) hj hp];exact(h2 j p y t hy (hall j (fy9.1 hj).1) hp).symm
  ·have hno:∀(k:Nat) (q:Oper),ops[k]? =some q→q.dst≠some t:=fun k q hk hq=>hw ⟨k,q,hk,hq⟩
   rw[ae5 s xs t fun q hq=>by
    obtain⟨k,hk⟩:=ga9 hq;exact hno k q.1 (hox k q.1 q.2 hk)]
   exact(h1 t fun k q hk _=>hno k q hk).symm
 -- whoever is ready
 have hready:∀(L:Array Bool) i,i∈Region.ready .any ops.toArray L→L.size=ops.length→∃o,ops[i]? =some o∧L.getD i false=false∧∀e∈o.after,Region.binds .any e=true→L.getD e.on false=true:=by
  intro L i hi hs;unfold Region.ready at hi;rw[gg1,gd5]at hi;obtain⟨hlt,h⟩:=hi;rw[ge3]at hlt;rw[fz4]at h;obtain⟨h1,h2⟩:=h;have ho':ops[i]? =some ops[i]:=fy4 hlt;refine⟨ops[i],ho',?_,?_⟩
  ·rw[←af2 Oa];simpa using h1
  ·intro e he hbd;rw[gd4,ho']at h2;simp only[gc1,ge1]at h2;obtain⟨k,hk,rfl⟩:=gi6 he;have:=gg3.1 h2 k hk;rw[hbd]at this;simpa using this
 have hsome:∀(L:Array Bool) (a:Act) (w:World),Dr2 C s xs ops obT eff L a w→Region.ready .any ops.toArray L=[]→∀i,i<ops.length→L.getD i false=true:=by
  intro L a w hO hr i
  induction i using Nat.strongRecOn with
  |_ i ih=>
   intro hi
   cases hL:L.getD i false with
   |true=>rfl
   |false=>
    have ho':ops[i]? =some ops[i]:=fy4 hi
    have hm:i∈Region.ready .any ops.toArray L:=by
     unfold Region.ready;rw[gg1,gd5,ge3];refine⟨hi,?_⟩;rw[af2 (by rw[hO.size];exact hi),hL,gd4,ho'];simp only[gf3,gd1,gc1,ge1];refine gg3.2 fun k hk=>?_
     cases hbd:Region.binds .any (ops[i]).after[k]with
     |false=>simp
     |true=>
      have hb:=ho.back i _ _ ho' (Array.getElem_mem hk) hbd;rw[ih _ hb Oa];simp
    rw[hr]at hm
    cases hm
 intro fuel
 induction fuel with
 |zero=>
  intro L a w hu hO
  have hall:∀i,i<ops.length→L.getD i false=true:=fun i hi=>by
   rw[←af2 (by rw[hO.size];exact hi)];exact ae9 Oa i hi
  refine⟨?_,hfin L a w hall hO⟩;refine gj4.2 fun i hi=>?_
  obtain⟨o,h1,h2,_⟩:=hready L i hi hO.size;rw[hall i (fy9.1 h1).1]at h2
  cases h2
 |succ fuel ih=>
  intro L a w hu hO;refine⟨fun hr=>hfin L a w (hsome L a w hO hr) hO,fun i hi=>?_⟩;obtain⟨o,hoi,hL,hed⟩:=hready L i hi hO.size;have hlt:i<ops.length:=(fy9.1 hoi).1;obtain⟨x,hxi⟩:=hxo i o hoi;obtain⟨hd,hg⟩:=hdk i o x hxi;obtain⟨tm,hr,h1,h2⟩:=hO.rel;have hl:=hlook i o x L tm hxi hL hO.down hed h1 h2;have hset:∀j,(L.setIfInBounds i true).getD j false=(L.getD j false||j==i):=fun j=>af1 (by rw[hO.size];exact hlt)
  have hu':unl ops.length (L.setIfInBounds i true)≤fuel:=by
   have:=ae8 (L:=L) hO.size hlt (by rw[af2 (by rw[hO.size];exact hlt)];exact hL);omega
  have hdown':bf1 ops (L.setIfInBounds i true):=by
   intro j p e hj hjl hee hbd;rw[hset]at hjl ⊢;rw[gb0]at hjl ⊢;rcases hjl with hjl|hjl
   ·exact .inl (hO.down j p e hj hjl hee hbd)
   ·obtain rfl:j=i:=by simpa using hjl
    rw[hoi]at hj
    cases hj
    exact .inl (hed e hee hbd)
  have hwant:Region.wanted o (yielded ops.toArray a.tmps)=x.isSome:=by
   obtain⟨F,σ,_,_,_,_,_,r5,hs⟩:=hr;refine hg.wanted (N:=C.N) hdst r5 (w:=w) (F:=F) (σ:=σ) fun j pol t hgj ht=>?_
   rw[←hl t (by
    unfold Oper.looksAt;refine gb2.2 (.inr ?_);rw[hgj];show t∈((ops.toArray[j]?).bind (·.dst)).toList;rw[ht];simp)]
   exact hs t
  have hops:∀(ob:List aa5) (z:Operand),z∈o.op.operands.toList→(⟨tm,ob⟩:St).ev C.E z=(stps s (xs.take i)).ev C.E z:=by
   intro ob z hz
   cases z with
   |tmp t=>
    refine hl t ?_;unfold Oper.looksAt;refine gb2.2 (.inl ?_);rw[List.mem_filterMap];exact⟨_,hz,rfl⟩
   |_=>rfl
  have hone:∀(y:Option X) (ob:List aa5) (t:Nat),o.dst≠some t→lk ((⟨tm,ob⟩:St).put o.dst (y.getD .und)).tm t=lk tm t:=by
   intro y ob t ht
   cases hdd:o.dst with
   |none=>rfl
   |some d=>
    simp only[St.put,lk]
    cases hb:Nat.beq d t with
    |true=>exact absurd (by rw[hdd,fz8 hb]) ht
    |false=>rfl
  have hnew:∀(ob:List aa5),(∀t,(∀(j:Nat) o,ops[j]? =some o→(L.setIfInBounds i true).getD j false=true→o.dst≠some t)→lk ((⟨tm,ob⟩:St).put o.dst (x.getD .und)).tm t=lk s.tm t)∧
    (∀(j:Nat) o' x' t,xs[j]? =some (o',x')→(L.setIfInBounds i true).getD j false=true→o'.dst=some t→lk ((⟨tm,ob⟩:St).put o.dst (x.getD .und)).tm t=x'.getD .und):=by
   intro ob;refine⟨fun t ht=>?_,fun j p y t hj hjl hp=>?_⟩
   ·rw[hone x ob t (ht i o hoi (by rw[hset];simp))];exact h1 t fun j q hj hjl=>ht j q hj (by rw[hset,hjl];rfl)
   ·rw[hset,gb0]at hjl
    by_cases hji:j=i
    ·subst hji;rw[hxi]at hj
     cases hj
     rw[hp];exact ae6 _ _ _
    ·have hjl':L.getD j false=true:=by
      rcases hjl with h|h
      ·exact h
      ·exact absurd (by simpa using h) hji
     rw[hone x ob t (ho.uniq i j o p t (fun e=>hji e.symm) hoi (hox j p y hj) hp)];exact h2 j p y t hj hjl' hp
  have hputob:∀(ob:List aa5) (y:X),(⟨tm,ob⟩:St).put o.dst y=⟨((⟨tm,ob⟩:St).put o.dst y).tm,ob⟩:=by
   intro ob y
   cases o.dst<;>rfl
  have hD:bm4 ops eff i (Dn eff L):=by
   refine⟨fun j hj=>?_,fun j hj ha=>?_,fun j hj ha=>?_⟩
   ·unfold Dn at hj;rw[fz4]at hj;exact hj.1
   ·unfold Dn;rw[hj,ha.ready hO.down hoi hed];rfl
   ·unfold Dn;rw[hj]
    cases hjl:L.getD j false with
    |false=>rfl
    |true=>rw[ha.down hO.down hjl]at hL;cases hL
  have hDset:Dn eff (L.setIfInBounds i true)=bif eff i then(fun j=>Dn eff L j||j==i)else Dn eff L:=by
   cases he:eff i with
   |true=>
    funext j
    show(eff j&&(L.setIfInBounds i true).getD j false)=((eff j&&L.getD j false)||j==i);rw[hset]
    cases hji:j==i with
    |false=>rw[gc6,gc6]
    |true=>obtain rfl:=eq_of_beq hji;rw[he];simp
   |false=>
    funext j
    show(eff j&&(L.setIfInBounds i true).getD j false)=(eff j&&L.getD j false);rw[hset]
    cases hji:j==i with
    |false=>rw[gc6]
    |true=>obtain rfl:=eq_of_beq hji;rw[he];rfl
  unfold wpOp;rw[gd4,hoi];simp only
  cases he:eff i with
  |true=>
   rw[he,cond_true]at hDset;obtain⟨y,hy,heop⟩:=hve i o x he hxi;rw[hy]at hwant hnew;rw[if_pos (by rw[hwant];rfl)];have hDi:Dn eff L i=false:=by unfold Dn;rw[hL,Bool.and_false]
   have hslots:∀t,lk tm t=lk s.tm t∨∃j p z,j≠i∧ ¬ bf2 ops i j∧xs[j]? =some (p,z)∧lk tm t=z.getD .und:=by
    intro t
    by_cases hw:∃(j:Nat) (p:Oper),ops[j]? =some p∧L.getD j false=true∧p.dst=some t
    ·obtain⟨j,p,hj,hjl,hp⟩:=hw;obtain⟨z,hz⟩:=hxo j p hj;exact .inr ⟨j,p,z,(fun e=>by rw[e,hL]at hjl;cases hjl),(fun ha=>by have:=ha.down hO.down hjl;rw[hL]at this;cases this),hz,h2 j p z t hz hjl hp⟩
    ·exact .inl (h1 t fun j p hj hjl hp=>hw ⟨j,p,hj,hjl,hp⟩)
   have hsop:=heop _ hD hDi tm (fun z hz=>(hops _ z hz).trans (by cases z<;>rfl)) hslots;refine .inl (hsop w a _ Q hr fun a' w' hr'=>ih _ _ _ hu' ⟨by simp[hO.size],hdown',?_⟩);rw[hputob]at hr';rw[hDset];exact⟨_,hr',(hnew _).1,(hnew _).2⟩
  |false=>
   rw[he,cond_false]at hDset
   have hnext:∀a' w',C.Rel ((⟨tm,obT (Dn eff L)⟩:St).put o.dst (x.getD .und)) a' w'→wpAny C.E.P .any ops.toArray Q fuel (L.setIfInBounds i true) a' w':=by
    intro a' w' hr';refine ih _ _ _ hu' ⟨by simp[hO.size],hdown',?_⟩;rw[hputob]at hr';rw[hDset];exact⟨_,hr',(hnew _).1,(hnew _).2⟩
   cases hx':x with
   |none=>
    rw[hx']at hwant hnext;rw[if_neg (by rw[hwant];simp)];refine hnext _ _ ?_;obtain⟨F,σ,r1,r2,r3,hi',r4,r5,hs⟩:=hr;exact ad2 r1 r2 r3 hi' r4 r5 hs hd (Ext.refl hi'.flt) fun _=>rfl
   |some y=>
    rw[hx']at hwant hnext;rw[if_pos (by rw[hwant];rfl)]
    have hvop':VOp C ⟨tm,obT (Dn eff L)⟩ o y:=by
     intro F σ w a K Q hi ho hK
     exact hv i o x he hxi y hx' _ hD F σ w a K Q hi (fun z hz=>by
      have:=ho z hz;rw[hops _ z hz]at this;exact this) hK
    refine .inl (hvop'.sop hd w a _ Q hr fun a' w' hr'=>hnext a' w' hr')
def Cap.refs:Cap→List Nat
 |.d _=>[]
 |.ptr o _=>[o]
 |.own o=>[o]
def X.refs:X→List Nat
 |.ptr o _=>[o]
 |.own o=>[o]
 |.mp o=>[o]
 |.pel o _ _ _=>[o]
 |.sub o _ _ _=>[o]
 |.clo _ cs=>cs.flatMap Cap.refs
 |.bnd _ cs=>cs.flatMap Cap.refs
 |.st cs=>cs.flatMap Cap.refs
 |_=>[]
def aa5.refs:aa5→List Nat
 |.var _ c=>c.cells.flatMap X.refs
 |_=>[]
theorem bm5{w:World}{F:Nat→Prop}{σ σ':Sg}{c:Cap}{v:Value}(h:aa4 w F σ c v)(hσ:∀o∈c.refs,∀p,σ[o]? =some p→σ'[o]? =some p):aa4 w F σ' c v:=by
 cases c with
 |d x=>exact h
 |ptr o off=>obtain⟨b,c,k,h1,h2⟩:=h;exact⟨b,c,k,hσ o (by simp[Cap.refs]) _ h1,h2⟩
 |own o=>obtain⟨b,c,k,h1,h2⟩:=h;exact⟨b,c,k,hσ o (by simp[Cap.refs]) _ h1,h2⟩
theorem RdX.agree{w:World}{F:Nat→Prop}{σ σ':Sg}{x:X}{v:Value}(h:RdX w F σ x v)(hσ:∀o∈x.refs,∀p,σ[o]? =some p→σ'[o]? =some p):RdX w F σ' x v:=by
 cases x with
 |ptr o off=>obtain⟨b,c,n,h1,h2⟩:=h;exact⟨b,c,n,hσ o (by simp[X.refs]) _ h1,h2⟩
 |own o=>obtain⟨b,c,n,h1,h2⟩:=h;exact⟨b,c,n,hσ o (by simp[X.refs]) _ h1,h2⟩
 |pel o i off size=>obtain⟨b,c,n,h1,h2⟩:=h;exact⟨b,c,n,hσ o (by simp[X.refs]) _ h1,h2⟩
 |sub o lo m size=>obtain⟨b,c,n,h1,h2⟩:=h;exact⟨b,c,n,hσ o (by simp[X.refs]) _ h1,h2⟩
 |mp o=>obtain⟨b,c,n,h1,h2⟩:=h;exact⟨b,c,n,hσ o (by simp[X.refs]) _ h1,h2⟩
 |clo f cs=>
  obtain⟨us,e,hl,hr⟩:=h;exact⟨us,e,hl,fun i c u h1 h2=>bm5 (hr i c u h1 h2) fun o ho=>hσ o (gh2.2 ⟨c,fy6 h1,ho⟩)⟩
 |bnd f cs=>
  obtain⟨us,e,hl,hr⟩:=h;exact⟨us,e,hl,fun i c u h1 h2=>bm5 (hr i c u h1 h2) fun o ho=>hσ o (gh2.2 ⟨c,fy6 h1,ho⟩)⟩
 |st cs=>
  obtain⟨us,e,hl,h1',hr⟩:=h;exact⟨us,e,hl,h1',fun i c u h1 h2=>bm5 (hr i c u h1 h2) fun o ho=>hσ o (gh2.2 ⟨c,fy6 h1,ho⟩)⟩
 |_=>exact h
theorem aa6.agree{w:World}{F:Nat→Prop}{σ σ':Sg}{B:Nat→Prop}{x:aa5}{p:Nat × Nat × Nat}(h:aa6 w F σ B x p)(hσ:∀o∈x.refs,∀p,σ[o]? =some p→σ'[o]? =some p):aa6 w F σ' B x p:=by
 obtain⟨b,c,k⟩:=p
 cases x with
 |var ty cs=>
  obtain⟨vs,h1,h2,h3,h4,h5⟩:=h;exact⟨vs,h1,h2,h3,fun i x v a e=>(h4 i x v a e).agree fun o ho=>hσ o (gh2.2 ⟨x,fy6 a,ho⟩),h5⟩
 |_=>exact h
theorem bm6{n:Nat}{cs:List Cap}(h:(cs.all fun c=>match c with|.ptr o _=>Nat.blt o n|.own o=>Nat.blt o n|.d _=>true)=true):∀o∈cs.flatMap Cap.refs,o<n:=by
 intro o ho;obtain⟨c,hc,ho⟩:=gh2.1 ho;have:=ga6.1 h c hc
 cases c with
 |d x=>simp[Cap.refs]at ho
 |ptr q off=>simp[Cap.refs]at ho;subst ho;simpa using this
 |own q=>simp[Cap.refs]at ho;subst ho;simpa using this
theorem X.refs_below{n:Nat}{x:X}(h:x.below n=true):∀o∈x.refs,o<n:=by
 cases x with
 |ptr o off=>intro q hq;simp[X.refs]at hq;subst hq;simpa[X.below]using h
 |own o=>intro q hq;simp[X.refs]at hq;subst hq;simpa[X.below]using h
 |mp o=>intro q hq;simp[X.refs]at hq;subst hq;simpa[X.below]using h
 |pel o i off size=>intro q hq;simp[X.refs]at hq;subst hq;simpa[X.below]using h
 |sub o lo m size=>intro q hq;simp[X.refs]at hq;subst hq;simpa[X.below]using h
 |clo f cs=>exact bm6 h
 |bnd f cs=>exact bm6 h
 |st cs=>exact bm6 h
 |_=>intro q hq;simp[X.refs]at hq
theorem aa5.refs_below{n:Nat}{x:aa5}(h:x.below n=true):∀o∈x.refs,o<n:=by
 cases x with
 |var t c=>
  intro q hq;obtain⟨y,hy,hq⟩:=gh2.1 hq;exact X.refs_below (ga6.1 h y hy) q hq
 |_=>intro q hq;simp[aa5.refs]at hq
inductive bm7:(Nat→X)→Prop
 |own:bm7 .own
 |ptr (off:Nat):bm7 (.ptr · off)
theorem bm7.rd{R:Nat→X}(h:bm7 R){w:World}{F:Nat→Prop}{σ σ':Sg}{n j:Nat}{v:Value}(hv:RdX w F σ (R n) v)(hσ:∀p,σ[n]? =some p→σ'[j]? =some p):RdX w F σ' (R j) v:=by
 cases h with
 |own=>obtain⟨b,c,k,h1,h2⟩:=hv;exact⟨b,c,k,hσ _ h1,h2⟩
 |ptr off=>obtain⟨b,c,k,h1,h2⟩:=hv;exact⟨b,c,k,hσ _ h1,h2⟩
theorem bm8{C:Cx}{tm tm':List (Nat × X)}{ob:List aa5}{j:Nat}{y:aa5}{R:Nat→X}{a:Act}{w:World}(hR:bm7 R)(hj:ob[j]? =some .dead)(hjn:C.base.n0≤j)
  (hob:∀x∈ob,∀o∈x.refs,o<ob.length∧o≠j)(hy:∀o∈y.refs,o<ob.length∧o≠j)
  (ht:∀t,(lk tm' t=lk tm t∧∀o∈(lk tm t).refs,o<ob.length∧o≠j)∨(lk tm t=R ob.length∧lk tm' t=R j))
  (h:C.Rel ⟨tm,ob++ [y]⟩ a w):C.Rel ⟨tm',ob.set j y⟩ a w:=by
 obtain⟨F,σ,h1,h2,h3,hi,h4,h5,hs⟩:=h;have hlen:σ.length=ob.length+1:=by have:=hi.len;simpa using this
 have hjl:j<ob.length:=(fy9.1 hj).1;obtain⟨p,hp⟩:∃p,σ[ob.length]? =some p:=⟨_,fy4 Oa⟩
 have hag:∀o,o<ob.length→o≠j→∀q,σ[o]? =some q→((σ.take ob.length).set j p)[o]? =some q:=by
  intro o ho hne q hq;rw[gj0 (fun e=>hne e.symm),ga5,if_pos ho];exact hq
 have hgj:((σ.take ob.length).set j p)[j]? =some p:=by
  rw[List.getElem?_set_self (by rw[gb6];omega)]
 have hyl:(ob++ [y])[ob.length]? =some y:=Oc
 have hold:∀o x,(ob.set j y)[o]? =some x→(o=j∧x=y)∨(o≠j∧ob[o]? =some x):=by
  intro o x hx
  by_cases e:o=j
  ·subst e;rw[List.getElem?_set_self hjl]at hx;exact .inl ⟨rfl,(Option.some.inj hx).symm⟩
  ·rw[gj0 (fun e'=>e e'.symm)]at hx;exact .inr ⟨e,hx⟩
 have happ:∀{o x},ob[o]? =some x→(ob++ [y])[o]? =some x:=fun{o x} hx=>by
  rw[ga0 (fy9.1 hx).1];exact hx
 have hback:∀o q,o≠j→((σ.take ob.length).set j p)[o]? =some q→σ[o]? =some q:=by
  intro o q hne hq;rw[gj0 (fun e=>hne e.symm),ga5]at hq;split at hq
  ·exact hq
  ·cases hq
 refine⟨F,(σ.take ob.length).set j p,h1,h2,h3,⟨hi.flt,hi.glob,by simp[gb6,hlen],fun o x q hx hq=>?_,fun o o' x x' q q' hne hx hl hx' hl' hq hq'=>?_,fun i q hin hq=>?_⟩,h4,h5,fun t=>?_⟩
 ·rcases hold o x hx with⟨rfl,rfl⟩|⟨hne,hx1⟩
  ·rw[hgj]at hq
   cases hq
   exact(hi.obs _ _ _ hyl hp).agree fun o ho q hq=>hag o (hy o ho).1 (hy o ho).2 q hq
  ·exact(hi.obs o x q (happ hx1) (hback o q hne hq)).agree fun r hr q hq=>hag r (hob x (fy6 hx1) r hr).1 (hob x (fy6 hx1) r hr).2 q hq
 ·rcases hold o x hx with⟨rfl,rfl⟩|⟨hn1,hx1⟩
  ·rcases hold o' x' hx' with⟨rfl,rfl⟩|⟨hn2,hx2⟩
   ·exact absurd rfl hne
   ·rw[hgj]at hq
    cases hq
    have:=(fy9.1 hx2).1;exact hi.inj ob.length o' _ _ _ _ Oa hyl hl (happ hx2) hl' hp (hback o' q' hn2 hq')
  ·rcases hold o' x' hx' with⟨rfl,rfl⟩|⟨hn2,hx2⟩
   ·rw[hgj]at hq'
    cases hq'
    have:=(fy9.1 hx1).1;exact hi.inj o ob.length _ _ _ _ Oa (happ hx1) hl hyl hl' (hback o q hn1 hq) hp
   ·exact hi.inj o o' _ _ _ _ hne (happ hx1) hl (happ hx2) hl' (hback o q hn1 hq) (hback o' q' hn2 hq')
 ·refine hag i Oa Oa q ?_;exact hi.pre i q hin hq
 ·rcases ht t with⟨e1,e2⟩|⟨e1,e2⟩
  ·show RdX w F _ (lk tm' t) _;rw[e1];exact(hs t).agree fun o ho q hq=>hag o (e2 o ho).1 (e2 o ho).2 q hq
  ·show RdX w F _ (lk tm' t) _;have:=hs t;rw[show lk (⟨tm,ob++ [y]⟩:St).tm t=R ob.length from e1]at this;rw[e2];exact hR.rd this fun q hq=>by rw[hp]at hq;cases hq;exact hgj
def NOp(C:Cx)(tm:List (Nat × X))(ob:List aa5)(o:Oper)(d:Nat)(R:Nat→X)(y:aa5):Prop:=
 o.dst=some d∧∀tm' ob',Wk ob ob'→(∀z∈o.op.operands.toList,(⟨tm',ob'⟩:St).ev C.E z=(⟨tm,ob⟩:St).ev C.E z)→SOp C ⟨tm',ob'⟩ o ⟨(d,R ob'.length)::tm',ob'++ [y]⟩
def bm9(tm:List (Nat × X))(o:Oper)(x:X):List (Nat × X):=match o.dst with|some d=>(d,x)::tm|none=>tm
inductive RM(C:Cx)(l:List Oper)(E:List Nat)(ob:List aa5):Nat→Nat→List Oper→List (Nat × X)→List aa5→List (Nat × X)→Prop
 |nil (i k:Nat) (tm:List (Nat × X)):RM C l E ob i k [] tm [] tm
 |skip {i k:Nat} {o:Oper} {rest:List Oper} {tm tm':List (Nat × X)} {ys:List aa5} (hg:ad3 l.toArray ⟨tm,ob⟩ o false) (hd:ac9 C o=true) (hne:E.contains i=false) (h:RM C l E ob (i+1) k rest (bm9 tm o .und) ys tm'):RM C l E ob i k (o::rest) tm ys tm'
 |val {i k:Nat} {o:Oper} {rest:List Oper} {tm tm':List (Nat × X)} {ys:List aa5} {x:X} (hg:ad3 l.toArray ⟨tm,ob⟩ o true) (hd:ac9 C o=true) (hne:E.contains i=false) (hv:∀ob',Wk ob ob'→VOp C ⟨tm,ob'⟩ o x)
   (hr:∀r∈x.refs,r<ob.length∨∃e,E[r-ob.length]? =some e∧bf2 l e i) (h:RM C l E ob (i+1) k rest (bm9 tm o x) ys tm'):RM C l E ob i k (o::rest) tm ys tm'
 |eff {i k d:Nat} {o:Oper} {rest:List Oper} {tm tm':List (Nat × X)} {ys:List aa5} {R:Nat→X} {y:aa5} (hg:ad3 l.toArray ⟨tm,ob⟩ o true) (hd:ac9 C o=true) (he:E[k]? =some i) (hR:bm7 R) (hv:NOp C tm ob o d R y) (hy:∀r∈y.refs,r<ob.length)
   (h:RM C l E ob (i+1) (k+1) rest ((d,R (ob.length+k))::tm) ys tm'):RM C l E ob i k (o::rest) tm (y::ys) tm'
theorem bn1(tm:List (Nat × X))(ob:List aa5)(o:Oper)(x:X):(⟨tm,ob⟩:St).put o.dst x=⟨bm9 tm o x,ob⟩:=by
 unfold bm9
 cases o.dst<;>rfl
theorem RM.data{C:Cx}{l:List Oper}{E:List Nat}{ob:List aa5}{i k:Nat}{ops:List Oper}{tm tm':List (Nat × X)}{ys:List aa5}(h:RM C l E ob i k ops tm ys tm'):
    ∃xs:List (Oper × Option X),xs.map (·.1)=ops∧stps ⟨tm,ob⟩ xs=⟨tm',ob⟩∧(∀(q:Nat) y,ys[q]? =some y→∃j,j<ops.length∧E[k+q]? =some (i+j))∧
      ∀(j:Nat) o x,xs[j]? =some (o,x)→ac9 C o=true∧ad3 l.toArray (stps ⟨tm,ob⟩ (xs.take j)) o x.isSome∧
        ((E.contains (i+j)=false∧∀y,x=some y→(∀ob',Wk ob ob'→VOp C ⟨(stps ⟨tm,ob⟩ (xs.take j)).tm,ob'⟩ o y)∧∀r∈y.refs,r<ob.length∨∃e,E[r-ob.length]? =some e∧bf2 l e (i+j))∨
         ∃q d R y,E[k+q]? =some (i+j)∧ys[q]? =some y∧x=some (R (ob.length+(k+q)))∧bm7 R∧NOp C (stps ⟨tm,ob⟩ (xs.take j)).tm ob o d R y∧∀r∈y.refs,r<ob.length):=by
  induction h with
  |nil i k tm=>exact⟨[],rfl,rfl,fun q y h=>by simp at h,fun j o x h=>by simp at h⟩
  | @skip i k o rest tm tm' ys hg hd hne hh ih=>
    obtain⟨xs,h1,h2,h3,h4⟩:=ih
    have hs:∀zs,stps ⟨tm,ob⟩ ((o,none)::zs)=stps ⟨bm9 tm o .und,ob⟩ zs:=fun zs=>by
      show stps ((⟨tm,ob⟩:St).put o.dst .und) zs=_;rw[bn1]
    refine⟨(o,none)::xs,by simp[h1],(hs xs).trans h2,fun q y hq=>?_,fun j o' x' hj=>?_⟩
    · obtain⟨j,j1,j2⟩:=h3 q y hq;exact⟨j+1,by simpa using j1,by rw[j2,show i+1+j=i+(j+1) by omega]⟩
    · cases j with
      |zero=>
        simp at hj;obtain⟨rfl,rfl⟩:=hj;exact⟨hd,hg,.inl ⟨hne,fun y hy=>by cases hy⟩⟩
      |succ j=>
        have:=h4 j o' x' (by simpa using hj);rw[show i+1+j=i+(j+1) by omega,←hs]at this;exact this
  | @val i k o rest tm tm' ys x hg hd hne hv hr hh ih=>
    obtain⟨xs,h1,h2,h3,h4⟩:=ih
    have hs:∀zs,stps ⟨tm,ob⟩ ((o,some x)::zs)=stps ⟨bm9 tm o x,ob⟩ zs:=fun zs=>by
      show stps ((⟨tm,ob⟩:St).put o.dst x) zs=_;rw[bn1]
    refine⟨(o,some x)::xs,by simp[h1],(hs xs).trans h2,fun q y hq=>?_,fun j o' x' hj=>?_⟩
    · obtain⟨j,j1,j2⟩:=h3 q y hq;exact⟨j+1,by simpa using j1,by rw[j2,show i+1+j=i+(j+1) by omega]⟩
    · cases j with
      |zero=>
        simp at hj;obtain⟨rfl,rfl⟩:=hj;exact⟨hd,hg,.inl ⟨hne,fun y hy=>by cases hy;exact⟨hv,hr⟩⟩⟩
      |succ j=>
        have:=h4 j o' x' (by simpa using hj);rw[show i+1+j=i+(j+1) by omega,←hs]at this;exact this
  | @eff i k d o rest tm tm' ys R y hg hd he hR hv hy hh ih=>
    obtain⟨xs,h1,h2,h3,h4⟩:=ih
    have hs:∀zs,stps ⟨tm,ob⟩ ((o,some (R (ob.length+k)))::zs)=stps ⟨(d,R (ob.length+k))::tm,ob⟩ zs:=fun zs=>by
      show stps ((⟨tm,ob⟩:St).put o.dst (R (ob.length+k))) zs=_;rw[hv.1];rfl
    refine⟨(o,some (R (ob.length+k)))::xs,by simp[h1],(hs xs).trans h2,fun q z hq=>?_,fun j o' x' hj=>?_⟩
    · cases q with
      |zero=>exact⟨0,by simp,by simpa using he⟩
      |succ q=>
        obtain⟨j,j1,j2⟩:=h3 q z (by simpa using hq);exact⟨j+1,by simpa using j1,by rw[show k+(q+1)=k+1+q by omega,j2,show i+1+j=i+(j+1) by omega]⟩
    · cases j with
      |zero=>
        simp at hj;obtain⟨rfl,rfl⟩:=hj;exact⟨hd,hg,.inr ⟨0,d,R,y,by simpa using he,rfl,rfl,hR,hv,hy⟩⟩
      |succ j=>
        obtain⟨a1,a2,a3⟩:=h4 j o' x' (by simpa using hj);rw[show i+1+j=i+(j+1) by omega,←hs]at a3;rw[←hs]at a2;refine⟨a1,a2,?_⟩;rcases a3 with a3|⟨q,d',R',y',b1,b2,b3,b4,b5,b6⟩
        · exact .inl a3
        · refine .inr ⟨q+1,d',R',y',by rw[show k+(q+1)=k+1+q by omega];exact b1,by simpa using b2,by rw[b3,show k+1+q=k+(q+1) by omega],b4,b5,b6⟩
theorem Le.deads{C:Cx}{tm:List (Nat × X)}:∀(n:Nat) (ob:List aa5),Le C ⟨tm,ob⟩ ⟨tm,ob++List.replicate n .dead⟩
 |0,ob=>by rw[List.replicate_zero,ge7];exact fun _ _ h=>h
 |n+1,ob=>by
  intro a w h;have:=Le.deads n (ob++ [.dead]) a w (Le.dead a w h);rwa[fz5,show [aa5.dead]++List.replicate n .dead=List.replicate (n+1) .dead by rw[List.replicate_succ];rfl]at this
theorem bm7.refs{R:Nat→X}(h:bm7 R)(n:Nat):(R n).refs=[n]:=by cases h<;>rfl
theorem bn2{ob zs:List aa5}(hO:∀x∈ob,x.below ob.length=true):Wk ob (ob++zs):=
 ⟨by simp,fun i x hx _=>⟨by rw[ga0 (fy9.1 hx).1];exact hx,hO x (fy6 hx)⟩⟩
section
variable{C:Cx}{r:List It}{Q:Exit→St→Prop}{tm:List (Nat × X)}{ob:List aa5}{id:Nat}{l:List Oper}{E:List Nat}{i k d:Nat}{o:Oper}{rest:List Oper}{K:List (Nat × X)→List aa5→Prop}{p:Prop}{x:X}
end
end Go.Abs
namespace Go.Abs
open Go Go.RowKit
def mvG(k n o:Nat):Nat:=bif Nat.beq o k then n else o
def mvT(k n:Nat):List (Nat × X)→List (Nat × X)
 |[]=>[]
 |p::r=>(p.1,bkX (mvG k n) p.2)::mvT k n r
def mvB(g:Nat→Nat):List aa5→List aa5
 |[]=>[]
 |x::r=>bkO g x::mvB g r
theorem bn3(g:Nat→Nat):∀l:List aa5,mvB g l=l.map (bkO g)
 |[]=>rfl
 |x::r=>by rw[mvB,bn3 g r];rfl
theorem bn4(k n:Nat)(t:Nat):∀tm:List (Nat × X),lk (mvT k n tm) t=bkX (mvG k n) (lk tm t)
 |[]=>rfl
 |(a,x)::r=>by
  simp only[mvT,lk]
  cases Nat.beq a t with
  |true=>rfl
  |false=>exact bn4 k n t r
theorem Le.move{C:Cx}{tm:List (Nat × X)}{ob:List aa5}(k:Nat){x:aa5}(hx:ob[k]? =some x):
  Le C ⟨tm,ob⟩ ⟨mvT k ob.length tm,(mvB (mvG k ob.length) ob).set k .dead++ [bkO (mvG k ob.length) x]⟩:=by
 rintro a w ⟨F,σ,h1,h2,h3,hi,h4,h5,hs⟩;have hlen:σ.length=ob.length:=hi.len;have hk:k<ob.length:=(fy9.1 hx).1;obtain⟨p,hp⟩:∃p,σ[k]? =some p:=⟨_,fy4 (by rw[hlen];exact hk)⟩
 have hg:∀(i:Nat) q,σ[i]? =some q→(σ++ [p])[mvG k ob.length i]? =some q:=fun i q hq=>by
  have hil:i<σ.length:=(fy9.1 hq).1;unfold mvG
  cases e:Nat.beq i k with
  |true=>
   have:i=k:=fz8 e;subst this;rw[cond_true,←hlen,ga7 (fz6 _),Nat.sub_self];rw[hp]at hq
   cases hq
   rfl
  |false=>
   rw[cond_false,ga0 hil];exact hq
 have hget:∀(o:Nat) (y:aa5) q,((mvB (mvG k ob.length) ob).set k .dead++ [bkO (mvG k ob.length) x])[o]? =some y→(σ++ [p])[o]? =some q→y.live=true→
   ∃o1 z,ob[o1]? =some z∧σ[o1]? =some q∧y=bkO (mvG k ob.length) z∧((o=ob.length∧o1=k)∨(o1=o∧o≠k)):=by
  intro o y q hy hq hl;rw[bn3]at hy;rcases fy5 o ob.length with h|h
  ·rw[ga0 (by simpa using h),ge2]at hy;rw[ga0 (by rw[hlen];exact h)]at hq;split at hy
   ·split at hy
    ·cases hy;cases hl
    ·cases hy
   ·rename_i hne
    rw[fz1,fz9]at hy;obtain⟨z,hz,rfl⟩:=hy;exact⟨o,z,hz,hq,rfl,.inr ⟨rfl,fun e=>hne e.symm⟩⟩
  ·have ho:o=ob.length:=by
    have:=(fy9.1 hy).1;simp at this;omega
   subst ho;rw[ga7 Oc]at hy;rw[ga7 Oa,hlen,Nat.sub_self]at hq;simp at hy
   cases hy
   cases hq
   exact⟨k,x,hx,hp,rfl,.inl ⟨rfl,rfl⟩⟩
 refine⟨F,σ++ [p],h1,h2,h3,⟨hi.flt,hi.glob,by rw[bn3];simp[hlen],fun o y q hy hq=>?_,fun o o' y y' q q' hne hy hl hy' hl' hq hq'=>?_,fun i p hp hq=>σ_app _ _ (hi.pre i p hp hq)⟩,h4,h5,fun t=>?_⟩
 ·cases hl:y.live with
  |false=>
   cases y with
   |dead=>trivial
   |_=>simp[aa5.live]at hl
  |true=>
   obtain⟨o1,z,g1,g2,rfl,-⟩:=hget o y q hy hq hl;exact ba6 hg (hi.obs o1 z q g1 g2)
 ·obtain⟨o1,z,g1,g2,rfl,g3⟩:=hget o y q hy hq hl;obtain⟨o2,z',g1',g2',rfl,g3'⟩:=hget o' y' q' hy' hq' hl';rw[ba7]at hl hl';exact hi.inj o1 o2 z z' q q' (by rcases g3 with⟨e1,e2⟩|⟨e1,e2⟩<;>rcases g3' with⟨e3,e4⟩|⟨e3,e4⟩<;>omega) g1 hl g1' hl' g2 g2'
 ·rw[show(⟨mvT k ob.length tm,(mvB (mvG k ob.length) ob).set k .dead++ [bkO (mvG k ob.length) x]⟩:St).tm=mvT k ob.length tm from rfl,bn4];exact ba5 hg (hs t)
section
variable{C:Cx}{r:List It}{Q:Exit→St→Prop}{tm:List (Nat × X)}{ob:List aa5}{c:Code}
end
end Go.Abs
namespace Go.Abs
open Go Go.RowKit
section
variable{C:Cx}{s:St}{o:Oper}
end
section
variable{C:Cx}{K:St→Prop}{all:Array Oper}{rest:List Oper}{tm:List (Nat × X)}{ob:List aa5}{o:Oper}{d:Nat}{pu:Bool}
end
end Go.Abs
namespace Go.Abs
open Go Go.RowKit
def bn5(n j:Nat)(tm:List (Nat × X)):Prop:=∀t,∀o∈(lk tm t).refs,o<n∧o≠j
def TOp(C:Cx)(l:List Oper)(E:List Nat)(obT:(Nat→Bool)→List aa5)(i j n:Nat)(tm:List (Nat × X))(o:Oper)(y:X):Prop:=
 ∀D,bm4 l (fun e=>E.contains e) i D→D i=false→∀tm',(∀z∈o.op.operands.toList,(⟨tm',obT D⟩:St).ev C.E z=(⟨tm,obT D⟩:St).ev C.E z)→bn5 n j tm'→SOp C ⟨tm',obT D⟩ o ((⟨tm',obT (fun e=>D e||e==i)⟩:St).put o.dst y)
def bn6(l:List Oper)(E:List Nat)(b m i:Nat)(x:X):Prop:=∀r∈x.refs,r<b∨(r<b+m∧∃e,E[r-b]? =some e∧(e=i∨bf2 l e i))
inductive RT(C:Cx)(l:List Oper)(E:List Nat)(ob:List aa5)(m:Nat)(obT:(Nat→Bool)→List aa5):Nat→List Oper→List (Nat × X)→List (Nat × X)→Prop
 |nil (i:Nat) (tm:List (Nat × X)):RT C l E ob m obT i [] tm tm
 |skip {i:Nat} {o:Oper} {rest:List Oper} {tm tm':List (Nat × X)} (hg:ad3 l.toArray ⟨tm,ob⟩ o false) (hd:ac9 C o=true) (hne:E.contains i=false) (h:RT C l E ob m obT (i+1) rest (bm9 tm o .und) tm'):RT C l E ob m obT i (o::rest) tm tm'
 |val {i:Nat} {o:Oper} {rest:List Oper} {tm tm':List (Nat × X)} {x:X} (hg:ad3 l.toArray ⟨tm,ob⟩ o true) (hd:ac9 C o=true) (hne:E.contains i=false) (hv:∀D,bm4 l (fun e=>E.contains e) i D→VOp C ⟨tm,obT D⟩ o x)
   (hr:bn6 l E ob.length m i x) (h:RT C l E ob m obT (i+1) rest (bm9 tm o x) tm'):RT C l E ob m obT i (o::rest) tm tm'
 |eff {i q:Nat} {o:Oper} {rest:List Oper} {tm tm':List (Nat × X)} {x:X} (hg:ad3 l.toArray ⟨tm,ob⟩ o true) (hd:ac9 C o=true) (he:E[q]? =some i) (hv:TOp C l E obT i (ob.length+q) (ob.length+m) tm o x)
   (hr:bn6 l E ob.length m i x) (h:RT C l E ob m obT (i+1) rest (bm9 tm o x) tm'):RT C l E ob m obT i (o::rest) tm tm'
theorem RT.data{C:Cx}{l:List Oper}{E:List Nat}{ob:List aa5}{m:Nat}{obT:(Nat→Bool)→List aa5}{i:Nat}{ops:List Oper}{tm tm':List (Nat × X)}(h:RT C l E ob m obT i ops tm tm'):
    ∃xs:List (Oper × Option X),xs.map (·.1)=ops∧stps ⟨tm,ob⟩ xs=⟨tm',ob⟩∧
      ∀(j:Nat) o x,xs[j]? =some (o,x)→ac9 C o=true∧ad3 l.toArray (stps ⟨tm,ob⟩ (xs.take j)) o x.isSome∧(∀y,x=some y→bn6 l E ob.length m (i+j) y)∧
        ((E.contains (i+j)=false∧∀y,x=some y→∀D,bm4 l (fun e=>E.contains e) (i+j) D→VOp C ⟨(stps ⟨tm,ob⟩ (xs.take j)).tm,obT D⟩ o y)∨
         ∃q y,E[q]? =some (i+j)∧x=some y∧TOp C l E obT (i+j) (ob.length+q) (ob.length+m) (stps ⟨tm,ob⟩ (xs.take j)).tm o y):=by
  have one:∀{i:Nat} {o:Oper} {rest:List Oper} {tm tm':List (Nat × X)} (x:Option X),
      (∃xs:List (Oper × Option X),xs.map (·.1)=rest∧stps ⟨bm9 tm o (x.getD .und),ob⟩ xs=⟨tm',ob⟩∧
        ∀(j:Nat) o' x',xs[j]? =some (o',x')→ac9 C o'=true∧ad3 l.toArray (stps ⟨bm9 tm o (x.getD .und),ob⟩ (xs.take j)) o' x'.isSome∧(∀y,x'=some y→bn6 l E ob.length m (i+1+j) y)∧
          ((E.contains (i+1+j)=false∧∀y,x'=some y→∀D,bm4 l (fun e=>E.contains e) (i+1+j) D→VOp C ⟨(stps ⟨bm9 tm o (x.getD .und),ob⟩ (xs.take j)).tm,obT D⟩ o' y)∨
           ∃q y,E[q]? =some (i+1+j)∧x'=some y∧TOp C l E obT (i+1+j) (ob.length+q) (ob.length+m) (stps ⟨bm9 tm o (x.getD .und),ob⟩ (xs.take j)).tm o' y))→
      (ac9 C o=true∧ad3 l.toArray ⟨tm,ob⟩ o x.isSome∧(∀y,x=some y→bn6 l E ob.length m i y)∧
        ((E.contains i=false∧∀y,x=some y→∀D,bm4 l (fun e=>E.contains e) i D→VOp C ⟨tm,obT D⟩ o y)∨
         ∃q y,E[q]? =some i∧x=some y∧TOp C l E obT i (ob.length+q) (ob.length+m) tm o y))→
      ∃xs:List (Oper × Option X),xs.map (·.1)=o::rest∧stps ⟨tm,ob⟩ xs=⟨tm',ob⟩∧
        ∀(j:Nat) o' x',xs[j]? =some (o',x')→ac9 C o'=true∧ad3 l.toArray (stps ⟨tm,ob⟩ (xs.take j)) o' x'.isSome∧(∀y,x'=some y→bn6 l E ob.length m (i+j) y)∧
          ((E.contains (i+j)=false∧∀y,x'=some y→∀D,bm4 l (fun e=>E.contains e) (i+j) D→VOp C ⟨(stps ⟨tm,ob⟩ (xs.take j)).tm,obT D⟩ o' y)∨
           ∃q y,E[q]? =some (i+j)∧x'=some y∧TOp C l E obT (i+j) (ob.length+q) (ob.length+m) (stps ⟨tm,ob⟩ (xs.take j)).tm o' y):=by
    intro i o rest tm tm' x ⟨xs,h1,h2,h4⟩ hx
    have hs:∀zs,stps ⟨tm,ob⟩ ((o,x)::zs)=stps ⟨bm9 tm o (x.getD .und),ob⟩ zs:=fun zs=>by
      show stps ((⟨tm,ob⟩:St).put o.dst (x.getD .und)) zs=_;rw[bn1]
    refine⟨(o,x)::xs,by simp[h1],(hs xs).trans h2,fun j o' x' hj=>?_⟩
    cases j with
    |zero=>
      simp at hj;obtain⟨rfl,rfl⟩:=hj;exact hx
    |succ j=>
      have:=h4 j o' x' (by simpa using hj);rw[show i+1+j=i+(j+1) by omega,←hs]at this;exact this
  induction h with
  |nil i tm=>exact⟨[],rfl,rfl,fun j o x h=>by simp at h⟩
  |skip hg hd hne hh ih=>exact one none ih ⟨hd,hg,fun y hy=>(by cases hy),.inl ⟨hne,fun y hy=>(by cases hy)⟩⟩
  |val hg hd hne hv hr hh ih=>exact one (some _) ih ⟨hd,hg,fun y hy=>(by cases hy;exact hr),.inl ⟨hne,fun y hy=>(by cases hy;exact hv)⟩⟩
  |eff hg hd he hv hr hh ih=>exact one (some _) ih ⟨hd,hg,fun y hy=>(by cases hy;exact hr),.inr ⟨_,_,he,rfl,hv⟩⟩
theorem qRT_{C:Cx}{r:List It}{Q:Exit→St→Prop}{tm tm':List (Nat × X)}{ob ob':List aa5}{id m:Nat}{l:List Oper}(E:List Nat)(obT:(Nat→Bool)→List aa5)(ho:ad8 l=true)(hE:aw9 E=true)(hEl:(E.all fun e=>Nat.blt e l.length)=true)(hT:∀t,(lk tm t).below ob.length=true)
  (h0:∀D:Nat→Bool,(∀e∈E,D e=false)→obT D=ob++List.replicate m .dead)(h1:∀D:Nat→Bool,(∀e∈E,D e=true)→obT D=ob')
  (h:RT C l E ob m obT 0 l tm tm')(hk:go C r ⟨tm',ob'⟩ Q):go C (.code (.region id l.toArray true)::r) ⟨tm,ob⟩ Q:=by
 intro a w hr0;obtain⟨xs,e1,e2,e4⟩:=h.data;have hr:=Le.deads (C:=C) (tm:=tm) m ob a w hr0
 have hfin:∀a w,C.Rel ⟨(stps ⟨tm,ob⟩ xs).tm,obT (fun j=>E.contains j&&decide (j<l.length))⟩ a w→C.Rel ⟨tm',ob'⟩ a w:=by
  intro a w hr2
  rw[h1 _ (fun e he=>by
   have:=ga6.1 hEl e he;have hlt:e<l.length:=by simpa using this
   rw[decide_eq_true hlt,Bool.and_true,List.contains_iff_mem];exact he),e2]at hr2
  exact hr2
 refine wp_region_any C.E.hM ?_
 refine Dr2.all (s:=⟨tm,ob⟩) (xs:=xs) (obT:=obT) (eff:=fun i=>E.contains i) e1 (ae2 ho) (fun i o x hi=>⟨(e4 i o x hi).1,(e4 i o x hi).2.1⟩) (fun i o x he hi y hy D hD=>?_) (fun i o x he hi=>?_) (fun a w hr2=>⟨⟨tm',ob'⟩,hfin a w hr2,hk⟩) _ _ _ _ ?_
  ⟨by simp,fun j o' ed ho' hL=>?_,tm,?_,fun t _=>rfl,fun j o' x t hj hL=>?_⟩
 ·rcases(e4 i o x hi).2.2.2 with⟨-,b2⟩|⟨q,y',b1,-⟩
  ·rw[gc3]at b2;exact b2 y hy D hD
  ·exfalso;rw[gc3]at b1;have:E.contains i=true:=by rw[List.contains_iff_mem];exact fy6 b1
   rw[this]at he
   cases he
 ·rcases(e4 i o x hi).2.2.2 with⟨b1,-⟩|⟨q,y,b1,b3,b5⟩
  ·rw[gc3]at b1;rw[b1]at he
   cases he
  ·rw[gc3]at b1 b5;refine⟨_,b3,fun D hD hDi tm2 hev hsl=>?_⟩;refine b5 D hD hDi tm2 (fun z hz=>(hev z hz).trans (by cases z<;>rfl)) fun t o' ho'=>?_
   rcases hsl t with e|⟨j,p,z,j1,j2,j3,e⟩
   ·rw[e]at ho';have:=X.refs_below (hT t) o' ho';omega
   ·rw[e]at ho'
    cases z with
    |none=>simp[X.refs]at ho'
    |some v=>
     rw[ge1]at ho';rcases(e4 j p (some v) j3).2.2.1 v rfl o' ho' with c1|⟨c1,e',c2,c3⟩
     ·omega
     ·refine⟨c1,fun eq=>?_⟩;subst eq;rw[Nat.add_sub_cancel_left,b1]at c2
      cases c2
      rw[gc3]at c3;rcases c3 with c3|c3
      ·exact j1 c3.symm
      ·exact j2 c3
 ·refine gb8 (gg5 _ _) ?_;simp
 ·exfalso
  by_cases hlt:j<l.length<;>simp[hlt]at hL
 ·show C.Rel ⟨tm,obT (Dn (fun i=>E.contains i) (Array.replicate l.toArray.size false))⟩ a {w with drawn:=w.drawn+1}
  rw[h0 _ fun e he=>by
   unfold Dn
   have:(Array.replicate l.toArray.size false).getD e false=false:=by
    rw[gg4,Array.getElem?_replicate];split<;>rfl
   rw[this,Bool.and_false]]
  obtain⟨F,σ,r1,r2,r3,hi,r4,r5,hs⟩:=hr;have hext:Ext w F {w with drawn:=w.drawn+1} F:=⟨⟨rfl,rfl,rfl,fz6 _,fun _ _=>rfl⟩,fun _ h=>h,fun _ h=>.inl h,hi.flt⟩;exact⟨F,σ,r1.step hext.below,r2,r3,hi.ext hext,r4,r5,fun t=>(hs t).ext hext hi.flt⟩
 ·exfalso
  by_cases hlt:j<l.length<;>simp[hlt]at hL
theorem SOp.fill{C:Cx}{o:Oper}{d n j:Nat}{tm:List (Nat × X)}{ob ob1:List aa5}{R:Nat→X}{y:aa5}(h:SOp C ⟨tm,ob⟩ o ⟨(d,R ob1.length)::tm,ob1++ [y]⟩)(hdst:o.dst=some d)(hR:bm7 R)(hs:bn5 n j tm)(hn:ob1.length=n)(hj:ob1[j]? =some .dead)(hjn:C.base.n0≤j)
  (hob:∀x∈ob1,∀o∈x.refs,o<n∧o≠j)(hy:∀o∈y.refs,o<n∧o≠j):SOp C ⟨tm,ob⟩ o ((⟨tm,ob1.set j y⟩:St).put o.dst (R j)):=by
 intro w a K Q hr hK;refine h w a K Q hr fun a' w' hr'=>hK a' w' ?_
 subst hn;rw[hdst];refine bm8 (tm:=(d,R ob1.length)::tm) hR hj hjn hob hy (fun t=>?_) hr'
 cases hdt:Nat.beq d t with
 |true=>exact .inr ⟨by simp only[lk,hdt,cond_true],by simp only[lk,hdt,cond_true]⟩
 |false=>
  refine .inl ⟨by simp only[lk,hdt,cond_false],?_⟩;simp only[lk,hdt,cond_false];exact hs t
def bn7(C:Cx)(l:List Oper)(E:List Nat)(ob:List aa5)(m:Nat)(zs:(Nat→Bool)→List aa5)(i:Nat)(ops:List Oper)(tm:List (Nat × X))(K:List (Nat × X)→Prop):Prop:=∃tm',RT C l E ob m (fun D=>ob++zs D) i ops tm tm'∧K tm'
def refB(l:List Oper)(E:List Nat)(b m i:Nat)(x:X):Bool:=x.refs.all fun r=>Nat.blt r b||(Nat.blt r (b+m) &&(match E[r-b]? with|some e=>Nat.beq e i||bf6 (bf5 l) e i|none=>false))
theorem bn8{l:List Oper}{E:List Nat}{b m i:Nat}{x:X}(h:refB l E b m i x=true):bn6 l E b m i x:=by
 intro r hr;have:=ga6.1 h r hr;rw[gb0,fz4]at this;rcases this with h1|⟨h1,h2⟩
 ·exact .inl (by simpa using h1)
 ·refine .inr ⟨by simpa using h1,?_⟩;split at h2
  ·rename_i e he
   rw[gb0]at h2;refine⟨e,he,?_⟩;rcases h2 with h2|h2
   ·exact .inl (fz8 h2)
   ·exact .inr (bf9 h2)
  ·cases h2
section
variable{C:Cx}{r:List It}{Q:Exit→St→Prop}{tm:List (Nat × X)}{ob ob':List aa5}{id m:Nat}{l:List Oper}{E:List Nat}{zs:(Nat→Bool)→List aa5}{i d:Nat}{o:Oper}{rest:List Oper}{K:List (Nat × X)→Prop}{p:Prop}{x:X}
theorem qRY(E:List Nat)(m:Nat)(zs:(Nat→Bool)→List aa5)(ob':List aa5)(h:bn7 C l E ob m zs 0 l tm fun tm'=>go C r ⟨tm',ob'⟩ Q)(h0:∀D:Nat→Bool,(∀e∈E,D e=false)→zs D=List.replicate m .dead)(h1:∀D:Nat→Bool,(∀e∈E,D e=true)→ob++zs D=ob')
  (ho:ad8 l=true:=by kernel_rfl)(hE:aw9 E=true:=by exact rfl)(hEl:(E.all fun e=>Nat.blt e l.length)=true:=by exact rfl)(hT:TmB ob.length tm:=by repeat(first|exact trivial|refine⟨rfl,?_⟩)):go C (.code (.region id l.toArray true)::r) ⟨tm,ob⟩ Q:=by
 obtain⟨tm',h2,h3⟩:=h;exact qRT_ E _ ho hE hEl (fun t=>hT.lk t) (fun D hD=>by rw[h0 D hD]) h1 h2 h3
theorem rtN(h:K tm):bn7 C l E ob m zs i [] tm K:=⟨tm,.nil _ _,h⟩
theorem rtV(hO:ap7 ob.length ob)(hv:vop C ⟨bi8 ob.length tm,ob⟩ o=some (p,x))(h:bn7 C l E ob m zs (i+1) rest ((d,x)::tm) K)(hp:p)(hne:E.contains i=false:=by exact rfl)(hg:ap8 l.toArray tm o=some true:=by exact rfl)(hdst:o.dst=some d:=by exact rfl)(hd:Nat.blt d C.N=true:=by exact rfl)
  (hn:Nat.ble C.base.n0 ob.length=true:=by exact rfl)(hb:x.below ob.length=true:=by exact rfl):bn7 C l E ob m zs i (o::rest) tm K:=by
 obtain⟨tm',h1,h2⟩:=h;refine⟨tm',.val (ap9 hg) (by simp only[ac9,hdst];exact hd) hne (fun D _=>((ap6 hv hp).wk (bn2 fun x hx=>hO.all x hx) (gc0 hn) (bj1 _ tm)).dim) (fun r hr=>.inl (X.refs_below hb r hr)) ?_,h2⟩;rw[bm9,hdst];exact h1
theorem rtX(hv:∀D,bm4 l (fun e=>E.contains e) i D→VOp C ⟨tm,ob++zs D⟩ o x)(h:bn7 C l E ob m zs (i+1) rest ((d,x)::tm) K)(hne:E.contains i=false:=by exact rfl)(hg:ap8 l.toArray tm o=some true:=by exact rfl)(hdst:o.dst=some d:=by exact rfl)(hd:Nat.blt d C.N=true:=by exact rfl)
  (hb:refB l E ob.length m i x=true:=by kernel_rfl):bn7 C l E ob m zs i (o::rest) tm K:=by
 obtain⟨tm',h1,h2⟩:=h;refine⟨tm',.val (ap9 hg) (by simp only[ac9,hdst];exact hd) hne hv (bn8 hb) ?_,h2⟩;rw[bm9,hdst];exact h1
theorem rtE(q:Nat)(x:X)(hv:TOp C l E (fun D=>ob++zs D) i (ob.length+q) (ob.length+m) tm o x)(h:bn7 C l E ob m zs (i+1) rest (bm9 tm o x) K)(he:E[q]? =some i:=by exact rfl)(hg:ap8 l.toArray tm o=some true:=by exact rfl)(hd:ac9 C o=true:=by exact rfl)
  (hb:refB l E ob.length m i x=true:=by kernel_rfl):bn7 C l E ob m zs i (o::rest) tm K:=by
 obtain⟨tm',h1,h2⟩:=h;exact⟨tm',.eff (ap9 hg) hd he hv (bn8 hb) h1,h2⟩
theorem SOp.same{s s1 s2:St}(h:SOp C s o s1)(e:s1=s2):SOp C s o s2:=e ▸ h
theorem bm4.ahead{D:Nat→Bool}(h:bm4 l (fun e=>E.contains e) i D)(j:Nat)(hj:E.contains j=true:=by exact rfl)(ha:bf6 (bf5 l) j i=true:=by kernel_rfl):D j=true:=h.pre j hj (bf9 ha)
theorem bm4.behind{D:Nat→Bool}(h:bm4 l (fun e=>E.contains e) i D)(j:Nat)(hj:E.contains j=true:=by exact rfl)(ha:bf6 (bf5 l) i j=true:=by kernel_rfl):D j=false:=h.post j hj (bf9 ha)
def bn9(n j:Nat)(zs:List aa5):Prop:=∀x∈zs,∀o∈x.refs,o<n∧o≠j
theorem bn9.nil{n j:Nat}:bn9 n j []:=fun _ h=>by cases h
theorem bn9.cons{n j:Nat}{x:aa5}{zs:List aa5}(hx:x.refs=[])(h:bn9 n j zs):bn9 n j (x::zs):=by
 intro y hy o ho;rcases fz0.1 hy with rfl|hy
 ·rw[hx]at ho;cases ho
 ·exact h y hy o ho
theorem bn9.old{j m:Nat}(hO:ap7 ob.length ob)(hj:ob.length≤j){zs:List aa5}(h:bn9 (ob.length+m) j zs):bn9 (ob.length+m) j (ob++zs):=by
 intro x hx o ho;rcases gb2.1 hx with hx|hx
 ·have:=aa5.refs_below (hO.all x hx) o ho;omega
 ·exact h x hx o ho
end
end Go.Abs
namespace Go.Abs
open Go Go.RowKit
section
variable{C:Cx}{tm:List (Nat × X)}{ob:List aa5}{id:Nat}{l:List Oper}{E:List Nat}{wob:List aa5}{i:Nat}{rest:List Oper}{K:St→Prop}{o:Oper}{d:Nat}
theorem bo0{y:Operand}{args:List Operand}{tys:Array TypeId}{f:FuncId}{ds:List D}{te:TypeId}{size:Nat}{xs:List D}(hne:E.contains i=true)(ho:o.op=.call {callee:=.value y,args:=args.toArray,argTypes:=tys})(hg:ap8 l.toArray tm o=some true)(hdst:o.dst=some d)(hd:Nat.blt d C.N=true)
  (hf:(⟨tm,ob⟩:St).ev C.E y=.d (.imm (.func (.func f) #[] #[])))(hb:an9 C.E f)(hda:an7 C.E ⟨tm,ob⟩ args=some ds)(hv:EvO C.E f ds te size xs)(hw:wkP wob.length wob (ob++ [.row te size xs]))
  (h:RGw C id l E wob (i+1) rest ⟨(d,.own ob.length)::tm,ob++ [.row te size xs]⟩ K):RGw C id l E wob i (o::rest) ⟨tm,ob⟩ K:=by
 have hdk:ac9 C o=true:=by simp only[ac9,hdst];exact hd
 refine reX (x:=.own ob.length) (ob':=ob++ [.row te size xs]) hne hg hdk (fun tm' hev=>?_) hw (by rw[hdst];exact h)
 have hm:∀z,z=y∨z∈args→(⟨tm',ob⟩:St).ev C.E z=(⟨tm,ob⟩:St).ev C.E z:=by
  intro z hz;refine hev z ?_;rcases hz with rfl|hz<;>simp[ho,Op.operands,Call.operands, *]
 refine ay3 (s:=⟨tm',ob⟩) ho ((hm y (.inl rfl)).trans hf) hb ?_ hv hdk;exact(an8 hda).look fun z hz=>hm z (.inr hz)
end
end Go.Abs
namespace Go.Abs
open Go Go.RowKit
section
variable{C:Cx}{s:St}{o:Oper}
end
section
variable{C:Cx}{all:Array Oper}{pu:Bool}{K:St→Prop}{rest:List Oper}{tm:List (Nat × X)}{ob:List aa5}{d:Nat}{o:Oper}
end
end Go.Abs
namespace Go.Abs
open Go Go.RowKit
section
variable{C:Cx}{s:St}{o:Oper}
theorem bo1{t:TypeId}{te:TE}(ho:o.op=.buildSlice t 0 #[])(hte:al2 C.E t=some te):VOp C s o .zc:=by
 obtain⟨hu,hok⟩:=al3 hte;intro F σ w a K Q hi hr hK;have hsz:=aj5 (w:=w) hok
 have hrun:∃vs',(execOp a.eval o).run C.E.P w=.ok (.value (.slice (some ⟨w.heap.size,0,none⟩) 0 0)) (w.alloc (.cells vs' te.t)):=by
  obtain⟨vs',e1,-⟩:=at6 (s:=s) (E:=C.E) (size:=te.size) (w:=w) (F:=F) (σ:=σ) (a:=a) [] 0 ((Array.range (0*te.size)).map ((#[]:Array Value)[· % (#[]:Array Value).size]!)) [] rfl Oc (fun q hq=>by cases hq);refine⟨vs',?_⟩;have hparts:((#[]:Array (Nat × Operand)).map fun(i,x)=>(i,a.eval x)).toList=([]:List (Nat × Operand)).map fun q=>(q.1,a.eval q.2):=Oc
  simp only[execOp,ho,Instr.buildSlice,Sem.run_bind,run_underlying hu,Result.andThen_ok,hsz];rw[if_neg Oa,if_pos Oa];simp only[Sem.run_bind,Sem.run_pure,Result.andThen_ok,hparts,e1,newRow];rfl
 obtain⟨vs',hrun⟩:=hrun;unfold Oper.wp;rw[hrun];exact hK _ _ F (am2 (F:=F) (.cells vs' te.t) hi.flt) ⟨_,rfl⟩
theorem bo2{t t':TypeId}{y z:Operand}{te:TE}{e':TypeId}(ho:o.op=.call {callee:=.builtin .append,args:= #[y,z],argTypes:= #[t,t']})(hte:al2 C.E t=some te)(hd':at8 C.E t'=some (.slice e'))
  (hy':s.ev C.E y=.zc)(hz':s.ev C.E z=.d (.sl [])):VOp C s o .zc:=by
 obtain⟨hu,hok⟩:=al3 hte;refine VOp.pure_ fun F σ w a hi hr=>?_
 have hy:=hr y (by simp[ho,Op.operands,Call.operands]);have hz:=hr z (by simp[ho,Op.operands,Call.operands]);rw[hy']at hy;rw[hz']at hz
 have key:∀v,(Builtin.append_ #[t,t'] o.type #[a.eval y,a.eval z]).run C.E.P w=.ok v w→(execOp a.eval o).run C.E.P w=.ok (.value v) w:=by
  intro v hv;simp[execOp,ho,resolve,invoke,builtin,hv]
 have hzv:∃zb zc,a.eval z=.slice zb 0 zc:=by
  rcases Rd.sl_inv hz with⟨-,e⟩|⟨_,ad,cap,e,-⟩
  ·exact⟨_,_,e⟩
  ·exact⟨_,_,e⟩
 obtain⟨zb,zc,ez⟩:=hzv;obtain⟨p,ey⟩:=hy;refine⟨a.eval y,key _ ?_,⟨p,ey⟩⟩;rw[ey,ez];exact ay6 hu hok (at9 hd') (fz6 _)
theorem bo3{t:TypeId}{y z:Operand}{te:TE}{ys:List D}(ho:o.op=.call {callee:=.builtin .append,args:= #[y,z],argTypes:= #[t,t]})(hte:al2 C.E t=some te)
  (hy:s.ev C.E y=.zc)(hz:s.ev C.E z=.d (.sl ys))(hne:ys≠ [])(hsz:∀d∈ys,d.cells.length=te.size)
  (hzs:te.zero.cells.size=te.size)(hs0:0<te.size)(hlen:ys.length*te.bytes≤140737488355328)(hmx:ys.length≤9223372036854775807)(hd:ac9 C o=true):
  SOp C s o (St.put ⟨s.tm,s.ob++ [.row te.t te.size ys]⟩ o.dst (.own s.ob.length)):=by
 obtain⟨hu,hok⟩:=al3 hte;obtain⟨hdesc,i0,hi0,hsize,hbytes,hzero⟩:=hok;rintro w a K Q ⟨F,σ,h1,h2,h3,hi,h4,h5,hs⟩ hK;have hvy:=ab6 (E:=C.E) hi hs y;have hvz:=ab6 (E:=C.E) hi hs z;rw[hy]at hvy;rw[hz]at hvz;obtain⟨p,hvy⟩:=hvy;obtain⟨ad,cap,hev,hone,news,n1,n2,n3,n4⟩:=ar3 hvz te.size hsz hne;have hypos:0<ys.length:=List.length_pos_iff.2 hne;have hmx':ys.length≤maxLen:=by simpa[maxLen]using hmx
 obtain⟨v',w',a1,a2,a3,a4,a5⟩:∃v' w',(Builtin.append_ #[t,t] o.type #[.slice p 0 0,.slice (some ad) ys.length cap]).run C.E.P w=.ok v' w'∧w'.ownsRow 0 te.t te.size v' ys.length news∧w.grownBy w' none∧v'≠ .slice none 0 0∧(∀b,v'.ownBlock=some b→w.heap.size≤b):=by
  cases p with
  |none=>
   obtain⟨v',w',a1,a2,a3,a4,a5⟩:=run_append_own_at (P:=C.E.P) w 0 t o.type te.t i0 te.zero te.size te.bytes hu hi0 hzero hsize hbytes hzs hs0 (.slice none 0 0) 0 [] (World.ownsRow_nil _ _ _ _) ad ys.length cap news n1 n2 n3
    (by simpa using hmx') (by simpa using hlen) (ga8 _)
   rw[gc3,gb7]at a2;refine⟨v',w',a1,a2,a3,fun e=>?_,fun b hb=>?_⟩
   ·have:=(a4.1 e).2;omega
   ·rcases a5 with h|h
    ·rw[h]at hb;simp[Value.ownBlock]at hb
    ·rw[h]at hb;cases hb;exact fz6 _
  |some b=>
   obtain⟨v',w',a1,a2,a3⟩:=run_append_arg_grows (P:=C.E.P) w t o.type te.t i0 te.zero te.size te.bytes hu hi0 hzero hsize hbytes hzs hs0 b 0 0 [] Oc (fun j u hj=>by simp at hj) ad ys.length cap news n1 n2
    Oa (by simpa using hmx') (by simpa using hlen)
   rw[gc3,gb7]at a2;refine⟨v',w',a1,⟨a2.1,a2.2.imp id fun⟨g,c,cur,e,h1,h2⟩=>⟨g,c,cur,e,ga8 _,h2⟩⟩,a3,fun e=>?_,fun b' hb=>(a2.lt b' hb).1⟩;rcases a2.2 with⟨-,h0⟩|⟨g,c,cur,e',-⟩
   ·omega
   ·rw[e']at e;cases e
 have hrun:(execOp a.eval o).run C.E.P w=.ok (.value v') w':=by
  rw[←hev,←hvy]at a1;simp[execOp,ho,resolve,invoke,builtin,a1]
 unfold Oper.wp;rw[hrun];have keep:∀b,F b→w'.heap[b]? =w.heap[b]? :=fun b hb=>a3.block b (hi.flt b hb) fun e=>by cases e
 obtain⟨g,c,rfl,hob'⟩:=ar0 (F:=F) (σ:=σ++ [(0,0,0)]) (B:=C.O) (xs:=ys) a2 (fun b hb=>h1.new (a5 b hb)) a4 rfl hsz hone
  (fun i x j cd hx hc=>by
   obtain⟨v,e1,e2⟩:=n4 i x j cd hx hc;exact⟨v,e1,e2.mono (fun _ h=>h) keep⟩)
  (fun b hb hf=>by have:=a5 b hb;have:=hi.flt b hf;omega)
 have hob'':aa6 w' F (σ++ [(g,c,ys.length)]) C.O (.row te.t te.size ys) (g,c,ys.length):=hob';refine hK _ _ (ar2 (row:=none) (g:=g) (c:=c) (n:=ys.length) (ob0:=s.ob) h1 h2 h3 hi h4 h5 hs hd (fun k q hq _=>⟨hq,fun p _=>by simp⟩) rfl a3 (fun k hk=>by cases hk) (.inr (a5 g rfl)) hob'' ⟨g,c,ys.length,?_,rfl⟩);rw[←hi.len];simp
end
section
variable{C:Cx}{all:Array Oper}{pu:Bool}{K:St→Prop}{rest:List Oper}{tm:List (Nat × X)}{ob:List aa5}{d:Nat}{o:Oper}
theorem bo4{t:TypeId}{te:TE}(h:SGo C all pu rest ⟨(d,.zc)::tm,ob⟩ K)(ho:o.op=.buildSlice t 0 #[]:=by exact rfl)(hg:ap8 all tm o=some true:=by exact rfl)(hdst:o.dst=some d:=by exact rfl)(hd:Nat.blt d C.N=true:=by exact rfl)(hte:al2 C.E t=some te:=by exact rfl):SGo C all pu (o::rest) ⟨tm,ob⟩ K:=
 av2 hg hdst hd (bo1 ho hte) h
theorem bo5{t t':TypeId}{y z:Operand}{te:TE}{e':TypeId}(h:SGo C all pu rest ⟨(d,.zc)::tm,ob⟩ K)(ho:o.op=.call {callee:=.builtin .append,args:= #[y,z],argTypes:= #[t,t']}:=by exact rfl)
  (hg:ap8 all tm o=some true:=by exact rfl)(hdst:o.dst=some d:=by exact rfl)(hd:Nat.blt d C.N=true:=by exact rfl)(hte:al2 C.E t=some te:=by exact rfl)(hd':at8 C.E t'=some (.slice e'):=by exact rfl)(hy':(⟨tm,ob⟩:St).ev C.E y=.zc:=by exact rfl)(hz':(⟨tm,ob⟩:St).ev C.E z=.d (.sl []):=by exact rfl):SGo C all pu (o::rest) ⟨tm,ob⟩ K:=
 av2 hg hdst hd (bo2 ho hte hd' hy' hz') h
theorem bo6{t:TypeId}{y z:Operand}{te:TE}{ys:List D}(hp:ys≠ []∧(∀d∈ys,d.cells.length=te.size)∧ys.length*te.bytes≤140737488355328∧ys.length≤9223372036854775807)(h:SGo C all false rest ⟨(d,.own ob.length)::tm,ob++ [.row te.t te.size ys]⟩ K)
  (ho:o.op=.call {callee:=.builtin .append,args:= #[y,z],argTypes:= #[t,t]}:=by exact rfl)(hg:ap8 all tm o=some true:=by exact rfl)(hdst:o.dst=some d:=by exact rfl)(hd:Nat.blt d C.N=true:=by exact rfl)(hte:al2 C.E t=some te:=by exact rfl)
  (hy:(⟨tm,ob⟩:St).ev C.E y=.zc:=by exact rfl)(hz:(⟨tm,ob⟩:St).ev C.E z=.d (.sl ys):=by exact rfl)(hzs:Nat.beq te.zero.cells.size te.size=true:=by exact rfl)(hs0:Nat.blt 0 te.size=true:=by exact rfl):SGo C all false (o::rest) ⟨tm,ob⟩ K:=by
 refine SGo.eff (ap9 hg) (bo3 (s:=⟨tm,ob⟩) ho hte hy hz hp.1 hp.2.1 (fz8 hzs) (by simpa using hs0) hp.2.2.1 hp.2.2.2 (by simp only[ac9,hdst];exact hd)) ?_;rw[hdst];exact h
end
section
variable{C:Cx}{r:List It}{Q:Exit→St→Prop}{tm:List (Nat × X)}{ob:List aa5}
theorem Le.slotX(t:Nat){x y:X}(h:lk tm t=x)(hw:∀w F σ v,RdX w F σ x v→RdX w F σ y v):Le C ⟨tm,ob⟩ ⟨(t,y)::tm,ob⟩:=by
 intro a w hr;obtain⟨F,σ,r1,r2,r3,hi,r4,r5,hs⟩:=hr;refine⟨F,σ,r1,r2,r3,hi,r4,r5,fun u=>?_⟩;show RdX w F σ (bif Nat.beq t u then _ else lk tm u) _
 cases hb:Nat.beq t u with
 |true=>
  have hu:=hs u;obtain rfl:=fz8 hb;rw[h]at hu;exact hw _ _ _ _ hu
 |false=>exact hs u
theorem bo7{c:Code}(t:Nat)(h:lk tm t=.nilS)(hg:go C (.code c::r) ⟨(t,.zc)::tm,ob⟩ Q):go C (.code c::r) ⟨tm,ob⟩ Q:=ac7 (Le.slotX (y:=.zc) t h fun _ _ _ v hv=>(show ∃p,v=.slice p 0 0 from⟨none,hv⟩)) hg
theorem bo8{c:Code}(t:Nat)(h:lk tm t=.zc)(hg:go C (.code c::r) ⟨(t,.d (.sl []))::tm,ob⟩ Q):go C (.code c::r) ⟨tm,ob⟩ Q:=ac7 (Le.slotX (y:=.d (.sl [])) t h fun _ F _ v hv=>(show Rd _ F (.sl []) v from rd_zc hv)) hg
end
def bo9(k:Nat):List D→X
 |[]=>.zc
 |_::_=>.own k
end Go.Abs
namespace Go.Abs
open Go Go.RowKit
section
variable{C:Cx}{s:St}{o:Oper}
theorem bp0{y:Operand}{args:List Operand}{tys:Array TypeId}{f:FuncId}{cs xs:List X}{ob1 ob1':List aa5}{rx:X}{sel:List Nat}(ho:o.op=.call {callee:=.value y,args:=args.toArray,argTypes:=tys})
  (hf:FnX (s.ev C.E y) f cs)(hb:an9 C.E f)(hn:aw9 sel=true)(hob:aw8 sel s.ob sel=some ob1)(hx:aw5 sel (args.map (fun z=>s.ev C.E z)++cs)=some xs)(h:EvS C.E f xs ob1 rx ob1')(hd:ac9 C o=true):
  SOp C s o (St.put ⟨s.tm,ba9 (bk sel s.ob.length) sel ob1' s.ob⟩ o.dst (bkX (bk sel s.ob.length) rx)):=by
 refine bb4 (fun w a F σ hr=>?_) hn hob hx h hd;obtain⟨us,u1,u2,u3⟩:=hf.val (hr y);refine⟨args.map a.eval++us,?_,by simp[u2],fun i x0 v g1 hvi=>?_⟩
 ·simp only[execOp,ho];rw[bb2 u1];simpa using hb (args.toArray.map a.eval++us.toArray) w
 ·rcases fy5 i args.length with hlt|hge
  ·rw[ga0 (by simpa using hlt)]at g1 hvi;rw[fz1,fz9]at g1 hvi;obtain⟨z,z1,rfl⟩:=g1;obtain⟨z',z1',rfl⟩:=hvi;rw[z1]at z1'
   cases z1'
   exact hr z
  ·rw[ga7 (by simpa using hge)]at g1 hvi;simp only[fz3]at g1 hvi;exact u3 _ _ _ g1 hvi
end
section
variable{C:Cx}{all:Array Oper}{pu:Bool}{K:St→Prop}{rest:List Oper}{tm:List (Nat × X)}{ob:List aa5}{d:Nat}{o:Oper}
theorem bp1(sel:List Nat){y:Operand}{args:List Operand}{tys:Array TypeId}{f:FuncId}{cs xs:List X}{ob1 ob1' ob2:List aa5}{rx x2:X}(ho:o.op=.call {callee:=.value y,args:=args.toArray,argTypes:=tys})(hg:ap8 all tm o=some true)(hdst:o.dst=some d)
  (hd:Nat.blt d C.N=true)(hf:FnX ((⟨tm,ob⟩:St).ev C.E y) f cs)(hb:an9 C.E f)(h0:EvS C.E f xs ob1 rx ob1')(hn:aw9 sel=true)(hob:aw8 sel ob sel=some ob1)(hx:aw5 sel (args.map (fun z=>(⟨tm,ob⟩:St).ev C.E z)++cs)=some xs)
  (hob2:ba9 (bk sel ob.length) sel ob1' ob=ob2)(hx2:bkX (bk sel ob.length) rx=x2)(h:SGo C all false rest ⟨(d,x2)::tm,ob2⟩ K):SGo C all false (o::rest) ⟨tm,ob⟩ K:=by
 subst hob2 hx2;refine SGo.eff (ap9 hg) (bp0 ho hf hb hn hob hx h0 (by simp only[ac9,hdst];exact hd)) ?_;rw[hdst];exact h
end
end Go.Abs
namespace Go.Abs
open Go Go.RowKit
section
variable{C:Cx}{tm:List (Nat × X)}{ob:List aa5}{id:Nat}{l:List Oper}{E:List Nat}{wob:List aa5}{i:Nat}{rest:List Oper}{K:St→Prop}{o:Oper}{d:Nat}{p:Prop}{x:X}
theorem reV2(hne:E.contains i=false)(hg:ap8 l.toArray tm o=some true)(hdst:o.dst=some d)(hd:Nat.blt d C.N=true)(hn:Nat.ble C.base.n0 wob.length=true)
  (hv:vop2 C ⟨bi8 wob.length tm,wob⟩ o=some (p,x))(hp:p)(h:RGw C id l E wob (i+1) rest ⟨(d,x)::tm,ob⟩ K):RGw C id l E wob i (o::rest) ⟨tm,ob⟩ K:=by
 obtain⟨s',h1,h2⟩:=h;refine⟨s',.weak (ap9 hg) (by simp only[ac9,hdst];exact hd) hne (fun ob' hw'=>((au7 hv hp).wk hw' (gc0 hn) (bj1 _ tm)).dim) ?_,h2⟩;rw[show(⟨tm,ob⟩:St).put o.dst x=⟨(d,x)::tm,ob⟩ by rw[hdst];rfl];exact h1
theorem reZ{t:TypeId}{y z:Operand}{te:TE}{ys:List D}(hp:ys≠ []∧(∀d∈ys,d.cells.length=te.size)∧ys.length*te.bytes≤140737488355328∧ys.length≤9223372036854775807)(hne:E.contains i=true)(ho:o.op=.call {callee:=.builtin .append,args:= #[y,z],argTypes:= #[t,t]})
  (hg:ap8 l.toArray tm o=some true)(hdst:o.dst=some d)(hd:Nat.blt d C.N=true)(hte:al2 C.E t=some te)
  (hy:(⟨tm,ob⟩:St).ev C.E y=.zc)(hz:(⟨tm,ob⟩:St).ev C.E z=.d (.sl ys))(hzs:Nat.beq te.zero.cells.size te.size=true)(hs0:Nat.blt 0 te.size=true)(hw:wkP wob.length wob (ob++ [.row te.t te.size ys]))
  (h:RGw C id l E wob (i+1) rest ⟨(d,.own ob.length)::tm,ob++ [.row te.t te.size ys]⟩ K):RGw C id l E wob i (o::rest) ⟨tm,ob⟩ K:=by
 have hdk:ac9 C o=true:=by simp only[ac9,hdst];exact hd
 refine reX (x:=.own ob.length) (ob':=ob++ [.row te.t te.size ys]) hne hg hdk (fun tm2 hev=>?_) hw (by rw[hdst];exact h);have h1:(⟨tm2,ob⟩:St).ev C.E y=.zc:=by rw[←hy];exact hev y (by simp[ho,Op.operands,Call.operands])
 have h2:(⟨tm2,ob⟩:St).ev C.E z=.d (.sl ys):=by rw[←hz];exact hev z (by simp[ho,Op.operands,Call.operands])
 have:=bo3 (s:=⟨tm2,ob⟩) ho hte h1 h2 hp.1 hp.2.1 (fz8 hzs) (by simpa using hs0) hp.2.2.1 hp.2.2.2 hdk;rw[hdst]at this ⊢;exact this
end
end Go.Abs
namespace Go.Val
open Go Go.Abs
inductive V where
 |mk (k n d:Int) (s:ByteArray) (l:List V)
 deriving Inhabited
def V.k:V→Int|.mk k _ _ _ _=>k
def V.n:V→Int|.mk _ n _ _ _=>n
def V.d:V→Int|.mk _ _ d _ _=>d
def V.s:V→ByteArray|.mk _ _ _ s _=>s
def V.l:V→List V|.mk _ _ _ _ l=>l
theorem V.eta(v:V):V.mk v.k v.n v.d v.s v.l=v:=by cases v;rfl
mutual
def kids:V→List D
 |.mk _ _ _ _ l=>bp2 l
def bp2:List V→List D
 |[]=>[]
 |v::r=>.agg [.int v.k,.int v.n,.int v.d,.str v.s,.sl (kids v)]::bp2 r
end
def enc(v:V):D:=.agg [.int v.k,.int v.n,.int v.d,.str v.s,.sl (kids v)]
theorem bp3(l:List V):bp2 l=l.map enc:=by
 induction l with
 |nil=>simp[bp2]
 |cons v r ih=>simp[bp2,ih,enc]
theorem bp4(v:V):kids v=v.l.map enc:=by
 cases v
 simp[kids,bp3,V.l]
theorem bp5{l:List V}{i:Nat}{x:V}(h:l[i]? =some x):(bp2 l)[i]? =some (enc x):=by
 rw[bp3,fz1,h];rfl
theorem bp6(v:V):(kids v).length=v.l.length:=by rw[bp4];simp
theorem bp7(l:List V):(bp2 l).length=l.length:=by rw[bp3];simp
def encR(l:List (List V)):List D:=l.map fun r=>.sl (bp2 r)
theorem bp8{v:V}(h:Fit (enc v)):inR .i64 v.k∧inR .i64 v.n∧inR .i64 v.d∧v.s.size≤9223372036854775807∧v.l.length≤9223372036854775807∧∀x∈v.l,Fit (enc x):=by
 have hc:=h.aggs;have h5:=(hc (.sl (kids v)) Oc).sls;rw[bp6]at h5;refine⟨(hc (.int v.k) Oc).int,(hc (.int v.n) Oc).int,(hc (.int v.d) Oc).int,(hc (.str v.s) Oc).str,h5.1,fun x hx=>h5.2 _ ?_⟩;rw[bp4];exact gc4 hx
theorem bp9{l:List V}(h:Fit (.sl (bp2 l))):l.length≤9223372036854775807∧∀x∈l,Fit (enc x):=by
 have h5:=h.sls;rw[bp7]at h5;refine⟨h5.1,fun x hx=>h5.2 _ ?_⟩;rw[bp3];exact gc4 hx
def inM(n:Int):Bool:=decide (n≥ -1000000000000000) &&decide (n≤1000000000000000)
theorem bq0(n:Int):inM n=true↔ -1000000000000000≤n∧n≤1000000000000000:=by simp[inM]
def bq1(a b:Int):Int:=bif inM a&&inM b then(Int.gcd a b:Int)else 0
def bq2(n d:Int):Bool:=decide (d≥1) &&(decide (d≤1000000000000000) &&(inM n&&((Int.gcd n d:Int)==1)))
def kn(t:Int):Int:=bif (t==0)||(t==2)then t else 1
def tt(b:Bool):Int:=bif b then 2 else 0
def vBool(b:Bool):V:=.mk 1 (bif b then 1 else 0) 0 ⟨#[]⟩ []
def bq3:V:=.mk 0 0 0 ⟨#[]⟩ []
def s0(s:ByteArray):Bool:=s.toList==(⟨#[]⟩:ByteArray).toList
def bq4(s:ByteArray):Bool:=s.data.toList.all (fun b=> !(decide (b.toNat<32)||decide (b.toNat>126))) &&decide (s.size≤100)
def bq5(v:V):Bool:=
 (v.k==0&&(v.d==0&&s0 v.s&&v.l.length==0) &&v.n==0)||
 (v.k==1&&(v.d==0&&s0 v.s&&v.l.length==0) &&(v.n==0||v.n==1))||
 (v.k==2&&(v.d==0&&s0 v.s&&v.l.length==0) &&inM v.n)||
 (v.k==3&&(s0 v.s&&v.l.length==0) &&(decide (v.d≥2) &&bq2 v.n v.d))||
 (v.k==4&&(v.d==0&&v.l.length==0) &&(v.n==0&&bq4 v.s))||
 ((v.k==5||v.k==6) &&(v.d==0&&s0 v.s&&v.l.length==0) &&(decide (v.n≥1) &&decide (v.n≤1000000)))
def bq6(i:Nat)(v:V):Bool:=v.k==(bif i % 2==0 then 5 else 6) &&bq5 v
def bq7:Nat→List V→Bool
 |_,[]=>true
 |i,v::r=>bq6 i v&&bq7 (i+1) r
def bq8(l:List V):Bool:=l.length % 2==1&&decide (l.length≤25) &&bq7 0 l
def okN:Nat→V→Bool
 |0,v=>bq5 v||(v.k==7&&(v.d==0&&s0 v.s) &&(v.n==0&&bq8 v.l))
 |m+1,v=>bq5 v||(v.k==7&&(v.d==0&&s0 v.s) &&(v.n==0&&bq8 v.l))||(v.k==8&&(v.d==0&&s0 v.s) &&(v.n==0&&decide (v.l.length≤64) &&v.l.all (okN m)))
def okV(v:V):Bool:=okN 8 v
def bq9(v:V):Bool:=(v.k==1||v.k==2||v.k==4) &&okV v
def br0(v:V):Bool:=(v.k==2||v.k==3) &&okV v
def br1(v:V):Int:=bif br0 v then v.n else 0
def br2(v:V):Int:=bif br0 v then(bif v.k==2 then 1 else v.d)else 0
end Go.Val
namespace Go.Proofs.YtndgolmgaenlfaaGreatDoor
open Go Go.Abs
set_option maxRecDepth 100000
def te3:TE:=⟨3,.int .i64,1,8,.int .i64 0⟩
def te4:TE:=⟨4,.bool,1,1,.bool false⟩
def te9:TE:=⟨9,.string,1,16,.string {data:= #[]}⟩
def te26:TE:=⟨26,.struct #[⟨"Vars",23,0,false, "", "",0⟩,⟨"Atoms",24,1,false, "", "",24⟩],2,48,.agg #[.slice none 0 0,.slice none 0 0]⟩
def te31:TE:=⟨31,.struct #[⟨"Kind",3,0,false, "", "",0⟩,⟨"N",3,1,false, "", "",8⟩,⟨"D",3,2,false, "", "",16⟩,⟨"S",9,3,false, "", "",24⟩,⟨"L",29,4,false, "", "",40⟩],5,64,.agg #[.int .i64 0,.int .i64 0,.int .i64 0,.string {data:= #[]},.slice none 0 0]⟩
def te33:TE:=⟨33,.struct #[⟨"Op",3,0,false, "", "",0⟩,⟨"V",31,1,false, "", "",8⟩,⟨"Name",9,6,false, "", "",72⟩,⟨"Distinct",4,7,false, "", "",88⟩,⟨"Kids",28,8,false, "", "",96⟩],9,120,.agg #[.int .i64 0,.int .i64 0,.int .i64 0,.int .i64 0,.string {data:= #[]},.slice none 0 0,.string {data:= #[]},.bool false,.slice none 0 0]⟩
def te38:TE:=⟨38,.struct #[⟨"Kind",3,0,false, "", "",0⟩,⟨"Opt",4,1,false, "", "",8⟩,⟨"Distinct",4,2,false, "", "",9⟩,⟨"Paths",27,3,false, "", "",16⟩,⟨"Where",28,4,false, "", "",40⟩,⟨"E",33,5,false, "", "",64⟩,⟨"Name",9,14,false, "", "",184⟩,⟨"Items",34,15,false, "", "",200⟩,⟨"Order",35,16,false, "", "",224⟩,⟨"Skip",3,17,false, "", "",248⟩,⟨"Limit",3,18,false, "", "",256⟩,⟨"Sets",36,19,false, "", "",264⟩,⟨"Names",23,20,false, "", "",288⟩],21,312,.agg #[.int .i64 0,.bool false,.bool false,.slice none 0 0,.slice none 0 0,.int .i64 0,.int .i64 0,.int .i64 0,.int .i64 0,.string {data:= #[]},.slice none 0 0,.string {data:= #[]},.bool false,.slice none 0 0,.string {data:= #[]},.slice none 0 0,.slice none 0 0,.int .i64 0,.int .i64 0,.slice none 0 0,.slice none 0 0]⟩
def te40:TE:=⟨40,.struct #[⟨"Op",3,0,false, "", "",0⟩,⟨"Kids",22,1,false, "", "",8⟩,⟨"Conj",26,2,false, "", "",32⟩,⟨"Clause",38,4,false, "", "",80⟩,⟨"E",33,25,false, "", "",392⟩,⟨"Name",9,34,false, "", "",512⟩,⟨"Items",34,35,false, "", "",528⟩,⟨"Order",35,36,false, "", "",552⟩,⟨"Skip",3,37,false, "", "",576⟩,⟨"Limit",3,38,false, "", "",584⟩],39,592,.agg #[.int .i64 0,.slice none 0 0,.slice none 0 0,.slice none 0 0,.int .i64 0,.bool false,.bool false,.slice none 0 0,.slice none 0 0,.int .i64 0,.int .i64 0,.int .i64 0,.int .i64 0,.string {data:= #[]},.slice none 0 0,.string {data:= #[]},.bool false,.slice none 0 0,.string {data:= #[]},.slice none 0 0,.slice none 0 0,.int .i64 0,.int .i64 0,.slice none 0 0,.slice none 0 0,.int .i64 0,.int .i64 0,.int .i64 0,.int .i64 0,.string {data:= #[]},.slice none 0 0,.string {data:= #[]},.bool false,.slice none 0 0,.string {data:= #[]},.slice none 0 0,.slice none 0 0,.int .i64 0,.int .i64 0]⟩
def te55:TE:=⟨55,.struct #[⟨"E",33,0,false, "", "",0⟩,⟨"As",9,9,false, "", "",120⟩],10,136,.agg #[.int .i64 0,.int .i64 0,.int .i64 0,.int .i64 0,.string {data:= #[]},.slice none 0 0,.string {data:= #[]},.bool false,.slice none 0 0,.string {data:= #[]}]⟩
def te57:TE:=⟨57,.struct #[⟨"E",33,0,false, "", "",0⟩,⟨"Desc",4,9,false, "", "",120⟩],10,128,.agg #[.int .i64 0,.int .i64 0,.int .i64 0,.int .i64 0,.string {data:= #[]},.slice none 0 0,.string {data:= #[]},.bool false,.slice none 0 0,.bool false]⟩
def te60:TE:=⟨60,.struct #[⟨"Kind",3,0,false, "", "",0⟩,⟨"Vars",58,1,false, "", "",8⟩,⟨"Name",9,2,false, "", "",32⟩,⟨"Types",23,3,false, "", "",48⟩,⟨"V",31,4,false, "", "",72⟩],9,136,.agg #[.int .i64 0,.slice none 0 0,.string {data:= #[]},.slice none 0 0,.int .i64 0,.int .i64 0,.int .i64 0,.string {data:= #[]},.slice none 0 0]⟩
def te69:TE:=⟨69,.struct #[⟨"Var",9,0,false, "", "",0⟩,⟨"Nodes",66,1,false, "", "",16⟩,⟨"Edges",67,2,false, "", "",40⟩],3,64,.agg #[.string {data:= #[]},.slice none 0 0,.slice none 0 0]⟩
def te76:TE:=⟨76,.struct #[⟨"Var",9,0,false, "", "",0⟩,⟨"Types",23,1,false, "", "",16⟩,⟨"Dir",3,2,false, "", "",40⟩,⟨"Mode",3,3,false, "", "",48⟩,⟨"Min",3,4,false, "", "",56⟩,⟨"Max",3,5,false, "", "",64⟩,⟨"Props",74,6,false, "", "",72⟩],7,96,.agg #[.string {data:= #[]},.slice none 0 0,.int .i64 0,.int .i64 0,.int .i64 0,.int .i64 0,.slice none 0 0]⟩
def te78:TE:=⟨78,.struct #[⟨"Var",9,0,false, "", "",0⟩,⟨"Labels",23,1,false, "", "",16⟩,⟨"Props",74,2,false, "", "",40⟩],3,64,.agg #[.string {data:= #[]},.slice none 0 0,.slice none 0 0]⟩
def te80:TE:=⟨80,.struct #[⟨"Var",9,0,false, "", "",0⟩,⟨"Key",9,1,false, "", "",16⟩,⟨"Label",9,2,false, "", "",32⟩,⟨"Off",4,3,false, "", "",48⟩,⟨"E",33,4,false, "", "",56⟩],13,176,.agg #[.string {data:= #[]},.string {data:= #[]},.string {data:= #[]},.bool false,.int .i64 0,.int .i64 0,.int .i64 0,.int .i64 0,.string {data:= #[]},.slice none 0 0,.string {data:= #[]},.bool false,.slice none 0 0]⟩
def te96:TE:=⟨96,.struct #[⟨"Key",9,0,false, "", "",0⟩,⟨"E",33,1,false, "", "",16⟩],10,136,.agg #[.string {data:= #[]},.int .i64 0,.int .i64 0,.int .i64 0,.int .i64 0,.string {data:= #[]},.slice none 0 0,.string {data:= #[]},.bool false,.slice none 0 0]⟩
def te102:TE:=⟨102,.struct #[⟨"kids",3,0,false, "", "graphdb/plan",0⟩,⟨"conj",4,1,false, "", "graphdb/plan",8⟩,⟨"clause",4,2,false, "", "graphdb/plan",9⟩,⟨"expr",4,3,false, "", "graphdb/plan",10⟩,⟨"name",4,4,false, "", "graphdb/plan",11⟩,⟨"items",4,5,false, "", "graphdb/plan",12⟩,⟨"order",4,6,false, "", "graphdb/plan",13⟩,⟨"ordered",4,7,false, "", "graphdb/plan",14⟩],8,16,.agg #[.int .i64 0,.bool false,.bool false,.bool false,.bool false,.bool false,.bool false,.bool false]⟩
def te124:TE:=⟨124,.struct #[⟨"addr",121,0,false, "", "strings",0⟩,⟨"buf",122,1,false, "", "strings",8⟩],2,32,.agg #[.pointer none,.slice none 0 0]⟩
def te145:TE:=⟨145,.struct #[⟨"N",3,0,false, "", "",0⟩,⟨"D",3,1,false, "", "",8⟩],2,16,.agg #[.int .i64 0,.int .i64 0]⟩
def te164:TE:=⟨164,.struct #[⟨"e",43,0,false, "", "graphdb/syntax",0⟩],1,8,.agg #[.int .i64 0]⟩
def te211:TE:=⟨211,.struct #[⟨"name",9,0,false, "", "graphdb/syntax",0⟩,⟨"names",23,1,false, "", "graphdb/syntax",16⟩,⟨"props",74,2,false, "", "graphdb/syntax",40⟩],3,64,.agg #[.string {data:= #[]},.slice none 0 0,.slice none 0 0]⟩
def te271:TE:=⟨271,.struct #[⟨"neg",4,0,false, "", "graphdb/frac",0⟩,⟨"hi",175,1,false, "", "graphdb/frac",8⟩,⟨"lo",175,2,false, "", "graphdb/frac",16⟩],3,24,.agg #[.bool false,.int .u64 0,.int .u64 0]⟩
def te294:TE:=⟨294,.struct #[⟨"lo",5,0,false, "", "unicode/utf8",0⟩,⟨"hi",5,1,false, "", "unicode/utf8",1⟩],2,2,.agg #[.int .u8 0,.int .u8 0]⟩
def te22:TE:=⟨22,.slice 40,1,24,.slice none 0 0⟩
def te23:TE:=⟨23,.slice 9,1,24,.slice none 0 0⟩
def te24:TE:=⟨24,.slice 60,1,24,.slice none 0 0⟩
def te27:TE:=⟨27,.slice 69,1,24,.slice none 0 0⟩
def te28:TE:=⟨28,.slice 33,1,24,.slice none 0 0⟩
def te29:TE:=⟨29,.slice 31,1,24,.slice none 0 0⟩
def te34:TE:=⟨34,.slice 55,1,24,.slice none 0 0⟩
def te35:TE:=⟨35,.slice 57,1,24,.slice none 0 0⟩
def te36:TE:=⟨36,.slice 80,1,24,.slice none 0 0⟩
def te58:TE:=⟨58,.slice 3,1,24,.slice none 0 0⟩
def te66:TE:=⟨66,.slice 78,1,24,.slice none 0 0⟩
def te67:TE:=⟨67,.slice 76,1,24,.slice none 0 0⟩
def te74:TE:=⟨74,.slice 96,1,24,.slice none 0 0⟩
def te82:TE:=⟨82,.slice 23,1,24,.slice none 0 0⟩
def te122:TE:=⟨122,.slice 5,1,24,.slice none 0 0⟩
def te155:TE:=⟨155,.slice 4,1,24,.slice none 0 0⟩
def te208:TE:=⟨208,.slice 211,1,24,.slice none 0 0⟩
def te1:TE:=⟨1,.func #[] #[] false,1,8,.nilFunc⟩
def te2:TE:=⟨2,.int .i64,1,8,.int .i64 0⟩
def te5:TE:=⟨5,.int .u8,1,1,.int .u8 0⟩
def te21:TE:=⟨21,.int .i32,1,4,.int .i32 0⟩
def te43:TE:=⟨43,.int .i64,1,8,.int .i64 0⟩
def te47:TE:=⟨47,.func #[40] #[4] false,1,8,.nilFunc⟩
def te64:TE:=⟨64,.func #[33] #[4] false,1,8,.nilFunc⟩
def te99:TE:=⟨99,.func #[31,31] #[3] false,1,8,.nilFunc⟩
def te107:TE:=⟨107,.func #[9] #[4] false,1,8,.nilFunc⟩
def te112:TE:=⟨112,.func #[96] #[4] false,1,8,.nilFunc⟩
def te117:TE:=⟨117,.int .u64,1,8,.int .u64 0⟩
def te121:TE:=⟨121,.pointer 124,1,8,.pointer none⟩
def te152:TE:=⟨152,.func #[107] #[] false,1,8,.nilFunc⟩
def te153:TE:=⟨153,.func #[107] #[] false,1,8,.nilFunc⟩
def te158:TE:=⟨158,.func #[21] #[4] false,1,8,.nilFunc⟩
def te172:TE:=⟨172,.int .u32,1,4,.int .u32 0⟩
def te175:TE:=⟨175,.int .u64,1,8,.int .u64 0⟩
def te178:TE:=⟨178,.pointer 5,1,8,.pointer none⟩
def te179:TE:=⟨179,.func #[3] #[9] false,1,8,.nilFunc⟩
def te184:TE:=⟨184,.func #[55] #[9] false,1,8,.nilFunc⟩
def te186:TE:=⟨186,.func #[57] #[9] false,1,8,.nilFunc⟩
def te198:TE:=⟨198,.map 9 4,1,8,.map none⟩
def te199:TE:=⟨199,.func #[33] #[] false,1,8,.nilFunc⟩
def te202:TE:=⟨202,.func #[58] #[4] true,1,8,.nilFunc⟩
def te204:TE:=⟨204,.func #[3,3,3] #[4] false,1,8,.nilFunc⟩
def te205:TE:=⟨205,.pointer 164,1,8,.pointer none⟩
def te207:TE:=⟨207,.func #[76] #[4] false,1,8,.nilFunc⟩
def te253:TE:=⟨253,.int .i64,1,8,.int .i64 0⟩
def te274:TE:=⟨274,.int .u64,1,8,.int .u64 0⟩
def te278:TE:=⟨278,.pointer 3,1,8,.pointer none⟩
def te290:TE:=⟨290,.pointer 274,1,8,.pointer none⟩
theorem kC{P:Program}{e:TE}{l:List TE}{i:TypeInfo}(h:P.underlying e.t=some e.desc)(h':P.info? e.t=some i)(h2:∀x∈l,x.ok P)(a:i.size=e.size:=by exact rfl)(b:i.bytes=e.bytes:=by exact rfl)(c:i.zero=some e.zero:=by exact rfl):∀x∈e::l,x.ok P:=List.forall_mem_cons.2 ⟨⟨h,i,h',a,b,c⟩,h2⟩
def seatT:List TE:=[te3,te4,te9,te26,te31,te33,te38,te40,te55,te57,te60,te69,te76,te78,te80,te96,te102,te124,te145,te164,te211,te271,te294,te22,te23,te24,te27,te28,te29,te34,te35,te36,te58,te66,te67,te74,te82,te122,te155,te208,te1,te2,te5,te21,te43,te47,te64,te99,te107,te112,te117,te121,te152,te153,te158,te172,te175,te178,te179,te184,te186,te198,te199,te202,te204,te205,te207,te253,te274,te278,te290]
theorem seatT_ok:∀e∈seatT,e.ok Tryz.prog:=by
 unfold seatT;refine kC Tryz.underlying3 Tryz.type3 ?_;refine kC Tryz.underlying4 Tryz.type4 ?_;refine kC Tryz.underlying9 Tryz.type9 ?_;refine kC Tryz.underlying26 Tryz.type26 ?_;refine kC Tryz.underlying31 Tryz.type31 ?_;refine kC Tryz.underlying33 Tryz.type33 ?_;refine kC Tryz.underlying38 Tryz.type38 ?_;refine kC Tryz.underlying40 Tryz.type40 ?_;refine kC Tryz.underlying55 Tryz.type55 ?_;refine kC Tryz.underlying57 Tryz.type57 ?_;refine kC Tryz.underlying60 Tryz.type60 ?_;refine kC Tryz.underlying69 Tryz.type69 ?_;refine kC Tryz.underlying76 Tryz.type76 ?_;refine kC Tryz.underlying78 Tryz.type78 ?_;refine kC Tryz.underlying80 Tryz.type80 ?_;refine kC Tryz.underlying96 Tryz.type96 ?_;refine kC Tryz.underlying102 Tryz.type102 ?_;refine kC Tryz.underlying124 Tryz.type124 ?_;refine kC Tryz.underlying145 Tryz.type145 ?_;refine kC Tryz.underlying164 Tryz.type164 ?_;refine kC Tryz.underlying211 Tryz.type211 ?_;refine kC Tryz.underlying271 Tryz.type271 ?_;refine kC Tryz.underlying294 Tryz.type294 ?_;refine kC Tryz.underlying22 Tryz.type22 ?_;refine kC Tryz.underlying23 Tryz.type23 ?_;refine kC Tryz.underlying24 Tryz.type24 ?_;refine kC Tryz.underlying27 Tryz.type27 ?_;refine kC Tryz.underlying28 Tryz.type28 ?_;refine kC Tryz.underlying29 Tryz.type29 ?_;refine kC Tryz.underlying34 Tryz.type34 ?_;refine kC Tryz.underlying35 Tryz.type35 ?_;refine kC Tryz.underlying36 Tryz.type36 ?_;refine kC Tryz.underlying58 Tryz.type58 ?_;refine kC Tryz.underlying66 Tryz.type66 ?_;refine kC Tryz.underlying67 Tryz.type67 ?_;refine kC Tryz.underlying74 Tryz.type74 ?_;refine kC Tryz.underlying82 Tryz.type82 ?_;refine kC Tryz.underlying122 Tryz.type122 ?_;refine kC Tryz.underlying155 Tryz.type155 ?_;refine kC Tryz.underlying208 Tryz.type208 ?_;refine kC Tryz.underlying1 Tryz.type1 ?_;refine kC Tryz.underlying2 Tryz.type2 ?_;refine kC Tryz.underlying5 Tryz.type5 ?_;refine kC Tryz.underlying21 Tryz.type21 ?_;refine kC Tryz.underlying43 Tryz.type43 ?_;refine kC Tryz.underlying47 Tryz.type47 ?_;refine kC Tryz.underlying64 Tryz.type64 ?_;refine kC Tryz.underlying99 Tryz.type99 ?_;refine kC Tryz.underlying107 Tryz.type107 ?_;refine kC Tryz.underlying112 Tryz.type112 ?_;refine kC Tryz.underlying117 Tryz.type117 ?_;refine kC Tryz.underlying121 Tryz.type121 ?_;refine kC Tryz.underlying152 Tryz.type152 ?_;refine kC Tryz.underlying153 Tryz.type153 ?_;refine kC Tryz.underlying158 Tryz.type158 ?_;refine kC Tryz.underlying172 Tryz.type172 ?_;refine kC Tryz.underlying175 Tryz.type175 ?_;refine kC Tryz.underlying178 Tryz.type178 ?_;refine kC Tryz.underlying179 Tryz.type179 ?_;refine kC Tryz.underlying184 Tryz.type184 ?_;refine kC Tryz.underlying186 Tryz.type186 ?_;refine kC Tryz.underlying198 Tryz.type198 ?_;refine kC Tryz.underlying199 Tryz.type199 ?_;refine kC Tryz.underlying202 Tryz.type202 ?_;refine kC Tryz.underlying204 Tryz.type204 ?_;refine kC Tryz.underlying205 Tryz.type205 ?_;refine kC Tryz.underlying207 Tryz.type207 ?_;refine kC Tryz.underlying253 Tryz.type253 ?_;refine kC Tryz.underlying274 Tryz.type274 ?_
 refine kC Tryz.underlying278 Tryz.type278 ?_;refine kC Tryz.underlying290 Tryz.type290 ?_;intro e h;cases h
def seatG:List GE:=[{g:=1,x:=.agg [.int 0,.int 1]}]
def seatI(w:World)(F:Nat→Prop):Prop:=(F 2∧Lib.TabIs Tryz.prog w "internal/strconv.uint64pow10" .u64 Lib.pow10Tab)∧(F 0∧∃m:Int,w.cell? ⟨0,0,none⟩=some (.int .i64 m))
theorem seatI_mono:∀(w w':World) (F F':Nat→Prop),(∀b,F b→F' b)→(∀b,F b→w'.heap[b]? =w.heap[b]?)→seatI w F→seatI w' F':=by
 rintro w w' F F' hF hw ⟨h1,h2⟩;refine⟨?_,?_⟩
 ·obtain⟨a,b⟩:=h1;have hg:Program.globalNamed Tryz.prog "internal/strconv.uint64pow10" =some 2:=by kernel_rfl
  refine⟨hF _ a,?_⟩;unfold Lib.TabIs World.var? at b ⊢;rw[hg]at b ⊢;simp only[Option.bind_some]at b ⊢;rw[hw _ a];exact b
 ·obtain⟨a,m,b⟩:=h2;exact⟨hF _ a,m,by rw[World.cell?_of_block (hw _ a)];exact b⟩
theorem seatM:Tryz.prog.follows .mixedOrders=true:=Ob
noncomputable def E:Env:={P:=Tryz.prog,T:=seatT,G:=seatG,hT:=seatT_ok,hM:=seatM,I:=seatI,hI:=seatI_mono}
theorem b2:an9 E 2:=Tryz.call2
theorem b3:an9 E 3:=Tryz.call3
theorem b4:an9 E 4:=Tryz.call4
theorem b5:an9 E 5:=Tryz.call5
theorem b6:an9 E 6:=Tryz.call6
theorem b7:an9 E 7:=Tryz.call7
theorem b8:an9 E 8:=Tryz.call8
theorem b9:an9 E 9:=Tryz.call9
theorem b10:an9 E 10:=Tryz.call10
theorem b11:an9 E 11:=Tryz.call11
theorem b12:an9 E 12:=Tryz.call12
theorem b13:an9 E 13:=Tryz.call13
theorem b15:an9 E 15:=Tryz.call15
theorem b18:an9 E 18:=Tryz.call18
theorem b19:an9 E 19:=Tryz.call19
theorem b20:an9 E 20:=Tryz.call20
theorem b21:an9 E 21:=Tryz.call21
theorem b22:an9 E 22:=Tryz.call22
theorem b23:an9 E 23:=Tryz.call23
theorem b26:an9 E 26:=Tryz.call26
theorem b28:an9 E 28:=Tryz.call28
theorem b29:an9 E 29:=Tryz.call29
theorem b30:an9 E 30:=Tryz.call30
theorem b31:an9 E 31:=Tryz.call31
theorem b32:an9 E 32:=Tryz.call32
theorem b33:an9 E 33:=Tryz.call33
theorem b34:an9 E 34:=Tryz.call34
theorem b35:an9 E 35:=Tryz.call35
theorem b36:an9 E 36:=Tryz.call36
theorem b37:an9 E 37:=Tryz.call37
theorem b38:an9 E 38:=Tryz.call38
theorem b39:an9 E 39:=Tryz.call39
theorem b40:an9 E 40:=Tryz.call40
theorem b41:an9 E 41:=Tryz.call41
theorem b42:an9 E 42:=Tryz.call42
theorem b43:an9 E 43:=Tryz.call43
theorem b44:an9 E 44:=Tryz.call44
theorem b45:an9 E 45:=Tryz.call45
theorem b47:an9 E 47:=Tryz.call47
theorem b48:an9 E 48:=Tryz.call48
theorem b50:an9 E 50:=Tryz.call50
theorem b51:an9 E 51:=Tryz.call51
theorem b52:an9 E 52:=Tryz.call52
theorem b53:an9 E 53:=Tryz.call53
theorem b54:an9 E 54:=Tryz.call54
theorem b55:an9 E 55:=Tryz.call55
theorem b56:an9 E 56:=Tryz.call56
theorem b57:an9 E 57:=Tryz.call57
theorem b58:an9 E 58:=Tryz.call58
theorem b59:an9 E 59:=Tryz.call59
theorem b60:an9 E 60:=Tryz.call60
theorem b61:an9 E 61:=Tryz.call61
theorem b62:an9 E 62:=Tryz.call62
theorem b63:an9 E 63:=Tryz.call63
theorem b64:an9 E 64:=Tryz.call64
theorem b65:an9 E 65:=Tryz.call65
theorem b66:an9 E 66:=Tryz.call66
theorem b67:an9 E 67:=Tryz.call67
theorem b68:an9 E 68:=Tryz.call68
theorem b69:an9 E 69:=Tryz.call69
theorem b84:an9 E 84:=Tryz.call84
theorem b85:an9 E 85:=Tryz.call85
theorem b86:an9 E 86:=Tryz.call86
theorem b87:an9 E 87:=Tryz.call87
theorem b88:an9 E 88:=Tryz.call88
theorem b89:an9 E 89:=Tryz.call89
theorem b96:an9 E 96:=Tryz.call96
theorem b97:an9 E 97:=Tryz.call97
theorem b98:an9 E 98:=Tryz.call98
theorem b99:an9 E 99:=Tryz.call99
theorem b100:an9 E 100:=Tryz.call100
theorem b101:an9 E 101:=Tryz.call101
theorem br3:an9 E 102:=Tryz.call102
theorem b103:an9 E 103:=Tryz.call103
theorem b104:an9 E 104:=Tryz.call104
theorem b105:an9 E 105:=Tryz.call105
theorem b106:an9 E 106:=Tryz.call106
theorem b107:an9 E 107:=Tryz.call107
theorem b108:an9 E 108:=Tryz.call108
theorem b109:an9 E 109:=Tryz.call109
theorem b110:an9 E 110:=Tryz.call110
theorem b111:an9 E 111:=Tryz.call111
theorem b112:an9 E 112:=Tryz.call112
theorem b113:an9 E 113:=Tryz.call113
theorem b114:an9 E 114:=Tryz.call114
theorem b116:an9 E 116:=Tryz.call116
theorem b117:an9 E 117:=Tryz.call117
theorem b118:an9 E 118:=Tryz.call118
theorem b119:an9 E 119:=Tryz.call119
theorem b120:an9 E 120:=Tryz.call120
theorem b121:an9 E 121:=Tryz.call121
theorem b122:an9 E 122:=Tryz.call122
theorem b123:an9 E 123:=Tryz.call123
theorem b124:an9 E 124:=Tryz.call124
theorem br4:an9 E 125:=Tryz.call125
theorem b126:an9 E 126:=Tryz.call126
theorem br5:an9 E 127:=Tryz.call127
theorem b128:an9 E 128:=Tryz.call128
theorem b129:an9 E 129:=Tryz.call129
theorem b130:an9 E 130:=Tryz.call130
theorem br6:an9 E 150:=Tryz.call150
theorem br7:an9 E 151:=Tryz.call151
theorem b152:an9 E 152:=Tryz.call152
theorem b153:an9 E 153:=Tryz.call153
theorem b154:an9 E 154:=Tryz.call154
theorem b155:an9 E 155:=Tryz.call155
theorem b156:an9 E 156:=Tryz.call156
theorem b157:an9 E 157:=Tryz.call157
theorem b158:an9 E 158:=Tryz.call158
theorem b159:an9 E 159:=Tryz.call159
theorem br8:an9 E 164:=Tryz.call164
theorem b165:an9 E 165:=Tryz.call165
theorem b166:an9 E 166:=Tryz.call166
theorem b167:an9 E 167:=Tryz.call167
theorem b168:an9 E 168:=Tryz.call168
theorem b169:an9 E 169:=Tryz.call169
theorem b170:an9 E 170:=Tryz.call170
theorem b171:an9 E 171:=Tryz.call171
theorem br9:an9 E 172:=Tryz.call172
theorem bs0:an9 E 173:=Tryz.call173
theorem b174:an9 E 174:=Tryz.call174
theorem b175:an9 E 175:=Tryz.call175
theorem b179:an9 E 179:=Tryz.call179
theorem b180:an9 E 180:=Tryz.call180
theorem b181:an9 E 181:=Tryz.call181
theorem b182:an9 E 182:=Tryz.call182
theorem b183:an9 E 183:=Tryz.call183
theorem b184:an9 E 184:=Tryz.call184
theorem b185:an9 E 185:=Tryz.call185
theorem b186:an9 E 186:=Tryz.call186
theorem b187:an9 E 187:=Tryz.call187
theorem b188:an9 E 188:=Tryz.call188
theorem b189:an9 E 189:=Tryz.call189
theorem bs3:an9 E 190:=Tryz.call190
theorem b191:an9 E 191:=Tryz.call191
theorem b192:an9 E 192:=Tryz.call192
theorem b193:an9 E 193:=Tryz.call193
theorem b194:an9 E 194:=Tryz.call194
theorem bs4:an9 E 195:=Tryz.call195
theorem bs5:an9 E 196:=Tryz.call196
theorem b197:an9 E 197:=Tryz.call197
theorem b198:an9 E 198:=Tryz.call198
theorem b199:an9 E 199:=Tryz.call199
theorem bs6:an9 E 200:=Tryz.call200
theorem b201:an9 E 201:=Tryz.call201
theorem b202:an9 E 202:=Tryz.call202
theorem b203:an9 E 203:=Tryz.call203
theorem b204:an9 E 204:=Tryz.call204
theorem b205:an9 E 205:=Tryz.call205
theorem bs7:an9 E 224:=Tryz.call224
theorem b225:an9 E 225:=Tryz.call225
theorem b226:an9 E 226:=Tryz.call226
theorem b227:an9 E 227:=Tryz.call227
theorem b228:an9 E 228:=Tryz.call228
theorem b229:an9 E 229:=Tryz.call229
theorem b230:an9 E 230:=Tryz.call230
theorem bs8:an9 E 231:=Tryz.call231
theorem bs9:an9 E 242:=Tryz.call242
theorem b243:an9 E 243:=Tryz.call243
theorem b244:an9 E 244:=Tryz.call244
theorem b245:an9 E 245:=Tryz.call245
theorem b246:an9 E 246:=Tryz.call246
theorem b247:an9 E 247:=Tryz.call247
theorem b248:an9 E 248:=Tryz.call248
theorem bt0:an9 E 249:=Tryz.call249
theorem b250:an9 E 250:=Tryz.call250
theorem b251:an9 E 251:=Tryz.call251
theorem b252:an9 E 252:=Tryz.call252
theorem b253:an9 E 253:=Tryz.call253
theorem b254:an9 E 254:=Tryz.call254
theorem b255:an9 E 255:=Tryz.call255
theorem bt1:an9 E 259:=Tryz.call259
theorem b261:an9 E 261:=Tryz.call261
theorem b262:an9 E 262:=Tryz.call262
theorem b263:an9 E 263:=Tryz.call263
theorem b265:an9 E 265:=Tryz.call265
theorem b266:an9 E 266:=Tryz.call266
theorem b267:an9 E 267:=Tryz.call267
theorem b268:an9 E 268:=Tryz.call268
theorem bt2:an9 E 282:=Tryz.call282
theorem b284:an9 E 284:=Tryz.call284
theorem b286:an9 E 286:=Tryz.call286
theorem bt3:an9 E 287:=Tryz.call287
theorem b288:an9 E 288:=Tryz.call288
theorem bt4:an9 E 289:=Tryz.call289
theorem b290:an9 E 290:=Tryz.call290
theorem b291:an9 E 291:=Tryz.call291
theorem bt5:an9 E 301:=Tryz.call301
theorem b305:an9 E 305:=Tryz.call305
theorem b317:an9 E 317:=Tryz.call317
theorem b318:an9 E 318:=Tryz.call318
theorem bt6:an9 E 324:=Tryz.call324
theorem b326:an9 E 326:=Tryz.call326
theorem b327:an9 E 327:=Tryz.call327
theorem b331:an9 E 331:=Tryz.call331
theorem b332:an9 E 332:=Tryz.call332
theorem b354:an9 E 354:=Tryz.call354
end Go.Proofs.YtndgolmgaenlfaaGreatDoor
namespace Go.Abs
open Go
theorem Om{P:Prop}(h:P:=by repeat'(first|refine yz ?_|refine yx ?_|(refine yy ?_ ?_<;>intro _)|(refine qV rfl ?_ ?_<;>intro _)|exact zD|exact zL)):P:=h
end Go.Abs
