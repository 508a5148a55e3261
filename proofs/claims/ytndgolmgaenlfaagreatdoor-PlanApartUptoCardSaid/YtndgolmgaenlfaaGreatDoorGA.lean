/- The abstract values of the engine, how they are read in memory, and that the reading is kept when memory grows; The engine's rules for control: sequen. Conditions: each part's own, as it says. -/
import Derived.Below
import Derived.Calls
import Derived.Orders
import Derived.Laws.Entries
import Derived.Laws.Cells
import Derived.Laws.Rows
import Derived.Tactics
import Derived.MapKept
import Derived.Deep.LoopGhost
import Derived.Laws.Small
import Derived.Laws.CopyRow
import Derived.Maps.AppendAt
import Derived.Laws.OwnMore
import Derived.Laws.BytesArg
set_option linter.unusedVariables false
set_option linter.unusedSimpArgs false
namespace Go
theorem Oa{P:Prop}(h:P:=by omega):P:=h
theorem Ob{P:Prop}(h:P:=by kernel_rfl):P:=h
theorem Oc{P:Prop}(h:P:=by simp):P:=h
theorem Od{P:Prop}(h:P:=by decide):P:=h
theorem Oe{P:Prop}(h:P:=by decide+kernel):P:=h
theorem Of{P:Prop}(h:P:=by assumption):P:=h
theorem Og{P:Prop}(h:P:=by simp;omega):P:=h
theorem Oh{P:Prop}(h:P:=by first|omega|decide):P:=h
theorem Oj{P:Prop}(h:P:=by repeat(first|exact trivial|refine⟨⟨rfl,rfl⟩,?_⟩|refine⟨trivial,?_⟩)):P:=h
theorem Ok{P:Prop}(h:P:=by exact rfl):P:=h
end Go
namespace Go
set_option linter.defProp false
def fy4:=@List.getElem?_eq_getElem
def fy5:=@Nat.lt_or_ge
def fy6:=@List.mem_of_getElem?
def fy7:=@List.length_cons
def fy8:=@List.length_append
def fy9:=@List.getElem?_eq_some_iff
def fz0:=@List.mem_cons
def fz1:=@List.getElem?_map
def fz2:=@List.length_nil
def fz3:=@List.length_map
def fz4:=@Bool.and_eq_true
def fz5:=@List.append_assoc
def fz6:=@Nat.le_refl
def fz7:=@List.map_cons
def fz8:=@Nat.eq_of_beq_eq_true
def fz9:=@Option.map_eq_some_iff
def ga0:=@List.getElem?_append_left
def ga1:=@List.mem_map
def ga2:=@List.drop_eq_nil_of_le
def ga3:=@List.take_of_length_le
def ga4:=@List.mem_singleton
def ga5:=@List.getElem?_take
def ga6:=@List.all_eq_true
def ga7:=@List.getElem?_append_right
def ga8:=@Nat.zero_le
def ga9:=@List.getElem?_of_mem
def gb0:=@Bool.or_eq_true
def gb1:=@Int.toNat_natCast
def gb2:=@List.mem_append
def gb3:=@Bool.or_eq_false_iff
def gb4:=@List.cons_append
def gb5:=@Bool.eq_iff_iff
def gb6:=@List.length_take
def gb7:=@List.nil_append
def gb8:=@Nat.le_trans
def gb9:=@List.any_eq_false
def gc0:=@Nat.le_of_ble_eq_true
def gc1:=@Option.map_some
def gc2:=@List.mem_cons_of_mem
def gc3:=@Nat.zero_add
def gc4:=@List.mem_map_of_mem
def gc5:=@List.getElem?_eq_none
def gc6:=@Bool.or_false
def gc7:=@List.flatMap_cons
def gc8:=@List.take_zero
def gc9:=@List.append_cancel_left
def gd0:=@Bool.false_or
def gd1:=@Bool.true_and
def gd2:=@Nat.add_zero
def gd3:=@List.foldl_cons
def gd4:=@List.getElem?_toArray
def gd5:=@List.mem_range
def gd6:=@List.getD_eq_getElem?_getD
def gd7:=@List.take_add_one
def gd8:=@List.map_nil
def gd9:=@Bool.cond_eq_ite
def ge0:=@List.any_cons
def ge1:=@Option.getD_some
def ge2:=@List.getElem?_set
def ge3:=@List.size_toArray
def ge4:=@List.getElem?_drop
def ge5:=@Bool.not_eq_true
def ge6:=@List.all_cons
def ge7:=@List.append_nil
def ge8:=@Int.not_le
def ge9:=@Bool.false_and
def gf0:=@List.foldl_nil
def gf1:=@List.eq_nil_of_length_eq_zero
def gf2:=@List.getElem_mem
def gf3:=@Bool.not_false
def gf4:=@List.length_drop
def gf5:=@Nat.add_mul
def gf6:=@List.getElem?_range
def gf7:=@List.take_append_drop
def gf8:=@List.not_mem_nil
def gf9:=@List.any_nil
def gg0:=@Bool.not_true
def gg1:=@List.mem_filter
def gg2:=@Int.tmod_eq_emod_of_nonneg
def gg3:=@Array.all_eq_true
def gg4:=@Array.getD_eq_getD_getElem?
def gg5:=@List.length_filter_le
def gg6:=@List.mem_of_mem_take
def gg7:=@List.map_append
def gg8:=@List.ext_getElem?
def gg9:=@Nat.lt_irrefl
def gh0:=@Array.length_toList
def gh1:=@Array.getElem?_eq_some_iff
def gh2:=@List.mem_flatMap
def gh3:=@Int.eq_ofNat_of_zero_le
def gh4:=@Bool.or_assoc
def gh5:=@Array.getElem?_eq_none
def gh6:=@List.drop_zero
def gh7:=@Nat.eq_zero_or_pos
def gh8:=@List.mem_replicate
def gh9:=@Array.getElem?_toList
def gi0:=@List.flatMap_append
def gi1:=@Nat.lt_of_lt_of_le
def gi2:=@List.mem_of_mem_drop
def gi3:=@Int.tdiv_eq_ediv_of_nonneg
def gi4:=@List.any_eq_true
def gi5:=@Array.getElem?_setIfInBounds_ne
def gi6:=@Array.getElem_of_mem
def gi7:=@List.take_succ_eq_append_getElem
def gi8:=@List.mem_or_eq_of_mem_set
def gi9:=@Int.natCast_nonneg
def gj0:=@List.getElem?_set_ne
def gj1:=@List.mem_cons_self
def gj2:=@List.exists_cons_of_ne_nil
def gj3:=@List.pairwise_cons
def gj4:=@List.eq_nil_iff_forall_not_mem
def gj5:=@List.getElem?_cons_succ
def gj6:=@List.findIdx?_eq_some_iff_getElem
def gj7:=@List.findIdx?_eq_none_iff
def gj8:=@Int.mul_le_mul_of_nonneg_left
end Go
namespace Go.Abs
open Go Go.RowKit
theorem aa0(a:Addr)(n:Nat):(a.add n).block=a.block:=by unfold Addr.add;split<;>rfl
theorem aa1(a:Addr)(i j:Nat):(a.add i).add j=a.add (i+j):=by
 unfold Addr.add
 by_cases hi:i=0<;>by_cases hj:j=0<;>simp[hi,hj,Nat.add_assoc]
theorem aa2(b o n:Nat):(⟨b,o,none⟩:Addr).add n=⟨b,o+n,none⟩:=by
 unfold Addr.add
 by_cases h:n=0<;>simp[h]
inductive D where
 |imm (v:Value)
 |agg (cs:List D)
 |sl (xs:List D)
 deriving Inhabited
def D.cells:D→List D
 |.agg cs=>cs
 |d=>[d]
def D.one:D→Bool
 |.agg _=>false
 |_=>true
def D.plain:D→Bool
 |.imm _=>true
 |_=>false
abbrev D.int(n:Int):D:=.imm (.int .i64 n)
abbrev D.bool(b:Bool):D:=.imm (.bool b)
abbrev D.str(s:ByteArray):D:=.imm (.string s)
def okV:Value→Bool
 |.bool _=>true
 |.int k n=>decide (k.min≤n) &&decide (n≤k.max)
 |.string s=>decide (s.size≤maxLen)
 |.func (.func _) a b=>a.isEmpty&&b.isEmpty
 |.nilFunc=>true
 |.nilIface=>true
 |.pointer none=>true
 |.slice none 0 0=>true
 |_=>false
theorem aa3{v:Value}(h:okV v=true):v.oneCell'=true:=by
 cases v<;>simp_all [okV,Value.oneCell']
inductive Rd(w:World)(F:Nat→Prop):D→Value→Prop
 |imm (v:Value) (h:okV v=true):Rd w F (.imm v) v
 |agg (cs:List D) (vs:List Value) (hl:cs.length=vs.length) (hc:∀c∈cs,c.one=true)
   (h:∀(i:Nat) (c:D) (v:Value),cs[i]? =some c→vs[i]? =some v→Rd w F c v):Rd w F (.agg cs) (.agg vs.toArray)
 |slnil:Rd w F (.sl []) (.slice none 0 0)
 |sl (size:Nat) (xs:List D) (ad:Addr) (cap:Nat) (u:Nat→Nat→Value) (hc:xs.length≤cap) (hm:cap≤maxLen) (hF:xs≠ []→F ad.block)
   (hz:∀x∈xs,x.cells.length=size) (ho:∀x∈xs,∀c∈x.cells,c.one=true)
   (hcell:∀(i:Nat) (x:D) (j:Nat) (c:D),xs[i]? =some x→x.cells[j]? =some c→w.cell? (ad.add (i*size+j))=some (u i j))
   (hrd:∀(i:Nat) (x:D) (j:Nat) (c:D),xs[i]? =some x→x.cells[j]? =some c→Rd w F c (u i j)):
   Rd w F (.sl xs) (.slice (some ad) xs.length cap)
theorem Rd.mono{w w':World}{F F':Nat→Prop}{d:D}{v:Value}(h:Rd w F d v)(hF:∀b,F b→F' b)
  (hw:∀b,F b→w'.heap[b]? =w.heap[b]?):Rd w' F' d v:=by
 induction h with
 |imm v h=>exact .imm v h
 |agg cs vs hl hc _ ih=>exact .agg cs vs hl hc ih
 |slnil=>exact .slnil
 |sl size xs ad cap u hc hm hF' hz ho hcell _ ih=>
  refine .sl size xs ad cap u hc hm (fun h=>hF _ (hF' h)) hz ho (fun i x j c hx hj=>?_) ih;rw[←hcell i x j c hx hj];refine World.cell?_of_block ?_;rw[aa0];refine hw _ (hF' ?_);rintro rfl;simp at hx
theorem Rd.plain{w w':World}{F F':Nat→Prop}{d:D}{v:Value}(h:Rd w F d v)(hp:d.plain=true):Rd w' F' d v:=by
 cases h with
 |imm v h=>exact .imm v h
 |_=>simp[D.plain]at hp
theorem Rd.one{w:World}{F:Nat→Prop}{d:D}{v:Value}(h:Rd w F d v)(hd:d.one=true):v.oneCell'=true:=by
 cases h with
 |imm v h=>exact aa3 h
 |agg=>simp[D.one]at hd
 |slnil=>rfl
 |sl=>rfl
theorem Rd.imm_inv{w:World}{F:Nat→Prop}{u v:Value}(h:Rd w F (.imm u) v):v=u∧okV u=true:=by
 cases h with
 |imm _ h=>exact⟨rfl,h⟩
theorem Rd.agg_inv{w:World}{F:Nat→Prop}{cs:List D}{v:Value}(h:Rd w F (.agg cs) v):
  ∃vs:List Value,v=.agg vs.toArray∧cs.length=vs.length∧(∀c∈cs,c.one=true)∧∀(i:Nat) (c:D) (v:Value),cs[i]? =some c→vs[i]? =some v→Rd w F c v:=by
 cases h with
 |agg _ vs hl hc h=>exact⟨vs,rfl,hl,hc,h⟩
theorem Rd.sl_inv{w:World}{F:Nat→Prop}{xs:List D}{v:Value}(h:Rd w F (.sl xs) v):(xs=[]∧v=.slice none 0 0)∨
  ∃(size:Nat) (ad:Addr) (cap:Nat),v=.slice (some ad) xs.length cap∧xs.length≤cap∧cap≤maxLen∧(xs≠ []→F ad.block)∧(∀x∈xs,x.cells.length=size)∧(∀x∈xs,∀c∈x.cells,c.one=true)∧
   ∀(i:Nat) (x:D) (j:Nat) (c:D),xs[i]? =some x→x.cells[j]? =some c→∃u,w.cell? (ad.add (i*size+j))=some u∧Rd w F c u:=by
 cases h with
 |slnil=>exact .inl ⟨rfl,rfl⟩
 |sl size xs ad cap u hc hm hF hz ho hcell hrd=>exact .inr ⟨size,ad,cap,rfl,hc,hm,hF,hz,ho,fun i x j c h1 h2=>⟨u i j,hcell i x j c h1 h2,hrd i x j c h1 h2⟩⟩
theorem rd_zc{w:World}{F:Nat→Prop}{v:Value}(h:∃p,v=.slice p 0 0):Rd w F (.sl []) v:=by
 obtain⟨p,rfl⟩:=h
 cases p with
 |none=>exact .slnil
 |some ad=>exact .sl 0 [] ad 0 (fun _ _=>.bool false) (fz6 _) (ga8 _) (fun h=>absurd rfl h) (fun x hx=>by cases hx) (fun x hx=>by cases hx) (fun i x j c hx=>by simp at hx) fun i x j c hx=>by simp at hx
theorem Rd.cells{w:World}{F:Nat→Prop}{d:D}{v:Value}(h:Rd w F d v):
  v.cells.size=d.cells.length∧(∀(i:Nat) (c:D) (u:Value),d.cells[i]? =some c→v.cells[i]? =some u→Rd w F c u)∧(∀c∈d.cells,c.one=true):=by
 have key:∀(d:D) (v:Value),Rd w F d v→d.one=true→d.cells=[d]∧v.cells= #[v]:=by
  intro d v h hd;have hv:=h.one hd;constructor
  ·cases d<;>simp_all [D.one,D.cells]
  ·cases v<;>simp_all [Value.oneCell',Value.cells]
 by_cases hd:d.one=true
 ·obtain⟨e1,e2⟩:=key d v h hd;rw[e1,e2];refine⟨rfl,?_,by simpa using hd⟩;intro i c u hc hu
  cases i with
  |zero=>simp at hc hu;subst hc hu;exact h
  |succ i=>simp at hc
 ·cases d with
  |agg cs=>
   obtain⟨vs,rfl,hl,hc,hr⟩:=h.agg_inv;refine⟨by simp[Value.cells,D.cells,hl],?_,by simpa[D.cells]using hc⟩;intro i c u h1 h2;exact hr i c u h1 (by simpa[Value.cells]using h2)
  |imm=>simp[D.one]at hd
  |sl=>simp[D.one]at hd
inductive Cap where
 |d (x:D)
 |ptr (o off:Nat)
 |own (o:Nat)
 deriving Inhabited
inductive X where
 |d (x:D)
 |nilS
 |zc
 |tup (xs:List D)
 |ptr (o off:Nat)
 |at_ (x:D) (off:Nat)
 |own (o:Nat)
 |pel (o i off size:Nat)
 |sub (o lo n size:Nat)
 |mayb (p:Prop)
 |clo (f:FuncId) (cs:List Cap)
 |bnd (f:FuncId) (cs:List Cap)
 |st (cs:List Cap)
 |mp (o:Nat)
 |und
 |top
 deriving Inhabited
def Cap.x:Cap→X
 |.d x=>.d x
 |.ptr o off=>.ptr o off
 |.own o=>.own o
abbrev Sg:=List (Nat × Nat × Nat)
def Mem(w:World)(F:Nat→Prop)(x:D)(ad:Addr):Prop:=
 F ad.block∧(∀c∈x.cells,c.one=true)∧∀(j:Nat) (c:D),x.cells[j]? =some c→∃u,w.cell? (ad.add j)=some u∧Rd w F c u
theorem Mem.mono{w w':World}{F F':Nat→Prop}{x:D}{ad:Addr}(h:Mem w F x ad)(hF:∀b,F b→F' b)(hw:∀b,F b→w'.heap[b]? =w.heap[b]?):Mem w' F' x ad:=by
 refine⟨hF _ h.1,h.2.1,fun j c hj=>?_⟩;obtain⟨u,h1,h2⟩:=h.2.2 j c hj;exact⟨u,by rw[←h1];exact World.cell?_of_block (by rw[aa0];exact hw _ h.1),h2.mono hF hw⟩
def aa4(w:World)(F:Nat→Prop)(σ:Sg):Cap→Value→Prop
 |.d x,v=>Rd w F x v
 |.ptr o off,v=>∃b c n,σ[o]? =some (b,c,n)∧v=.pointer (some ⟨b,off,none⟩)
 |.own o,v=>∃b c n,σ[o]? =some (b,c,n)∧v=.slice (some ⟨b,0,none⟩) n c
theorem aa4.mono{w w':World}{F F':Nat→Prop}{σ σ':Sg}{x:Cap}{v:Value}(h:aa4 w F σ x v)(hF:∀b,F b→F' b)
  (hw:∀b,F b→w'.heap[b]? =w.heap[b]?)(hσ:∀(o:Nat) p,σ[o]? =some p→σ'[o]? =some p):aa4 w' F' σ' x v:=by
 cases x with
 |d x=>exact Rd.mono h hF hw
 |ptr o off=>obtain⟨b,c,n,h1,h2⟩:=h;exact⟨b,c,n,hσ _ _ h1,h2⟩
 |own o=>obtain⟨b,c,n,h1,h2⟩:=h;exact⟨b,c,n,hσ _ _ h1,h2⟩
def RdX(w:World)(F:Nat→Prop)(σ:Sg):X→Value→Prop
 |.d x,v=>Rd w F x v
 |.nilS,v=>v=.slice none 0 0
 |.zc,v=>∃p,v=.slice p 0 0
 |.tup xs,v=>∃vs:List Value,v=.tuple vs.toArray∧xs.length=vs.length∧∀(i:Nat) (x:D) (u:Value),xs[i]? =some x→vs[i]? =some u→Rd w F x u
 |.ptr o off,v=>∃b c n,σ[o]? =some (b,c,n)∧v=.pointer (some ⟨b,off,none⟩)
 |.at_ x off,v=>∃ad,Mem w F x ad∧v=.pointer (some (ad.add off))
 |.own o,v=>∃b c n,σ[o]? =some (b,c,n)∧v=.slice (some ⟨b,0,none⟩) n c
 |.pel o i off size,v=>∃b c n,σ[o]? =some (b,c,n)∧v=.pointer (some ⟨b,i*size+off,none⟩)
 |.sub o lo n size,v=>∃b c m,σ[o]? =some (b,c,m)∧∃ad,(lo+n≤m∧n≤9223372036854775807∧(n=0∨ad=⟨b,lo*size,none⟩))∧v=.slice (some ad) n (c-lo)
 |.mayb p,v=>∃b:Bool,v=.bool b∧(b=true→p)
 |.clo f cs,v=>∃us:List Value,v=.func (.func f) #[] us.toArray∧cs.length=us.length∧∀(i:Nat) c u,cs[i]? =some c→us[i]? =some u→aa4 w F σ c u
 |.bnd f cs,v=>∃us:List Value,v=.func (.func f) us.toArray #[]∧cs.length=us.length∧∀(i:Nat) c u,cs[i]? =some c→us[i]? =some u→aa4 w F σ c u
 |.st cs,v=>∃us:List Value,v=.agg us.toArray∧cs.length=us.length∧(∀u∈us,u.oneCell'=true)∧∀(i:Nat) c u,cs[i]? =some c→us[i]? =some u→aa4 w F σ c u
 |.mp o,v=>∃b c n,σ[o]? =some (b,c,n)∧v=.map (some b)
 |.und,v=>v=undef
 |.top,_=>True
theorem RdX.mono{w w':World}{F F':Nat→Prop}{σ σ':Sg}{x:X}{v:Value}(h:RdX w F σ x v)(hF:∀b,F b→F' b)
  (hw:∀b,F b→w'.heap[b]? =w.heap[b]?)(hσ:∀(o:Nat) p,σ[o]? =some p→σ'[o]? =some p):RdX w' F' σ' x v:=by
 cases x with
 |d x=>exact Rd.mono h hF hw
 |nilS=>exact h
 |zc=>exact h
 |tup xs=>obtain⟨vs,e,hl,hr⟩:=h;exact⟨vs,e,hl,fun i x u h1 h2=>(hr i x u h1 h2).mono hF hw⟩
 |ptr o off=>obtain⟨b,c,n,h1,h2⟩:=h;exact⟨b,c,n,hσ _ _ h1,h2⟩
 |at_ x off=>obtain⟨ad,h1,h2⟩:=h;exact⟨ad,h1.mono hF hw,h2⟩
 |own o=>obtain⟨b,c,n,h1,h2⟩:=h;exact⟨b,c,n,hσ _ _ h1,h2⟩
 |pel o i off size=>obtain⟨b,c,n,h1,h2⟩:=h;exact⟨b,c,n,hσ _ _ h1,h2⟩
 |sub o lo m size=>obtain⟨b,c,n,h1,h2⟩:=h;exact⟨b,c,n,hσ _ _ h1,h2⟩
 |mayb p=>exact h
 |clo f cs=>obtain⟨us,e,hl,hr⟩:=h;exact⟨us,e,hl,fun i c u h1 h2=>(hr i c u h1 h2).mono hF hw hσ⟩
 |bnd f cs=>obtain⟨us,e,hl,hr⟩:=h;exact⟨us,e,hl,fun i c u h1 h2=>(hr i c u h1 h2).mono hF hw hσ⟩
 |st cs=>obtain⟨us,e,hl,h1,hr⟩:=h;exact⟨us,e,hl,h1,fun i c u h1 h2=>(hr i c u h1 h2).mono hF hw hσ⟩
 |mp o=>obtain⟨b,c,n,h1,h2⟩:=h;exact⟨b,c,n,hσ _ _ h1,h2⟩
 |und=>exact h
 |top=>trivial
inductive VC where
 |w (x:X)
 |cs (l:List X)
 deriving Inhabited
def X.cells:X→List X
 |.d x=>x.cells.map .d
 |x=>[x]
def VC.cells:VC→List X
 |.w x=>x.cells
 |.cs l=>l
inductive aa5 where
 |var (ty:TypeId) (c:VC)
 |row (e:TypeId) (size:Nat) (xs:List D)
 |mrow (e:TypeId) (size:Nat) (xs:List D)
 |map (kd:TypeDesc) (xs:List (Value × D))
 |dead
 deriving Inhabited
def aa5.live:aa5→Bool
 |.dead=>false
 |_=>true
def aa6(w:World)(F:Nat→Prop)(σ:Sg)(B:Nat→Prop):aa5→Nat × Nat × Nat→Prop
 |.var ty cs,(b,_,_)=>∃vs:List Value,w.heap[b]? =some (.cells vs.toArray ty (0,0))∧cs.cells.length=vs.length∧(∀v∈vs,v.oneCell'=true)∧
   (∀(i:Nat) x v,cs.cells[i]? =some x→vs[i]? =some v→RdX w F σ x v)∧ ¬ B b∧ ¬ F b
 |.row e size xs,(b,c,n)=>∃vs:List Value,w.heap[b]? =some (.cells vs.toArray e (0,0))∧vs.length=c*size∧n=xs.length∧n≤c∧c≤maxLen∧
   (∀x∈xs,x.cells.length=size)∧(∀x∈xs,∀c∈x.cells,c.one=true)∧
   (∀(i:Nat) (x:D) (j:Nat) (cd:D),xs[i]? =some x→x.cells[j]? =some cd→∃v,vs[i*size+j]? =some v∧Rd w F cd v)∧ ¬ B b∧ ¬ F b
 |.mrow e size xs,(b,c,n)=>∃vs:List Value,w.heap[b]? =some (.cells vs.toArray e (vs.length,vs.length+1))∧vs.length=c*size∧n=xs.length∧n≤c∧c≤maxLen∧
   (∀x∈xs,x.cells.length=size)∧(∀x∈xs,∀c∈x.cells,c.one=true)∧
   (∀(i:Nat) (x:D) (j:Nat) (cd:D),xs[i]? =some x→x.cells[j]? =some cd→∃v,vs[i*size+j]? =some v∧Rd w F cd v)∧ ¬ B b∧ ¬ F b
 |.map kd xs,(b,_,_)=>∃es:Array MapEntry,w.heap[b]? =some (.map es es.size)∧es.size=xs.length∧(∀(i:Nat) e x,es[i]? =some e→xs[i]? =some x→(e.key=x.1∧e.born=i)∧Rd w F x.2 e.val)∧
   (∀x∈xs,MapKept.IsKey kd x.1)∧ ¬ B b∧ ¬ F b
 |.dead,_=>True
theorem aa6.mono{w w':World}{F F':Nat→Prop}{σ σ':Sg}{B:Nat→Prop}{x:aa5}{p:Nat × Nat × Nat}(h:aa6 w F σ B x p)(hF:∀b,F b→F' b)
  (hw:∀b,F b→w'.heap[b]? =w.heap[b]?)(hσ:∀(o:Nat) p,σ[o]? =some p→σ'[o]? =some p)
  (hb:x.live=true→w'.heap[p.1]? =w.heap[p.1]?)(hn:x.live=true→ ¬ F p.1→ ¬ F' p.1):aa6 w' F' σ' B x p:=by
 obtain⟨b,c,n⟩:=p
 cases x with
 |var ty cs=>
  obtain⟨vs,h1,h2,h3,h4,h5,h6⟩:=h;exact⟨vs,(hb rfl).trans h1,h2,h3,fun i x v a e=>(h4 i x v a e).mono hF hw hσ,h5,hn rfl h6⟩
 |row e size xs=>
  obtain⟨vs,h1,h2,h3,h4,h5,h6,h7,h8,h9,h10⟩:=h;refine⟨vs,(hb rfl).trans h1,h2,h3,h4,h5,h6,h7,fun i x j cd a e=>?_,h9,hn rfl h10⟩;obtain⟨v,e1,e2⟩:=h8 i x j cd a e;exact⟨v,e1,e2.mono hF hw⟩
 |mrow e size xs=>
  obtain⟨vs,h1,h2,h3,h4,h5,h6,h7,h8,h9,h10⟩:=h;refine⟨vs,(hb rfl).trans h1,h2,h3,h4,h5,h6,h7,fun i x j cd a e=>?_,h9,hn rfl h10⟩;obtain⟨v,e1,e2⟩:=h8 i x j cd a e;exact⟨v,e1,e2.mono hF hw⟩
 |map kd xs=>
  obtain⟨es,h1,h2,h3,h4,h5,h6⟩:=h;exact⟨es,(hb rfl).trans h1,h2,fun i e x a b=>⟨(h3 i e x a b).1,(h3 i e x a b).2.mono hF hw⟩,h4,h5,hn rfl h6⟩
 |dead=>trivial
structure Ext(w:World)(F:Nat→Prop)(w':World)(F':Nat→Prop):Prop where
 below:Below w.heap.size w w'
 more:∀b,F b→F' b
 new:∀b,F' b→F b∨w.heap.size≤b
 lt:∀b,F' b→b<w'.heap.size
theorem Ext.refl{w:World}{F:Nat→Prop}(h:∀b,F b→b<w.heap.size):Ext w F w F:=
 ⟨Below.refl _ _,fun _ h=>h,fun _ h=>.inl h,h⟩
theorem Ext.trans{a b c:World}{F G H:Nat→Prop}(h:Ext a F b G)(k:Ext b G c H):Ext a F c H:=
 ⟨h.below.trans (k.below.mono h.below.size),fun x hx=>k.more x (h.more x hx),fun x hx=>by
  rcases k.new x hx with h1|h1
  ·exact h.new x h1
  ·exact .inr (gb8 h.below.size h1),k.lt⟩
theorem Ext.of_below{w w':World}{F:Nat→Prop}(h:Below w.heap.size w w')(hF:∀b,F b→b<w.heap.size):Ext w F w' F:=
 ⟨h,fun _ h=>h,fun _ h=>.inl h,fun b hb=>gi1 (hF b hb) h.size⟩
theorem Ext.keep{w w':World}{F F':Nat→Prop}(h:Ext w F w' F')(hF:∀b,F b→b<w.heap.size):∀b,F b→w'.heap[b]? =w.heap[b]? :=
 fun b hb=>h.below.block b (hF b hb)
theorem Rd.ext{w w':World}{F F':Nat→Prop}{d:D}{v:Value}(h:Rd w F d v)(he:Ext w F w' F')(hF:∀b,F b→b<w.heap.size):Rd w' F' d v:=
 h.mono he.more (he.keep hF)
theorem RdX.ext{w w':World}{F F':Nat→Prop}{σ:Sg}{d:X}{v:Value}(h:RdX w F σ d v)(he:Ext w F w' F')(hF:∀b,F b→b<w.heap.size):RdX w' F' σ d v:=
 h.mono he.more (he.keep hF) fun _ _ h=>h
structure aa7(O:Nat→Prop)(w w':World):Prop where
 os:w'.os=w.os
 tape:w'.tape=w.tape
 output:w'.output=w.output
 size:w.heap.size≤w'.heap.size
 block:∀k,O k→w'.heap[k]? =w.heap[k]?
 old:∀k,O k→k<w.heap.size
theorem aa7.refl{O:Nat→Prop}{w:World}(h:∀k,O k→k<w.heap.size):aa7 O w w:=⟨rfl,rfl,rfl,fz6 _,fun _ _=>rfl,h⟩
theorem aa7.step{O:Nat→Prop}{a b c:World}(h:aa7 O a b)(k:Below b.heap.size b c):aa7 O a c:=
 ⟨k.os.trans h.os,k.tape.trans h.tape,k.output.trans h.output,gb8 h.size k.size,fun i hi=>(k.block i (gi1 (h.old i hi) h.size)).trans (h.block i hi),h.old⟩
theorem aa7.new{O:Nat→Prop}{a b:World}(h:aa7 O a b){k:Nat}(hk:b.heap.size≤k): ¬ O k:=fun ho=>by
 have:=h.old k ho;have:=h.size;omega
theorem aa7.below{w w':World}(h:aa7 (fun k=>k<w.heap.size) w w'):Below w.heap.size w w':=⟨h.os,h.tape,h.output,h.size,h.block⟩
structure TE where
 t:TypeId
 desc:TypeDesc
 size:Nat
 bytes:Nat
 zero:Value
def TE.ok(P:Program)(e:TE):Prop:=
 P.underlying e.t=some e.desc∧∃i,P.info? e.t=some i∧i.size=e.size∧i.bytes=e.bytes∧i.zero=some e.zero
def aa8:List TE→TypeId→Option TE
 |[],_=>none
 |e::r,t=>bif Nat.beq e.t t then some e else aa8 r t
structure GE where
 g:Nat
 x:D
def aa9:List GE→Nat→X
 |[],_=>.top
 |e::r,g=>bif Nat.beq e.g g then .at_ e.x 0 else aa9 r g
structure Env where
 P:Program
 T:List TE
 G:List GE
 hT:∀e∈T,e.ok P
 hM:P.follows .mixedOrders=true
 I:World→(Nat→Prop)→Prop
 hI:∀(w w':World) (F F':Nat→Prop),(∀b,F b→F' b)→(∀b,F b→w'.heap[b]? =w.heap[b]?)→I w F→I w' F'
theorem ab0{E:Env}{t:TypeId}{e:TE}(h:aa8 E.T t=some e):e.ok E.P∧e.t=t:=by
 have key:∀l:List TE,(∀e∈l,e.ok E.P)→aa8 l t=some e→e.ok E.P∧e.t=t:=by
  intro l
  induction l with
  |nil=>intro _ h;simp[aa8]at h
  |cons a r ih=>
   intro ha h;simp only[aa8]at h
   cases hb:Nat.beq a.t t with
   |true=>rw[hb]at h;simp at h;subst h;exact⟨ha _ Oc,fz8 hb⟩
   |false=>rw[hb]at h;exact ih (fun e he=>ha e (by simp[he])) (by simpa using h)
 exact key E.T E.hT h
def GOK(w:World)(F:Nat→Prop)(e:GE):Prop:=Mem w F e.x ⟨e.g,0,none⟩
def Env.GI(E:Env)(w:World)(F:Nat→Prop):Prop:=(∀e∈E.G,GOK w F e)∧E.I w F
theorem Env.GI.mono{E:Env}{w w':World}{F F':Nat→Prop}(h:E.GI w F)(hF:∀b,F b→F' b)(hw:∀b,F b→w'.heap[b]? =w.heap[b]?):E.GI w' F':=
 ⟨fun e he=>Mem.mono (h.1 e he) hF hw,E.hI w w' F F' hF hw h.2⟩
structure ab1 where
 O:Nat→Prop
 n0:Nat
 σ0:Sg
structure ab2(E:Env)(B:ab1)(F:Nat→Prop)(σ:Sg)(ob:List aa5)(w:World):Prop where
 flt:∀b,F b→b<w.heap.size
 glob:E.GI w F
 len:σ.length=ob.length
 obs:∀(o:Nat) x p,ob[o]? =some x→σ[o]? =some p→aa6 w F σ B.O x p
 inj:∀(o o':Nat) x x' p p',o≠o'→ob[o]? =some x→x.live=true→ob[o']? =some x'→x'.live=true→σ[o]? =some p→σ[o']? =some p'→p.1≠p'.1
 pre:∀(i:Nat) p,i<B.n0→B.σ0[i]? =some p→σ[i]? =some p
theorem aa6.lt{w:World}{F:Nat→Prop}{σ:Sg}{B:Nat→Prop}{x:aa5}{p:Nat × Nat × Nat}(h:aa6 w F σ B x p)(hx:x.live=true):p.1<w.heap.size:=by
 have key:∀b (o:Obj),w.heap[b]? =some o→b<w.heap.size:=fun b o h=>by
  rcases fy5 b w.heap.size with hlt|hge
  ·exact hlt
  ·rw[gh5 hge]at h;cases h
 obtain⟨b,c,n⟩:=p
 cases x with
 |var ty cs=>obtain⟨vs,h1,_⟩:=h;exact key b _ h1
 |row e size xs=>obtain⟨vs,h1,_⟩:=h;exact key b _ h1
 |mrow e size xs=>obtain⟨vs,h1,_⟩:=h;exact key b _ h1
 |map kd xs=>obtain⟨es,h1,_⟩:=h;exact key b _ h1
 |dead=>simp[aa5.live]at hx
theorem ab2.ext{E:Env}{B:ab1}{F F':Nat→Prop}{σ:Sg}{ob:List aa5}{w w':World}(h:ab2 E B F σ ob w)(he:Ext w F w' F'):ab2 E B F' σ ob w' where
 flt:=he.lt
 glob:=h.glob.mono he.more (he.keep h.flt)
 len:=h.len
 obs:=fun o x p hx hp=>by
  have ho:=h.obs o x p hx hp;refine ho.mono he.more (he.keep h.flt) (fun _ _ h=>h) (fun hl=>he.below.block _ (ho.lt hl)) (fun hl hn hf=>?_);rcases he.new _ hf with h1|h1
  ·exact hn h1
  ·have:=ho.lt hl;omega
 inj:=h.inj
 pre:=h.pre
structure St where
 tm:List (Nat × X)
 ob:List aa5
def lk:List (Nat × X)→Nat→X
 |[],_=>.top
 |(k,x)::r,n=>bif Nat.beq k n then x else lk r n
def ab3:Value→X
 |.slice none 0 0=>.nilS
 |v=>bif okV v then .d (.imm v)else .top
def St.ev(E:Env)(s:St):Operand→X
 |.tmp t=>lk s.tm t
 |.const v=>ab3 v
 |.global g=>aa9 E.G g
 |.func f=>.d (.imm (.func (.func f) #[] #[]))
def St.put(s:St)(dst:Option Tmp)(x:X):St:=
 match dst with
 |some d=>{s with tm:=(d,x)::s.tm}
 |none=>s
structure Cx where
 E:Env
 w0:World
 F0:Nat→Prop
 N:Nat
 base:ab1
abbrev Cx.O(C:Cx):Nat→Prop:=C.base.O
def Cx.Rel(C:Cx)(s:St)(a:Act)(w:World):Prop:=
 ∃F σ,aa7 C.O C.w0 w∧(∀b,C.F0 b→F b)∧(∀b,F b→C.F0 b∨ ¬ C.O b)∧ab2 C.E C.base F σ s.ob w∧
  a.defers=[]∧a.tmps.size=C.N∧∀t,RdX w F σ (lk s.tm t) (a.tmps.getD t undef)
theorem ab4{w:World}{F:Nat→Prop}{σ:Sg}(v:Value):RdX w F σ (ab3 v) v:=by
 unfold ab3;split
 ·rfl
 ·cases h:okV v with
  |true=>exact .imm _ h
  |false=>trivial
theorem ab5{E:Env}{w:World}{F:Nat→Prop}{σ:Sg}(h:∀e∈E.G,GOK w F e)(g:Nat):RdX w F σ (aa9 E.G g) (.pointer (some ⟨g,0,none⟩)):=by
 have key:∀l:List GE,(∀e∈l,GOK w F e)→RdX w F σ (aa9 l g) (.pointer (some ⟨g,0,none⟩)):=by
  intro l
  induction l with
  |nil=>intro _;trivial
  |cons a r ih=>
   intro ha;simp only[aa9]
   cases hb:Nat.beq a.g g with
   |true=>
    obtain rfl:=fz8 hb;exact⟨_,ha a Oc,by simp[Addr.add]⟩
   |false=>exact ih fun e he=>ha e (by simp[he])
 exact key _ h
theorem ab6{E:Env}{B:ab1}{F:Nat→Prop}{σ:Sg}{s:St}{w:World}{a:Act}(h:ab2 E B F σ s.ob w)(hs:∀t,RdX w F σ (lk s.tm t) (a.tmps.getD t undef))(x:Operand):
  RdX w F σ (s.ev E x) (a.eval x):=by
 cases x with
 |tmp t=>exact hs t
 |const v=>exact ab4 v
 |global g=>exact ab5 h.glob.1 g
 |func f=>exact Rd.imm _ rfl
theorem ab7{s:St}{dst:Option Tmp}{x:X}{w:World}{F:Nat→Prop}{σ:Sg}{a:Act}{v:Value}{N:Nat}(hs:∀t,RdX w F σ (lk s.tm t) (a.tmps.getD t undef))(hN:a.tmps.size=N)
  (hd:∀d,dst=some d→d<N)(hv:dst≠none→RdX w F σ x v)(t:Nat):RdX w F σ (lk (s.put dst x).tm t) ((a.put dst v).tmps.getD t undef):=by
 cases dst with
 |none=>exact hs t
 |some d=>
  have hlt:=hd d rfl;simp only[St.put,Act.put,lk]
  cases hb:Nat.beq d t with
  |true=>
   obtain rfl:=fz8 hb;simp[hN,hlt];exact hv Oc
  |false=>
   have hne:d≠t:=Nat.ne_of_beq_eq_false hb;have:=hs t;simp only[gg4]at this ⊢;rw[gi5 hne];exact this
def Le(C:Cx)(s s':St):Prop:=∀a w,C.Rel s a w→C.Rel s' a w
theorem Le.refl(C:Cx)(s:St):Le C s s:=fun _ _ h=>h
theorem Le.trans{C:Cx}{a b c:St}(h:Le C a b)(k:Le C b c):Le C a c:=fun _ _ x=>k _ _ (h _ _ x)
inductive It where
 |code (c:Code)
 |blk (id:Nat)
 |stop (I:St→Prop)
def Cx.wp(C:Cx)(c:Code)(s:St)(Q:Exit→St→Prop):Prop:=
 ∀a w,C.Rel s a w→c.wp C.E.P (fun e a' w'=>∃s',C.Rel s' a' w'∧Q e s') a w
def ab8(I:St→Prop)(Q:Exit→St→Prop):Exit→St→Prop
 |.normal,s=>I s
 |e,s=>Q e s
def blkS(id:Nat)(Q:Exit→St→Prop):Exit→St→Prop
 |.exit i,s=>if i=id then Q .normal s else Q (.exit i) s
 |e,s=>Q e s
def ab9(C:Cx):List It→(Exit→St→Prop)→Exit→St→Prop
 |[],Q=>Q
 |.code c::r,Q=>ab8 (fun s=>C.wp c s (ab9 C r Q)) (ab9 C r Q)
 |.blk id::r,Q=>blkS id (ab9 C r Q)
 |.stop I::r,Q=>ab8 I (ab9 C r Q)
def go(C:Cx)(todo:List It)(s:St)(Q:Exit→St→Prop):Prop:=ab9 C todo Q .normal s
section
variable{C:Cx}{r:List It}{s:St}{Q:Exit→St→Prop}
theorem ac1(h:Q .normal s):go C [] s Q:=h
theorem ac2{I:St→Prop}(h:I s):go C (.stop I::r) s Q:=h
theorem qG{id:Nat}(h:go C r s Q):go C (.blk id::r) s Q:=h
theorem qA{x y:Code}(h:go C (.code x:: .code y::r) s Q):go C (.code (.seq x y)::r) s Q:=by
 intro a w hr;refine wp_seq (wp_mono (h a w hr) ?_);intro e a' w' ⟨s',hs,hq⟩
 cases e with
 |normal=>exact hq a' w' hs
 |_=>exact⟨s',hs,hq⟩
theorem qE(h:go C r s Q):go C (.code .skip::r) s Q:=fun _ _ hr=>wp_skip ⟨s,hr,h⟩
theorem ac3:∀{r:List It},Q .ret s→ab9 C r Q .ret s
 |[],h=>h
 |.code _::r,h=>ac3 (r:=r) h
 |.blk _::r,h=>ac3 (r:=r) h
 |.stop _::r,h=>ac3 (r:=r) h
theorem ac4(h:Q .ret s):go C (.code .ret::r) s Q:=fun _ _ hr=>wp_ret ⟨s,hr,ac3 h⟩
def ac5(id:Nat):List It→Option (List It)
 |[]=>none
 |.blk i::r=>bif Nat.beq i id then some r else ac5 id r
 |.code _::r=>ac5 id r
 |.stop _::r=>ac5 id r
theorem ac6{id:Nat}:∀{r r':List It},ac5 id r=some r'→go C r' s Q→ab9 C r Q (.exit id) s
 |.blk i::r,r',h,hq=>by
  simp only[ac5]at h
  cases hb:Nat.beq i id with
  |true=>
   rw[hb]at h;simp at h;subst h;obtain rfl:=fz8 hb;simp only[ab9,blkS,if_true];exact hq
  |false=>
   rw[hb]at h;have hne: ¬ id=i:=fun e=>Nat.ne_of_beq_eq_false hb e.symm
   simp only[ab9,blkS,if_neg hne];exact ac6 (by simpa using h) hq
 |.code _::r,r',h,hq=>by
  simp only[ac5]at h;exact ac6 (r:=r) h hq
 |.stop _::r,r',h,hq=>by
  simp only[ac5]at h;exact ac6 (r:=r) h hq
theorem qH{id:Nat}{r':List It}(h:ac5 id r=some r')(hq:go C r' s Q):go C (.code (.exit id)::r) s Q:=
 fun _ _ hr=>wp_exit ⟨s,hr,ac6 h hq⟩
theorem qF{id:Nat}{c:Code}(h:go C (.code c:: .blk id::r) s Q):go C (.code (.block id c)::r) s Q:=by
 intro a w hr;refine wp_block (wp_mono (h a w hr) ?_);intro e a' w' ⟨s',hs,hq⟩
 cases e with
 |exit i=>
  simp only[ab9,blkS]at hq;simp only[Exit.inBlock];split
  ·rename_i hi;rw[if_pos hi]at hq;exact⟨s',hs,hq⟩
  ·rename_i hi;rw[if_neg hi]at hq;exact⟨s',hs,hq⟩
 |_=>exact⟨s',hs,hq⟩
theorem ac7{c:Code}{s':St}(hl:Le C s s')(h:go C (.code c::r) s' Q):go C (.code c::r) s Q:=fun a w hr=>h a w (hl a w hr)
theorem qV{c:Operand}{x y:Code}{b:Bool}(hc:s.ev C.E c=.d (.imm (.bool b)))(ht:b=true→go C (.code x::r) s Q)(hf:b=false→go C (.code y::r) s Q):
  go C (.code (.cond c x y)::r) s Q:=by
 intro a w hr
 have hev:a.eval c=.bool b:=by
  obtain⟨F,σ,_,_,_,hi,_,_,hs⟩:=hr;have:=ab6 (E:=C.E) (s:=s) hi hs c;rw[hc]at this;exact this.imm_inv.1
 exact wp_cond_split hev (fun h=>ht h a w hr) (fun h=>hf h a w hr)
theorem qT{c:Operand}{x y:Code}{b:Bool}(hc:s.ev C.E c=.d (.imm (.bool b)))(hb:b=true)(ht:go C (.code x::r) s Q):go C (.code (.cond c x y)::r) s Q:=
 qV hc (fun _=>ht) (fun h=>by rw[hb]at h;cases h)
theorem qU{c:Operand}{x y:Code}{b:Bool}(hc:s.ev C.E c=.d (.imm (.bool b)))(hb:b=false)(hf:go C (.code y::r) s Q):go C (.code (.cond c x y)::r) s Q:=
 qV hc (fun h=>by rw[hb]at h;cases h) (fun _=>hf)
theorem ac8{α:Type}{c:Code}(S:α→St)(m:α→Nat)(x0:α)(h0:Le C s (S x0))
  (hr:∀x,go C (.code c:: .stop (fun s'=>∃y,m y<m x∧Le C s' (S y))::r) (S x) Q):go C (.code (.loop c)::r) s Q:=by
 intro a w hrel;refine wp_loop_ghost (fun n a w=>∃x,m x=n∧C.Rel (S x) a w) (m x0) ⟨x0,rfl,h0 a w hrel⟩ ?_;intro n a w ⟨x,hx,hrx⟩;refine wp_mono (hr x a w hrx) ?_;intro e a' w' ⟨s',hs,hq⟩
 cases e with
 |normal=>
  obtain⟨y,hy,hle⟩:=hq;exact⟨m y,hx ▸ hy,y,rfl,hle a' w' hs⟩
 |_=>exact⟨s',hs,hq⟩
end
def X.below(n:Nat):X→Bool
 |.ptr o _=>Nat.blt o n
 |.own o=>Nat.blt o n
 |.mp o=>Nat.blt o n
 |.pel o _ _ _=>Nat.blt o n
 |.sub o _ _ _=>Nat.blt o n
 |.clo _ cs=>cs.all fun c=>match c with|.ptr o _=>Nat.blt o n|.own o=>Nat.blt o n|.d _=>true
 |.bnd _ cs=>cs.all fun c=>match c with|.ptr o _=>Nat.blt o n|.own o=>Nat.blt o n|.d _=>true
 |.st cs=>cs.all fun c=>match c with|.ptr o _=>Nat.blt o n|.own o=>Nat.blt o n|.d _=>true
 |_=>true
def aa5.below(n:Nat):aa5→Bool
 |.var _ c=>c.cells.all (X.below n)
 |_=>true
theorem RdX.take{w:World}{F:Nat→Prop}{σ:Sg}{x:X}{v:Value}{n:Nat}(h:RdX w F σ x v)(hx:x.below n=true):RdX w F (σ.take n) x v:=by
 have key:∀(o:Nat) p,σ[o]? =some p→Nat.blt o n=true→(σ.take n)[o]? =some p:=fun o p ho hb=>by
  rw[ga5,if_pos (by simpa using hb)];exact ho
 cases x with
 |ptr o off=>obtain⟨b,c,k,h1,h2⟩:=h;exact⟨b,c,k,key _ _ h1 hx,h2⟩
 |own o=>obtain⟨b,c,k,h1,h2⟩:=h;exact⟨b,c,k,key _ _ h1 hx,h2⟩
 |mp o=>obtain⟨b,c,k,h1,h2⟩:=h;exact⟨b,c,k,key _ _ h1 hx,h2⟩
 |pel o i off size=>obtain⟨b,c,k,h1,h2⟩:=h;exact⟨b,c,k,key _ _ h1 hx,h2⟩
 |sub o lo m size=>obtain⟨b,c,k,h1,h2⟩:=h;exact⟨b,c,k,key _ _ h1 hx,h2⟩
 |clo f cs=>
  obtain⟨us,e,hl,hr⟩:=h;refine⟨us,e,hl,fun i c u h1 h2=>?_⟩;have hc:=ga6.1 hx c (fy6 h1);have:=hr i c u h1 h2
  cases c with
  |d x=>exact this
  |ptr o off=>obtain⟨b,c,k,h1,h2⟩:=this;exact⟨b,c,k,key _ _ h1 hc,h2⟩
  |own o=>obtain⟨b,c,k,h1,h2⟩:=this;exact⟨b,c,k,key _ _ h1 hc,h2⟩
 |st cs=>
  obtain⟨us,e,hl,h1c,hr⟩:=h;refine⟨us,e,hl,h1c,fun i c u h1 h2=>?_⟩;have hc:=ga6.1 hx c (fy6 h1);have:=hr i c u h1 h2
  cases c with
  |d x=>exact this
  |ptr o off=>obtain⟨b,c,k,h1,h2⟩:=this;exact⟨b,c,k,key _ _ h1 hc,h2⟩
  |own o=>obtain⟨b,c,k,h1,h2⟩:=this;exact⟨b,c,k,key _ _ h1 hc,h2⟩
 |bnd f cs=>
  obtain⟨us,e,hl,hr⟩:=h;refine⟨us,e,hl,fun i c u h1 h2=>?_⟩;have hc:=ga6.1 hx c (fy6 h1);have:=hr i c u h1 h2
  cases c with
  |d x=>exact this
  |ptr o off=>obtain⟨b,c,k,h1,h2⟩:=this;exact⟨b,c,k,key _ _ h1 hc,h2⟩
  |own o=>obtain⟨b,c,k,h1,h2⟩:=this;exact⟨b,c,k,key _ _ h1 hc,h2⟩
 |_=>exact h
theorem aa6.take{w:World}{F:Nat→Prop}{σ:Sg}{B:Nat→Prop}{n:Nat}{x:aa5}{p:Nat × Nat × Nat}(h:aa6 w F σ B x p)(hx:x.below n=true):aa6 w F (σ.take n) B x p:=by
 obtain⟨b,c,k⟩:=p
 cases x with
 |var ty cs=>
  obtain⟨vs,h1,h2,h3,h4,h5⟩:=h;refine⟨vs,h1,h2,h3,fun i x v a e=>(h4 i x v a e).take ?_,h5⟩;exact ga6.1 hx x (fy6 a)
 |row e size xs=>exact h
 |mrow e size xs=>exact h
 |map kd xs=>exact h
 |dead=>trivial
theorem Le.of{C:Cx}{s s':St}(n:Nat)(hn:Nat.ble C.base.n0 n=true)(hob:s'.ob=s.ob.take n)(ht:∀p∈s'.tm,lk s.tm p.1=p.2∧p.2.below n=true)(ho:∀x∈s'.ob,x.below n=true):Le C s s':=by
 rintro a w ⟨F,σ,h1,h2,h3,hi,h4,h5,hs⟩
 have hlook:∀(l:List (Nat × X)) (t:Nat),(∀p∈l,lk s.tm p.1=p.2∧p.2.below n=true)→(lk l t=lk s.tm t∧(lk l t).below n=true)∨lk l t=.top:=by
  intro l t
  induction l with
  |nil=>intro _;exact .inr rfl
  |cons p l ih=>
   intro hp;obtain⟨k,x⟩:=p;simp only[lk]
   cases hb:Nat.beq k t with
   |true=>
    obtain rfl:=fz8 hb;obtain⟨e1,e2⟩:=hp (k,x) Oc;exact .inl ⟨e1.symm,e2⟩
   |false=>exact ih fun p hm=>hp p (by simp[hm])
 refine⟨F,σ.take n,h1,h2,h3,⟨hi.flt,hi.glob,by simp[hob,hi.len],?_,?_,fun i p hp hq=>by rw[ga5,if_pos (gi1 hp (gc0 hn))];exact hi.pre i p hp hq⟩,h4,h5,fun t=>?_⟩
 ·intro o x p hx hp;rw[hob]at hx;have hx':=hx;rw[ga5]at hx' hp;split at hx'
  ·rename_i hlt
   rw[if_pos hlt]at hp;exact(hi.obs o x p hx' hp).take (ho x (by rw[hob];exact fy6 hx))
  ·cases hx'
 ·intro o o' x x' p p' hne hx hl hx' hl' hp hp';rw[hob]at hx hx';rw[ga5]at hx hx' hp hp';split at hx
  ·split at hx'
   ·rename_i ha hb
    rw[if_pos ha]at hp;rw[if_pos hb]at hp';exact hi.inj o o' x x' p p' hne hx hl hx' hl' hp hp'
   ·cases hx'
  ·cases hx
 ·rcases hlook s'.tm t ht with⟨e,hb⟩|e
  ·rw[e];exact(hs t).take (e ▸ hb)
  ·rw[e];trivial
def ac9(C:Cx)(o:Oper):Bool:=
 match o.dst with
 |some d=>Nat.blt d C.N
 |none=>true
theorem ad1{C:Cx}{o:Oper}(h:ac9 C o=true):∀d,o.dst=some d→d<C.N:=by
 intro d hd;simpa[ac9,hd]using h
def VOp(C:Cx)(s:St)(o:Oper)(x:X):Prop:=
 ∀(F:Nat→Prop) (σ:Sg) (w:World) (a:Act) (K:Act→World→Prop) (Q:Exit→Act→World→Prop),ab2 C.E C.base F σ s.ob w→
  (∀y∈o.op.operands.toList,RdX w F σ (s.ev C.E y) (a.eval y))→
  (∀v w' F',Ext w F w' F'→RdX w' F' σ x v→K (a.put o.dst v) w')→o.wp C.E.P a w K Q
def SOp(C:Cx)(s:St)(o:Oper)(s':St):Prop:=
 ∀(w:World) (a:Act) (K:Act→World→Prop) (Q:Exit→Act→World→Prop),C.Rel s a w→(∀a' w',C.Rel s' a' w'→K a' w')→o.wp C.E.P a w K Q
theorem St.put_ob(s:St)(d:Option Tmp)(x:X):(s.put d x).ob=s.ob:=by cases d<;>rfl
theorem Act.put_size(a:Act)(d:Option Tmp)(v:Value):(a.put d v).tmps.size=a.tmps.size:=by cases d<;>simp[Act.put]
theorem Act.put_def(a:Act)(d:Option Tmp)(v:Value):(a.put d v).defers=a.defers:=by cases d<;>rfl
theorem ad2{C:Cx}{s:St}{a:Act}{w w':World}{F F':Nat→Prop}{σ:Sg}{o:Oper}{x:X}{v:Value}
  (h1:aa7 C.O C.w0 w)(h2:∀b,C.F0 b→F b)(h3:∀b,F b→C.F0 b∨ ¬ C.O b)(hi:ab2 C.E C.base F σ s.ob w)
  (h4:a.defers=[])(h5:a.tmps.size=C.N)(hs:∀t,RdX w F σ (lk s.tm t) (a.tmps.getD t undef))(hd:ac9 C o=true)
  (he:Ext w F w' F')(hv:o.dst≠none→RdX w' F' σ x v):C.Rel (s.put o.dst x) (a.put o.dst v) w':=by
 refine⟨F',σ,h1.step he.below,fun b hb=>he.more _ (h2 b hb),fun b hb=>?_,?_,?_,?_,?_⟩
 ·rcases he.new b hb with h|h
  ·exact h3 b h
  ·exact .inr (h1.new h)
 ·rw[St.put_ob];exact hi.ext he
 ·rw[Act.put_def];exact h4
 ·rw[Act.put_size];exact h5
 ·exact ab7 (N:=C.N) (fun t=>(hs t).ext he hi.flt) h5 (ad1 hd) hv
theorem VOp.sop{C:Cx}{s:St}{o:Oper}{x:X}(h:VOp C s o x)(hd:ac9 C o=true):SOp C s o (s.put o.dst x):=by
 rintro w a K Q ⟨F,σ,h1,h2,h3,hi,h4,h5,hs⟩ hK;refine h F σ w a K Q hi (fun y _=>ab6 hi hs y) fun v w' F' he hv=>hK _ _ ?_
 exact ad2 h1 h2 h3 hi h4 h5 hs hd he fun _=>hv
def ad3(all:Array Oper)(s:St)(o:Oper)(want:Bool):Prop:=
 match o.guard with
 |none=>want=true
 |some (j,pol)=>∃t,(all[j]?).bind (·.dst)=some t∧((∃b,lk s.tm t=.d (.imm (.bool b))∧(b==pol)=want)∨(lk s.tm t=.und∧want=false))
theorem ad3.wanted{all:Array Oper}{s:St}{o:Oper}{want:Bool}{N:Nat}{w:World}{F:Nat→Prop}{σ:Sg}{a:Act}(h:ad3 all s o want)(hN:∀(j:Nat) (p:Oper) d,all[j]? =some p→p.dst=some d→d<N)
  (ha:a.tmps.size=N)(hs:∀(j:Nat) pol t,o.guard=some (j,pol)→(all[j]?).bind (·.dst)=some t→RdX w F σ (lk s.tm t) (a.tmps.getD t undef)):Region.wanted o (yielded all a.tmps)=want:=by
 unfold ad3 at h;unfold Region.wanted
 cases hg:o.guard with
 |none=>rw[hg]at h;exact h.symm
 |some jp=>
  obtain⟨j,pol⟩:=jp;rw[hg]at h;obtain⟨t,ht,h⟩:=h;have hr:=hs j pol t hg ht
  have hlt:t<a.tmps.size:=by
   cases hj:all[j]? with
   |none=>rw[hj]at ht;cases ht
   |some p=>rw[hj]at ht;rw[ha];exact hN j p t hj ht
  have e1:a.tmps[t]? =some (a.tmps.getD t undef):=by simp[hlt]
  simp only[yielded,ht,Option.bind_some,e1];rcases h with⟨b,hb,hw⟩|⟨hb,rfl⟩
  ·rw[hb]at hr;rw[hr.imm_inv.1];rw[←hw]
   cases b<;>cases pol<;>rfl
  ·rw[hb]at hr;rw[show a.tmps.getD t undef=undef from hr];simp[undef]
def ad4(s s':St):Prop:=(∀u,lk s'.tm u=lk s.tm u)∧s'.ob=s.ob
theorem ad4.refl(s:St):ad4 s s:=⟨fun _=>rfl,rfl⟩
theorem ad4.symm{s s':St}(h:ad4 s s'):ad4 s' s:=⟨fun u=>(h.1 u).symm,h.2.symm⟩
theorem ad4.trans{a b c:St}(h:ad4 a b)(k:ad4 b c):ad4 a c:=⟨fun u=>(k.1 u).trans (h.1 u),k.2.trans h.2⟩
theorem ad4.put{s s':St}(h:ad4 s s')(d:Option Tmp)(x:X):ad4 (s.put d x) (s'.put d x):=by
 cases d with
 |none=>exact h
 |some d=>
  refine⟨fun u=>?_,h.2⟩;simp only[St.put,lk]
  cases Nat.beq d u with
  |true=>rfl
  |false=>exact h.1 u
theorem ad4.ev{s s':St}(h:ad4 s s')(E:Env)(y:Operand):s'.ev E y=s.ev E y:=by
 cases y with
 |tmp t=>exact h.1 t
 |_=>rfl
theorem ad4.rel{C:Cx}{s s':St}(h:ad4 s s'){a:Act}{w:World}(hr:C.Rel s a w):C.Rel s' a w:=by
 obtain⟨F,σ,h1,h2,h3,hi,h4,h5,hs⟩:=hr;exact⟨F,σ,h1,h2,h3,by rw[h.2];exact hi,h4,h5,fun t=>by rw[h.1];exact hs t⟩
theorem ad4.vop{C:Cx}{s s':St}(h:ad4 s s'){o:Oper}{x:X}(hv:VOp C s o x):VOp C s' o x:=by
 intro F σ w a K Q hi ho hK;refine hv F σ w a K Q (by rw[←h.2];exact hi) (fun y hy=>?_) hK;rw[←h.ev];exact ho y hy
theorem ad4.guard{all:Array Oper}{s s':St}(h:ad4 s s'){o:Oper}{b:Bool}(hg:ad3 all s o b):ad3 all s' o b:=by
 unfold ad3 at*
 cases hgd:o.guard with
 |none=>rw[hgd]at hg;exact hg
 |some jp=>
  rw[hgd]at hg;obtain⟨t,h1,h2⟩:=hg;exact⟨t,h1,by rw[h.1];exact h2⟩
inductive SD(C:Cx)(all:Array Oper)(pu:Bool):List Oper→St→St→Prop
 |nil (s:St):SD C all pu [] s s
 |vop {o:Oper} {rest:List Oper} {s s':St} {x:X} (hg:ad3 all s o true) (hd:ac9 C o=true) (hv:VOp C s o x) (h:SD C all pu rest (s.put o.dst x) s'):SD C all pu (o::rest) s s'
 |skip {o:Oper} {rest:List Oper} {s s':St} (hg:ad3 all s o false) (hd:ac9 C o=true) (h:SD C all pu rest (s.put o.dst .und) s'):SD C all pu (o::rest) s s'
 |eff {o:Oper} {rest:List Oper} {s s1 s':St} (hp:pu=false) (hg:ad3 all s o true) (hv:SOp C s o s1) (h:SD C all pu rest s1 s'):SD C all pu (o::rest) s s'
 |ghost {ops:List Oper} {s s1 s':St} (hp:pu=false) (hl:Le C s s1) (h:SD C all pu ops s1 s'):SD C all pu ops s s'
 |same {ops:List Oper} {s s1 s':St} (hs:ad4 s s1) (h:SD C all pu ops s1 s'):SD C all pu ops s s'
def ad5(C:Cx)(l:List Oper):Bool:=l.all (ac9 C)
theorem ad6{C:Cx}{l:List Oper}(h:ad5 C l=true):∀(j:Nat) (p:Oper) d,l.toArray[j]? =some p→p.dst=some d→d<C.N:=by
 intro j p d hj hd
 have hm:p∈l:=by
  rw[gd4]at hj;exact fy6 hj
 exact ad1 (ga6.1 h p hm) d hd
theorem SD.list{C:Cx}{all:Array Oper}{ops:List Oper}{s s':St}{Q:Exit→Act→World→Prop}(hN:∀(j:Nat) (p:Oper) d,all[j]? =some p→p.dst=some d→d<C.N)
  (h:SD C all false ops s s')(hq:∀a w,C.Rel s' a w→Q .normal a w):∀a w,C.Rel s a w→wpList C.E.P all Q ops a w:=by
 have hwant:∀{s:St} {o:Oper} {want:Bool} {a w},ad3 all s o want→C.Rel s a w→Region.wanted o (yielded all a.tmps)=want:=by
  rintro s o want a w hg ⟨F,σ,_,_,_,hi,_,h5,hs⟩;exact hg.wanted hN h5 (w:=w) (F:=F) (σ:=σ) (fun _ _ t _ _=>hs t)
 induction h with
 |nil s=>exact fun a w hr=>wpList_nil (hq a w hr)
 |vop hg hd hv _ ih=>
  intro a w hr;refine wpList_step fun K hK=>?_
  rw[if_pos (hwant hg hr)];exact hv.sop hd w a K Q hr fun a' w' hr'=>hK a' w' (ih hq a' w' hr')
 |skip hg hd _ ih=>
  intro a w hr;refine wpList_step fun K hK=>?_
  rw[if_neg (by rw[hwant hg hr];simp)];refine hK _ _ (ih hq _ _ ?_);obtain⟨F,σ,h1,h2,h3,hi,h4,h5,hs⟩:=hr;exact ad2 h1 h2 h3 hi h4 h5 hs hd (Ext.refl hi.flt) fun _=>rfl
 |eff hp hg hv _ ih=>
  intro a w hr;refine wpList_step fun K hK=>?_
  rw[if_pos (hwant hg hr)];exact hv w a K Q hr fun a' w' hr'=>hK a' w' (ih hq a' w' hr')
 |ghost hp hl _ ih=>exact fun a w hr=>ih hq a w (hl a w hr)
 |same hs _ ih=>exact fun a w hr=>ih hq a w (hs.rel hr)
def SGo(C:Cx)(all:Array Oper)(pu:Bool)(ops:List Oper)(s:St)(K:St→Prop):Prop:=∃s',SD C all pu ops s s'∧K s'
section
variable{C:Cx}{r:List It}{s:St}{Q:Exit→St→Prop}{all:Array Oper}{pu:Bool}{K:St→Prop}{rest:List Oper}{o:Oper}
theorem SGo.nil(h:K s):SGo C all pu [] s K:=⟨s,.nil s,h⟩
theorem qD(h:K s):SGo C all pu [] s K:=⟨s,.nil s,h⟩
theorem SGo.vop{x:X}(hg:ad3 all s o true)(hd:ac9 C o=true)(hv:VOp C s o x)(h:SGo C all pu rest (s.put o.dst x) K):SGo C all pu (o::rest) s K:=
 let⟨s',h1,h2⟩:=h;⟨s',.vop hg hd hv h1,h2⟩
theorem SGo.skip(hg:ad3 all s o false)(hd:ac9 C o=true)(h:SGo C all pu rest (s.put o.dst .und) K):SGo C all pu (o::rest) s K:=
 let⟨s',h1,h2⟩:=h;⟨s',.skip hg hd h1,h2⟩
theorem SGo.eff{s1:St}(hg:ad3 all s o true)(hv:SOp C s o s1)(h:SGo C all false rest s1 K):SGo C all false (o::rest) s K:=
 let⟨s',h1,h2⟩:=h;⟨s',.eff rfl hg hv h1,h2⟩
theorem SGo.ghost{s1:St}{ops:List Oper}(hl:Le C s s1)(h:SGo C all false ops s1 K):SGo C all false ops s K:=
 let⟨s',h1,h2⟩:=h;⟨s',.ghost rfl hl h1,h2⟩
theorem SGo.same{s1:St}{ops:List Oper}(hl:ad4 s s1)(h:SGo C all pu ops s1 K):SGo C all pu ops s K:=
 let⟨s',h1,h2⟩:=h;⟨s',.same hl h1,h2⟩
theorem qB{id:Nat}{l:List Oper}(hd:ad5 C l=true)(h:SGo C l.toArray false l s (fun s'=>go C r s' Q)):go C (.code (.region id l.toArray false)::r) s Q:=by
 intro a w hr;obtain⟨s',h1,h2⟩:=h;exact wp_region_lit (h1.list (ad6 hd) (fun a w hr=>⟨s',hr,h2⟩) a w hr)
end
end Go.Abs
namespace Go.Abs
open Go Go.RowKit
def ad7(o:Oper)(j:Nat):Bool:=o.after.any fun e=>Region.binds .any e&&Nat.beq e.on j
def ad8(l:List Oper):Bool:=
 (List.range l.length).all fun i=>match l[i]? with
  |none=>true
  |some o=>(o.after.all fun e=> !(Region.binds .any e)||Nat.blt e.on i) &&
   (List.range l.length).all fun j=>match l[j]? with
    |none=>true
    |some p=>match p.dst with
     |none=>true
     |some t=>Nat.beq i j||((o.dst !=some t) &&(!((o.looksAt l.toArray).contains t)||(if j<i then ad7 o j else ad7 p i)))
structure ad9(l:List Oper):Prop where
 back:∀(i:Nat) (o:Oper) (e:Edge),l[i]? =some o→e∈o.after→Region.binds .any e=true→e.on<i
 uniq:∀(i j:Nat) (o p:Oper) t,i≠j→l[i]? =some o→l[j]? =some p→p.dst=some t→o.dst≠some t
 looks:∀(i j:Nat) (o p:Oper) t,i≠j→l[i]? =some o→l[j]? =some p→p.dst=some t→t∈o.looksAt l.toArray→(j<i→∃e∈o.after,Region.binds .any e=true∧e.on=j)∧(¬ j<i→∃e∈p.after,Region.binds .any e=true∧e.on=i)
theorem ae1{o:Oper}{j:Nat}(h:ad7 o j=true):∃e∈o.after,Region.binds .any e=true∧e.on=j:=by
 unfold ad7 at h;obtain⟨i,hi,he⟩:=Array.any_eq_true.1 h;rw[fz4]at he;exact⟨o.after[i],Array.getElem_mem hi,he.1,fz8 he.2⟩
theorem ae2{l:List Oper}(h:ad8 l=true):ad9 l:=by
 have hlt:∀(i:Nat) (o:Oper),l[i]? =some o→i∈List.range l.length:=fun i o ho=>by
  rw[gd5];exact(fy9.1 ho).1
 have hmain:∀(i:Nat) (o:Oper),l[i]? =some o→(o.after.all fun e=> !(Region.binds .any e)||Nat.blt e.on i)=true∧
   ∀(j:Nat) (p:Oper) t,l[j]? =some p→p.dst=some t→Nat.beq i j=true∨((o.dst !=some t)=true∧(!((o.looksAt l.toArray).contains t)||(if j<i then ad7 o j else ad7 p i))=true):=by
  intro i o ho;have h1:=ga6.1 h i (hlt i o ho);simp only[ho,fz4]at h1;refine⟨h1.1,fun j p t hp ht=>?_⟩;have h2:=ga6.1 h1.2 j (hlt j p hp);simp only[hp,ht,gb0,fz4]at h2;rcases h2 with h2|h2
  ·exact .inl h2
  ·exact .inr ⟨h2.1,by simpa using h2.2⟩
 refine⟨fun i o e ho he hbd=>?_,fun i j o p t hij ho hp ht=>?_,fun i j o p t hij ho hp ht hl=>?_⟩
 ·have:=(hmain i o ho).1;obtain⟨k,hk,rfl⟩:=gi6 he;have:=gg3.1 this k hk;rw[hbd]at this;simpa using this
 ·rcases(hmain i o ho).2 j p t hp ht with h1|h1
  ·exact absurd (fz8 h1) hij
  ·simpa using h1.1
 ·rcases(hmain i o ho).2 j p t hp ht with h1|h1
  ·exact absurd (fz8 h1) hij
  ·have h2:=h1.2;have hc:(o.looksAt l.toArray).contains t=true:=by simpa using hl
   rw[hc]at h2;simp only[gg0,gd0]at h2;refine⟨fun hlt=>?_,fun hlt=>?_⟩
   ·rw[if_pos hlt]at h2;exact ae1 h2
   ·rw[if_neg hlt]at h2;exact ae1 h2
def stps(s:St):List (Oper × Option X)→St
 |[]=>s
 |(o,x)::r=>stps (s.put o.dst (x.getD .und)) r
theorem ae3(s:St)(l:List (Oper × Option X)):(stps s l).ob=s.ob:=by
 induction l generalizing s with
 |nil=>rfl
 |cons p r ih=>obtain⟨o,x⟩:=p;simp only[stps];rw[ih,St.put_ob]
theorem ae4(s:St)(l m:List (Oper × Option X)):stps s (l++m)=stps (stps s l) m:=by
 induction l generalizing s with
 |nil=>rfl
 |cons p r ih=>obtain⟨o,x⟩:=p;exact ih _
theorem ae5(s:St)(l:List (Oper × Option X))(t:Nat)(h:∀p∈l,p.1.dst≠some t):lk (stps s l).tm t=lk s.tm t:=by
 induction l generalizing s with
 |nil=>rfl
 |cons p r ih=>
  obtain⟨o,x⟩:=p;simp only[stps];rw[ih _ fun p hp=>h p (by simp[hp])];have hne:=h (o,x) Oc
  cases hd:o.dst with
  |none=>rfl
  |some d=>
   simp only[St.put,lk]
   cases hb:Nat.beq d t with
   |true=>exact absurd (by rw[hd,fz8 hb]) hne
   |false=>rfl
theorem ae6(s:St)(t:Nat)(x:X):lk (s.put (some t) x).tm t=x:=by
 simp[St.put,lk]
theorem ae7(s:St)(l:List (Oper × Option X))(t i:Nat)(o:Oper)(x:Option X)(hi:l[i]? =some (o,x))(hd:o.dst=some t)(h:∀(j:Nat) p,j≠i→l[j]? =some p→p.1.dst≠some t):
  lk (stps s l).tm t=x.getD .und:=by
 induction l generalizing s i with
 |nil=>cases hi
 |cons p r ih=>
  obtain⟨o',x'⟩:=p;simp only[stps]
  cases i with
  |zero=>
   simp at hi;obtain⟨rfl,rfl⟩:=hi;rw[ae5 _ r t ?_,hd,ae6];intro p hp;obtain⟨j,hj⟩:=ga9 hp;exact h (j+1) p Oa (by simpa using hj)
  |succ i=>
   exact ih _ i (by simpa using hi) fun j p hj hp=>h (j+1) p Oa (by simpa using hp)
theorem ad4.stps{s s':St}(h:ad4 s s')(xs:List (Oper × Option X)):ad4 (stps s xs) (stps s' xs):=by
 induction xs generalizing s s' with
 |nil=>exact h
 |cons p r ih=>obtain⟨o,x⟩:=p;exact ih (h.put _ _)
theorem SD.data{C:Cx}{all:Array Oper}{ops:List Oper}{s s':St}(h:SD C all true ops s s'):
  ∃xs:List (Oper × Option X),xs.map (·.1)=ops∧ad4 (stps s xs) s'∧∀(i:Nat) o x,xs[i]? =some (o,x)→ac9 C o=true∧ad3 all (stps s (xs.take i)) o x.isSome∧∀y,x=some y→VOp C (stps s (xs.take i)) o y:=by
 have key:∀pu,SD C all pu ops s s'→pu=true→∃xs:List (Oper × Option X),xs.map (·.1)=ops∧ad4 (stps s xs) s'∧∀(i:Nat) o x,xs[i]? =some (o,x)→ac9 C o=true∧ad3 all (stps s (xs.take i)) o x.isSome∧∀y,x=some y→VOp C (stps s (xs.take i)) o y:=by
  intro pu h hpu
  induction h with
  |nil s=>exact⟨[],rfl,ad4.refl _,fun i o x h=>by simp at h⟩
  | @vop o rest s s' x hg hd hv hh ih=>
   obtain⟨xs,h1,h2,h3⟩:=ih (hpu ▸ hh);refine⟨(o,some x)::xs,by simp[h1],h2,fun i o' x' hi=>?_⟩
   cases i with
   |zero=>
    simp at hi;obtain⟨rfl,rfl⟩:=hi;exact⟨hd,hg,fun y hy=>by cases hy;exact hv⟩
   |succ i=>exact h3 i o' x' (by simpa using hi)
  | @skip o rest s s' hg hd hh ih=>
   obtain⟨xs,h1,h2,h3⟩:=ih (hpu ▸ hh);refine⟨(o,none)::xs,by simp[h1],h2,fun i o' x' hi=>?_⟩
   cases i with
   |zero=>
    simp at hi;obtain⟨rfl,rfl⟩:=hi;exact⟨hd,hg,fun y hy=>by cases hy⟩
   |succ i=>exact h3 i o' x' (by simpa using hi)
  |eff hp=>rw[hpu]at hp;cases hp
  |ghost hp=>rw[hpu]at hp;cases hp
  |same hs hh ih=>
   obtain⟨xs,h1,h2,h3⟩:=ih (hpu ▸ hh);refine⟨xs,h1,(hs.stps xs).trans h2,fun i o x hi=>?_⟩;obtain⟨a1,a2,a3⟩:=h3 i o x hi;have hss:=(hs.stps (xs.take i)).symm;exact⟨a1,hss.guard a2,fun y hy=>hss.vop (a3 y hy)⟩
 exact key true h rfl
def unl(n:Nat)(L:Array Bool):Nat:=((List.range n).filter fun i=> !L.getD i true).length
theorem ae8{n i:Nat}{L:Array Bool}(hn:L.size=n)(hi:i<n)(h:L.getD i true=false):unl n (L.setIfInBounds i true)<unl n L:=by
 unfold unl
 have hsub:∀j,(!(L.setIfInBounds i true).getD j true)=(!L.getD j true&&j !=i):=by
  intro j
  by_cases hj:j=i
  ·subst hj;simp[hn,hi]
  ·have:L.setIfInBounds i true=L.setIfInBounds i true:=rfl;simp only[gg4];rw[gi5 (fun e=>hj e.symm)];simp[hj]
 simp only[hsub]
 have hmem:i∈(List.range n).filter fun i=> !L.getD i true:=by
  rw[gg1];exact⟨gd5.2 hi,by rw[h];rfl⟩
 have e:(List.range n).filter (fun j=> !L.getD j true&&j !=i)=((List.range n).filter fun i=> !L.getD i true).filter (fun j=>j !=i):=by
  rw[List.filter_filter];congr 1
  funext j
  rw[Bool.and_comm]
 rw[e]
 have hle:∀l:List Nat,i∈l→(l.filter fun j=>j !=i).length<l.length:=by
  intro l
  induction l with
  |nil=>intro h;cases h
  |cons a r ih=>
   intro hm
   by_cases ha:a=i
   ·subst ha;simp;exact Nat.lt_succ_of_le (gg5 _ _)
   ·have:i∈r:=by
     rcases fz0.1 hm with h|h
     ·exact absurd h.symm ha
     ·exact h
    have:=ih this;simp[ha];omega
 exact hle _ hmem
theorem ae9{n:Nat}{L:Array Bool}(h:unl n L=0):∀i,i<n→L.getD i true=true:=by
 intro i hi;unfold unl at h;have:=gf1 h;rw[List.filter_eq_nil_iff]at this;simpa using this i (gd5.2 hi)
structure af0(C:Cx)(s:St)(xs:List (Oper × Option X))(ops:List Oper)(L:Array Bool)(a:Act)(w:World):Prop where
 size:L.size=ops.length
 down:∀(i:Nat) (o:Oper) (e:Edge),ops[i]? =some o→L.getD i false=true→e∈o.after→Region.binds .any e=true→L.getD e.on false=true
 rel:∃F σ,aa7 C.O C.w0 w∧(∀b,C.F0 b→F b)∧(∀b,F b→C.F0 b∨ ¬ C.O b)∧ab2 C.E C.base F σ s.ob w∧a.defers=[]∧a.tmps.size=C.N∧
  (∀t,(∀(j:Nat) o,ops[j]? =some o→L.getD j false=true→o.dst≠some t)→RdX w F σ (lk s.tm t) (a.tmps.getD t undef))∧
  (∀(j:Nat) o x t,xs[j]? =some (o,x)→L.getD j false=true→o.dst=some t→RdX w F σ (x.getD .und) (a.tmps.getD t undef))
theorem af1{L:Array Bool}{i j:Nat}(hi:i<L.size):(L.setIfInBounds i true).getD j false=(L.getD j false||j==i):=by
 by_cases hj:j=i
 ·subst hj;simp[hi]
 ·simp only[gg4];rw[gi5 (fun e=>hj e.symm)];simp[hj]
theorem af2{L:Array Bool}{i:Nat}(hi:i<L.size):L.getD i true=L.getD i false:=by simp[hi]
theorem af0.all{C:Cx}{s:St}{xs:List (Oper × Option X)}{ops:List Oper}(hx:xs.map (·.1)=ops)(ho:ad9 ops)
  (hv:∀(i:Nat) o x,xs[i]? =some (o,x)→ac9 C o=true∧ad3 ops.toArray (stps s (xs.take i)) o x.isSome∧∀y,x=some y→VOp C (stps s (xs.take i)) o y)
  {Q:Exit→Act→World→Prop}(hq:∀a w,C.Rel (stps s xs) a w→Q .normal a w):
  ∀(fuel:Nat) (L:Array Bool) (a:Act) (w:World),unl ops.length L≤fuel→af0 C s xs ops L a w→wpAny C.E.P .any ops.toArray Q fuel L a w:=by
 have hxo:∀(i:Nat) o,ops[i]? =some o→∃x,xs[i]? =some (o,x):=by
  intro i o hi;rw[←hx,fz1]at hi
  cases hxi:xs[i]? with
  |none=>rw[hxi]at hi;cases hi
  |some p=>rw[hxi]at hi;simp at hi;exact⟨p.2,by rw[←hi]⟩
 have hox:∀(i:Nat) o x,xs[i]? =some (o,x)→ops[i]? =some o:=by
  intro i o x hi;rw[←hx,fz1,hi];rfl
 have hlen:xs.length=ops.length:=by rw[←hx];simp
 have hdst:∀(j:Nat) (p:Oper) d,ops.toArray[j]? =some p→p.dst=some d→d<C.N:=by
  intro j p d hj hd;rw[gd4]at hj;obtain⟨x,hx'⟩:=hxo j p hj;exact ad1 (hv j p x hx').1 d hd
 -- what the state behind the first ones says of a slot
 have hlook:∀(i:Nat) (o:Oper) (x:Option X) (L:Array Bool) (a:Act) (w:World) (F:Nat→Prop) (σ:Sg),xs[i]? =some (o,x)→L.getD i false=false→
   (∀(j:Nat) (o:Oper) (e:Edge),ops[j]? =some o→L.getD j false=true→e∈o.after→Region.binds .any e=true→L.getD e.on false=true)→
   (∀e∈o.after,Region.binds .any e=true→L.getD e.on false=true)→
   (∀t,(∀(j:Nat) o,ops[j]? =some o→L.getD j false=true→o.dst≠some t)→RdX w F σ (lk s.tm t) (a.tmps.getD t undef))→
   (∀(j:Nat) o x t,xs[j]? =some (o,x)→L.getD j false=true→o.dst=some t→RdX w F σ (x.getD .und) (a.tmps.getD t undef))→
   ∀t∈o.looksAt ops.toArray,RdX w F σ (lk (stps s (xs.take i)).tm t) (a.tmps.getD t undef):=by
  intro i o x L a w F σ hi hL hdown hready h1 h2 t ht
  by_cases hw:∃(j:Nat) (p:Oper),ops[j]? =some p∧p.dst=some t
  ·obtain⟨j,p,hj,hp⟩:=hw;obtain⟨y,hy⟩:=hxo j p hj;have huniq:∀(k:Nat) (q:Oper),k≠j→ops[k]? =some q→q.dst≠some t:=fun k q hk hq=>ho.uniq k j q p t hk hq hj hp
   by_cases hij:i=j
   ·subst hij
    have e:lk (stps s (xs.take i)).tm t=lk s.tm t:=by
     refine ae5 _ _ _ fun q hq=>?_
     obtain⟨k,hk⟩:=ga9 hq;rw[ga5]at hk;split at hk
     ·exact huniq k q.1 Oa (hox k q.1 q.2 hk)
     ·cases hk
    rw[e];refine h1 t fun k q hk hkl=>?_
    by_cases hki:k=i
    ·subst hki;rw[hL]at hkl;cases hkl
    ·exact huniq k q hki hk
   ·obtain⟨ha,hb⟩:=ho.looks i j o p t hij (hox i o x hi) hj hp ht
    by_cases hlt:j<i
    ·obtain⟨e,he,hbd,hej⟩:=ha hlt;have hjl:L.getD j false=true:=by rw[←hej];exact hready e he hbd
     have e1:lk (stps s (xs.take i)).tm t=y.getD .und:=by
      refine ae7 _ _ t j p y (by rw[ga5,if_pos hlt];exact hy) hp fun k q hk hq=>?_
      rw[ga5]at hq;split at hq
      ·exact huniq k q.1 hk (hox k q.1 q.2 hq)
      ·cases hq
     rw[e1];exact h2 j p y t hy hjl hp
    ·obtain⟨e,he,hbd,hei⟩:=hb hlt
     have hjl:L.getD j false=false:=by
      cases hjl:L.getD j false with
      |false=>rfl
      |true=>
       have:=hdown j p e hj hjl he hbd;rw[hei,hL]at this
       cases this
     have e1:lk (stps s (xs.take i)).tm t=lk s.tm t:=by
      refine ae5 _ _ _ fun q hq=>?_
      obtain⟨k,hk⟩:=ga9 hq;rw[ga5]at hk;split at hk
      ·exact huniq k q.1 Oa (hox k q.1 q.2 hk)
      ·cases hk
     rw[e1];refine h1 t fun k q hk hkl=>?_
     by_cases hkj:k=j
     ·subst hkj;rw[hjl]at hkl;cases hkl
     ·exact huniq k q hkj hk
  ·have hno:∀(k:Nat) (q:Oper),ops[k]? =some q→q.dst≠some t:=fun k q hk hq=>hw ⟨k,q,hk,hq⟩
   have e1:lk (stps s (xs.take i)).tm t=lk s.tm t:=by
    refine ae5 _ _ _ fun q hq=>?_
    obtain⟨k,hk⟩:=ga9 hq;rw[ga5]at hk;split at hk
    ·exact hno k q.1 (hox k q.1 q.2 hk)
    ·cases hk
   rw[e1];exact h1 t fun k q hk _=>hno k q hk
 -- the end
 have hfin:∀(L:Array Bool) (a:Act) (w:World),(∀i,i<ops.length→L.getD i false=true)→af0 C s xs ops L a w→Q .normal a w:=by
  intro L a w hall hO;obtain⟨F,σ,r1,r2,r3,hi,r4,r5,h1,h2⟩:=hO.rel;refine hq a w ⟨F,σ,r1,r2,r3,by rw[ae3];exact hi,r4,r5,fun t=>?_⟩
  by_cases hw:∃(j:Nat) (p:Oper),ops[j]? =some p∧p.dst=some t
  ·obtain⟨j,p,hj,hp⟩:=hw;obtain⟨y,hy⟩:=hxo j p hj;rw[ae7 s xs t j p y hy hp fun k q hk hq=>ho.uniq k j q.1 p t hk (hox k q.1 q.2 hq) hj hp];exact h2 j p y t hy (hall j (fy9.1 hj).1) hp
  ·have hno:∀(k:Nat) (q:Oper),ops[k]? =some q→q.dst≠some t:=fun k q hk hq=>hw ⟨k,q,hk,hq⟩
   rw[ae5 s xs t fun q hq=>by
    obtain⟨k,hk⟩:=ga9 hq;exact hno k q.1 (hox k q.1 q.2 hk)]
   exact h1 t fun k q hk _=>hno k q hk
 -- whoever is ready
 have hready:∀(L:Array Bool) i,i∈Region.ready .any ops.toArray L→L.size=ops.length→∃o,ops[i]? =some o∧L.getD i false=false∧∀e∈o.after,Region.binds .any e=true→L.getD e.on false=true:=by
  intro L i hi hs;unfold Region.ready at hi;rw[gg1,gd5]at hi;obtain⟨hlt,h⟩:=hi;rw[ge3]at hlt;rw[fz4]at h;obtain⟨h1,h2⟩:=h;have ho':ops[i]? =some ops[i]:=fy4 hlt;refine⟨ops[i],ho',?_,?_⟩
  ·rw[←af2 Oa];simpa using h1
  ·intro e he hbd;rw[gd4,ho']at h2;simp only[gc1,ge1]at h2;obtain⟨k,hk,rfl⟩:=gi6 he;have:=gg3.1 h2 k hk;rw[hbd]at this;simpa using this
 have hsome:∀(L:Array Bool) (a:Act) (w:World),af0 C s xs ops L a w→Region.ready .any ops.toArray L=[]→∀i,i<ops.length→L.getD i false=true:=by
  intro L a w hO hr i
  induction i using Nat.strongRecOn with
  |_ i ih=>
   intro hi
   cases hL:L.getD i false with
   |true=>rfl
   |false=>
    have ho':ops[i]? =some ops[i]:=fy4 hi
    have hm:i∈Region.ready .any ops.toArray L:=by
     unfold Region.ready;rw[gg1,gd5,ge3];refine⟨hi,?_⟩;rw[af2 (by rw[hO.size];exact hi),hL,gd4,ho'];simp only[gf3,gd1,gc1,ge1];refine gg3.2 fun k hk=>?_
     cases hbd:Region.binds .any (ops[i]).after[k]with
     |false=>simp
     |true=>
      have hb:=ho.back i _ _ ho' (Array.getElem_mem hk) hbd;rw[ih _ hb Oa];simp
    rw[hr]at hm
    cases hm
 intro fuel
 induction fuel with
 |zero=>
  intro L a w hu hO
  have hall:∀i,i<ops.length→L.getD i false=true:=fun i hi=>by
   rw[←af2 (by rw[hO.size];exact hi)];exact ae9 Oa i hi
  refine⟨?_,hfin L a w hall hO⟩;refine gj4.2 fun i hi=>?_
  obtain⟨o,h1,h2,_⟩:=hready L i hi hO.size;rw[hall i (fy9.1 h1).1]at h2
  cases h2
 |succ fuel ih=>
  intro L a w hu hO;refine⟨fun hr=>hfin L a w (hsome L a w hO hr) hO,fun i hi=>?_⟩;obtain⟨o,hoi,hL,hed⟩:=hready L i hi hO.size;have hlt:i<ops.length:=(fy9.1 hoi).1;obtain⟨x,hxi⟩:=hxo i o hoi;obtain⟨hd,hg,hvop⟩:=hv i o x hxi;obtain⟨F,σ,r1,r2,r3,hinv,r4,r5,h1,h2⟩:=hO.rel;have hl:=hlook i o x L a w F σ hxi hL hO.down hed h1 h2
  have hu':unl ops.length (L.setIfInBounds i true)≤fuel:=by
   have:=ae8 (L:=L) hO.size hlt (by rw[af2 (by rw[hO.size];exact hlt)];exact hL);omega
  have hwant:Region.wanted o (yielded ops.toArray a.tmps)=x.isSome:=by
   refine hg.wanted (N:=C.N) hdst r5 (w:=w) (F:=F) (σ:=σ) fun j pol t hgj ht=>hl t ?_
   unfold Oper.looksAt;refine gb2.2 (.inr ?_);rw[hgj];show t∈((ops.toArray[j]?).bind (·.dst)).toList;rw[ht];simp
  -- the step
  have hstep:∀v w' F',Ext w F w' F'→(o.dst≠none→RdX w' F' σ (x.getD .und) v)→af0 C s xs ops (L.setIfInBounds i true) (a.put o.dst v) w':=by
   intro v w' F' he hvv;have hset:∀j,(L.setIfInBounds i true).getD j false=(L.getD j false||j==i):=fun j=>af1 (by rw[hO.size];exact hlt)
   have hother:∀t,o.dst≠some t→(a.put o.dst v).tmps.getD t undef=a.tmps.getD t undef:=by
    intro t ht
    cases hdd:o.dst with
    |none=>rfl
    |some d=>
     simp only[Act.put,gg4];rw[gi5 (fun e=>ht (by rw[hdd,e]))]
   refine⟨by simp[hO.size],fun j p e hj hjl hee hbd=>?_,F',σ,r1.step he.below,fun b hb=>he.more _ (r2 b hb),fun b hb=>?_,hinv.ext he,by rw[Act.put_def];exact r4,by rw[Act.put_size];exact r5,fun t ht=>?_,fun j p y t hj hjl hp=>?_⟩
   ·rw[hset]at hjl ⊢;rw[gb0]at hjl ⊢;rcases hjl with hjl|hjl
    ·exact .inl (hO.down j p e hj hjl hee hbd)
    ·obtain rfl:j=i:=by simpa using hjl
     rw[hoi]at hj
     cases hj
     exact .inl (hed e hee hbd)
   ·rcases he.new b hb with h|h
    ·exact r3 b h
    ·exact .inr (r1.new h)
   ·have hit:o.dst≠some t:=ht i o hoi (by rw[hset];simp);rw[hother t hit];exact(h1 t fun j q hj hjl=>ht j q hj (by rw[hset,hjl];rfl)).ext he hinv.flt
   ·rw[hset,gb0]at hjl
    by_cases hji:j=i
    ·subst hji;rw[hxi]at hj
     cases hj
     have hlt':=ad1 hd t hp;rw[hp];simp only[Act.put];have:(a.tmps.setIfInBounds t v).getD t undef=v:=by simp[r5,hlt']
     rw[this];exact hvv (by rw[hp];simp)
    ·have hjl':L.getD j false=true:=by
      rcases hjl with h|h
      ·exact h
      ·exact absurd (by simpa using h) hji
     rw[hother t (ho.uniq i j o p t (fun e=>hji e.symm) hoi (hox j p y hj) hp)];exact(h2 j p y t hj hjl' hp).ext he hinv.flt
  unfold wpOp;rw[gd4,hoi];simp only
  cases hx':x with
  |none=>
   rw[hx']at hwant;rw[if_neg (by rw[hwant];simp)];refine ih _ _ _ hu' (hstep undef w F (Ext.refl hinv.flt) fun _=>?_);rw[hx'];rfl
  |some y=>
   rw[hx']at hwant;rw[if_pos (by rw[hwant];rfl)];refine .inl (hvop y hx' F σ w a _ Q (by rw[ae3];exact hinv) (fun z hz=>?_) fun v w' F' he hvv=>ih _ _ _ hu' (hstep v w' F' he fun _=>by rw[hx'];exact hvv))
   cases z with
   |tmp t=>
    refine hl t ?_;unfold Oper.looksAt;refine gb2.2 (.inl ?_);rw[List.mem_filterMap];exact⟨_,hz,rfl⟩
   |const v=>exact ab4 v
   |global g=>exact ab5 hinv.glob.1 g
   |func f=>exact Rd.imm _ rfl
section
variable{C:Cx}{r:List It}{s:St}{Q:Exit→St→Prop}
theorem qC{id:Nat}{l:List Oper}(ho:ad8 l=true)(h:SGo C l.toArray true l s (fun s'=>go C r s' Q)):go C (.code (.region id l.toArray true)::r) s Q:=by
 intro a w hr;obtain⟨s',h1,h2⟩:=h;obtain⟨xs,hx,heq,hv⟩:=h1.data;refine wp_region_any C.E.hM ?_;obtain⟨F,σ,r1,r2,r3,hi,r4,r5,hs⟩:=hr;have hext:Ext w F {w with drawn:=w.drawn+1} F:=⟨⟨rfl,rfl,rfl,fz6 _,fun _ _=>rfl⟩,fun _ h=>h,fun _ h=>.inl h,hi.flt⟩;refine af0.all hx (ae2 ho) hv (fun a w hr=>⟨_,heq.rel hr,h2⟩) _ _ _ _ ?_ ⟨by simp,fun i o e ho' hL=>?_,F,σ,r1.step hext.below,r2,r3,hi.ext hext,r4,r5,fun t _=>(hs t).ext hext hi.flt,fun j o x t hj hL=>?_⟩
 ·refine gb8 (gg5 _ _) ?_;simp
 ·exfalso
  by_cases hlt:i<l.length<;>simp[hlt]at hL
 ·exfalso
  by_cases hlt:j<l.length<;>simp[hlt]at hL
end
end Go.Abs
namespace Go.Abs
open Go Go.RowKit
theorem VOp.pure_{C:Cx}{s:St}{o:Oper}{x:X}(h:∀F σ w (a:Act),ab2 C.E C.base F σ s.ob w→(∀y∈o.op.operands.toList,RdX w F σ (s.ev C.E y) (a.eval y))→
  ∃v,(execOp a.eval o).run C.E.P w=.ok (.value v) w∧RdX w F σ x v):VOp C s o x:=by
 intro F σ w a K Q hi ho hK;obtain⟨v,hr,hv⟩:=h F σ w a hi ho;unfold Oper.wp;rw[hr];exact hK v w F (Ext.refl hi.flt) hv
abbrev VR:=Option (Prop × X)
def fw:X→VR
 |.d y=>some (True,.d y)
 |.nilS=>some (True,.nilS)
 |.zc=>some (True,.zc)
 |.tup l=>some (True,.tup l)
 |.ptr o k=>some (True,.ptr o k)
 |.at_ x k=>some (True,.at_ x k)
 |.own o=>some (True,.own o)
 |.pel o i k z=>some (True,.pel o i k z)
 |.sub o i k z=>some (True,.sub o i k z)
 |.mayb p=>some (True,.mayb p)
 |.clo f cs=>some (True,.clo f cs)
 |.bnd f cs=>some (True,.bnd f cs)
 |.st cs=>some (True,.st cs)
 |.mp o=>some (True,.mp o)
 |.und=>some (True,.und)
 |.top=>some (True,.top)
theorem af3{y x:X}{p:Prop}(h:fw y=some (p,x)):x=y:=by cases y<;>simp[fw]at h<;>exact h.2.symm
def af4:X→X→X→VR
 |.d (.imm (.bool c)),.d (.imm (.bool x)),.d (.imm (.bool y))=>some (True,.d (.imm (.bool (bif c then x else y))))
 |.d (.imm (.bool c)),.d (.imm (.bool x)),.und=>some (c=true,.d (.imm (.bool x)))
 |.d (.imm (.bool c)),.und,.d (.imm (.bool y))=>some (c=false,.d (.imm (.bool y)))
 |_,_,_=>none
def inR:IntKind→Int→Prop
 |.i8,n=> -128≤n∧n≤127
 |.i16,n=> -32768≤n∧n≤32767
 |.i32,n=> -2147483648≤n∧n≤2147483647
 |.i64,n=> -9223372036854775808≤n∧n≤9223372036854775807
 |.u8,n=>0≤n∧n≤255
 |.u16,n=>0≤n∧n≤65535
 |.u32,n=>0≤n∧n≤4294967295
 |.u64,n=>0≤n∧n≤18446744073709551615
theorem af5{k:IntKind}{n:Int}(h:inR k n):okV (.int k n)=true:=by
 cases k<;>simp only[inR]at h<;>simp[okV,IntKind.min,IntKind.max,IntKind.signed,IntKind.bits]<;>omega
theorem af6{k:IntKind}{n:Int}(h:okV (.int k n)=true):inR k n:=by
 cases k<;>simp[okV,IntKind.min,IntKind.max,IntKind.signed,IntKind.bits]at h<;>simp only[inR]<;>omega
theorem af7{k:IntKind}{n:Int}(h:inR k n):k.wrap n=n:=by
 cases k<;>simp only[inR]at h<;>simp only[IntKind.wrap,IntKind.signed,IntKind.bits]<;>simp<;>omega
def cmpI(op:BinOp)(a b:Int):Option Bool:=
 match op with
 |.eql=>some (a==b)
 |.neq=>some (a !=b)
 |.lss=>some (decide (a<b))
 |.leq=>some (decide (a≤b))
 |.gtr=>some (decide (a>b))
 |.geq=>some (decide (a≥b))
 |_=>none
def ariI(op:BinOp)(k:IntKind)(a b:Int):VR:=
 match op with
 |.add=>some (inR k (a+b),.d (.imm (.int k (a+b))))
 |.sub=>some (inR k (a-b),.d (.imm (.int k (a-b))))
 |.mul=>some (inR k (a*b),.d (.imm (.int k (a*b))))
 |.quo=>some (b≠0∧inR k (a.tdiv b),.d (.imm (.int k (a.tdiv b))))
 |.rem=>some (b≠0∧inR k (a.tmod b),.d (.imm (.int k (a.tmod b))))
 |_=>none
def strB(op:BinOp)(x y:ByteArray):Option Bool:=
 match op with
 |.eql=>some (x.toList==y.toList)
 |.neq=>some (!(x.toList==y.toList))
 |.lss=>some (Op.bytesLess x.toList y.toList)
 |.leq=>some (Op.bytesLess x.toList y.toList||x.toList==y.toList)
 |.gtr=>some (!(Op.bytesLess x.toList y.toList||x.toList==y.toList))
 |.geq=>some (!(Op.bytesLess x.toList y.toList))
 |_=>none
def af8(E:Env)(t:TypeId):Bool:=match aa8 E.T t with|some e=>(match e.desc with|.bool=>true|_=>false)|none=>false
def af9(E:Env)(t:TypeId):Bool:=match aa8 E.T t with|some e=>(match e.desc with|.slice _=>true|_=>false)|none=>false
def binX(E:Env)(op:BinOp)(t:TypeId):X→X→VR
 |.d (.imm (.int k a)),.d (.imm (.int k' b))=>bif decide (k=k')then(match cmpI op a b with|some r=>some (True,.d (.imm (.bool r)))|none=>ariI op k a b)else none
 |.d (.imm (.string x)),.d (.imm (.string y))=>(match strB op x y with
  |some r=>some (True,.d (.imm (.bool r)))
  |none=>match op with
   |.add=>some (x.size+y.size≤maxLen,.d (.imm (.string (x++y))))
   |_=>none)
 |.d (.imm (.bool a)),.d (.imm (.bool b))=>bif af8 E t then(match op with|.eql=>some (True,.d (.imm (.bool (a==b))))|.neq=>some (True,.d (.imm (.bool (!(a==b)))))|_=>none)else none
 |.nilS,.nilS=>bif af9 E t then(match op with|.eql=>some (True,.d (.imm (.bool true)))|.neq=>some (True,.d (.imm (.bool false)))|_=>none)else none
 |.own _,.nilS=>bif af9 E t then(match op with|.eql=>some (True,.d (.imm (.bool false)))|.neq=>some (True,.d (.imm (.bool true)))|_=>none)else none
 |.d (.sl xs),.nilS=>bif af9 E t then(match op with|.eql=>some (True,.mayb (xs=[]))|_=>none)else none
 |_,_=>none
def unX(op:UnOp):X→VR
 |.d (.imm (.bool b))=>(match op with|.not=>some (True,.d (.imm (.bool (!b))))|_=>none)
 |.d (.imm (.int k n))=>(match op with|.neg=>some (inR k (0-n),.d (.imm (.int k (0-n))))|_=>none)
 |_=>none
def TE.isAgg(e:TE):Bool:=match e.desc with|.struct _|.array _ _=>true|_=>false
def ag2(E:Env)(t:TypeId)(f:Nat):Option Nat:=
 match aa8 E.T t with
 |some e=>(match e.desc with
  |.struct fs=>(match fs[f]? with
   |some fd=>(match aa8 E.T fd.type with|some e2=>bif Nat.beq e2.size 0 then none else some fd.offset|none=>none)
   |none=>none)
  |_=>none)
 |none=>none
def addX(k:Nat):X→VR
 |.ptr o off=>some (True,.ptr o (off+k))
 |.at_ x off=>some (True,.at_ x (off+k))
 |.pel o i off z=>some (True,.pel o i (off+k) z)
 |_=>none
def ag3:List X→Option (List D)
 |[]=>some []
 |.d x::r=>(ag3 r).map (x:: ·)
 |.nilS::r=>(ag3 r).map (.sl []:: ·)
 |_=>none
def ag4(E:Env)(ob:List aa5)(t:TypeId)(x:X):VR:=
  match aa8 E.T t with
  |none=>none
  |some e=>match x with
    |.ptr o off=>(match ob[o]? with
      |some (.var _ c)=>bif e.isAgg then
          (match c,off with
           |.w (.d (.agg cs)),0=>bif Nat.beq cs.length e.size then some (True,.d (.agg cs))else none
           |c,off=>match ag3 ((c.cells.drop off).take e.size)with
             |some ds=>bif Nat.beq ds.length e.size then some (True,.d (.agg ds))else none
             |none=>none)
        else(match c.cells[off]? with
          |some y=>fw y
          |none=>none)
      |_=>none)
    |.at_ y off=>bif e.isAgg then
        (match off with
         |0=>(match y with
           |.agg cs=>bif Nat.beq cs.length e.size then some (True,.d (.agg cs))else none
           |_=>none)
         |off=>bif Nat.beq ((y.cells.drop off).take e.size).length e.size then some (True,.d (.agg ((y.cells.drop off).take e.size)))else none)
      else(match y.cells[off]? with
        |some c=>some (True,.d c)
        |none=>none)
    |_=>none
def ag5(s:ByteArray)(i:Nat):Int:=((s.data.toList.getD i 0).toNat:Int)
def ag6(E:Env)(t:TypeId):Bool:=match aa8 E.T t with|some e=>(match e.desc with|.string=>true|_=>false)|none=>false
def ag7(E:Env)(t:TypeId):X→X→VR
 |.d (.imm (.string s)),.d (.imm (.int _ i))=>bif ag6 E t then some (0≤i∧i<s.size,.d (.imm (.int .u8 (ag5 s i.toNat))))else none
 |_,_=>none
def lenX(E:Env)(ob:List aa5)(t:TypeId):X→VR
 |.d (.imm (.string s))=>bif ag6 E t then some (True,.d (.imm (.int .i64 s.size)))else none
 |.d (.sl xs)=>bif af9 E t then some (True,.d (.imm (.int .i64 xs.length)))else none
 |.nilS=>bif af9 E t then some (True,.d (.imm (.int .i64 0)))else none
 |.own o=>(match ob[o]? with|some (.row _ _ xs)=>bif af9 E t then some (True,.d (.imm (.int .i64 xs.length)))else none|some (.mrow _ _ xs)=>bif af9 E t then some (True,.d (.imm (.int .i64 xs.length)))else none|_=>none)
 |.sub _ _ n _=>bif af9 E t then some (True,.d (.imm (.int .i64 n)))else none
 |_=>none
def ag8(E:Env)(t:TypeId)(x:X)(lo hi:Option X):VR:=
 match x with
 |.d (.imm (.string s))=>bif ag6 E t then(match lo,hi with
  |none,some (.d (.imm (.int _ h)))=>some (0≤h∧h≤s.size,.d (.imm (.string (s.extract 0 h.toNat))))
  |some (.d (.imm (.int _ l))),none=>some (0≤l∧l≤s.size,.d (.imm (.string (s.extract l.toNat s.size))))
  |some (.d (.imm (.int _ l))),some (.d (.imm (.int _ h)))=>some (0≤l∧l≤h∧h≤s.size,.d (.imm (.string (s.extract l.toNat h.toNat))))
  |_,_=>none)else none
 |.d (.sl xs)=>bif af9 E t then(match lo,hi with
  |none,some (.d (.imm (.int _ h)))=>some (0≤h∧h≤xs.length,.d (.sl (xs.take h.toNat)))
  |some (.d (.imm (.int _ l))),none=>some (0≤l∧l≤xs.length,.d (.sl (xs.drop l.toNat)))
  |some (.d (.imm (.int _ l))),some (.d (.imm (.int _ h)))=>some (0≤l∧l≤h∧h≤xs.length,.d (.sl ((xs.take h.toNat).drop l.toNat)))
  |_,_=>none)else none
 |_=>none
def minX(mx:Bool):X→X→VR
 |.d (.imm (.int k a)),.d (.imm (.int _ b))=>some (inR k b,.d (.imm (.int k (bif mx then max a b else min a b))))
 |_,_=>none
def ag9(E:Env)(fs:Array Field)(i:Nat):Option (Nat × Nat):=
 match fs[i]? with
 |some fd=>(match aa8 E.T fd.type with|some e=>some (fd.offset,e.size)|none=>none)
 |none=>none
def toD:X→Option D
 |.d x=>some x
 |.nilS=>some (.sl [])
 |_=>none
def ah0:List D→Nat→List D→List D
 |cs,_,[]=>cs
 |cs,k,d::r=>ah0 (cs.set k d) (k+1) r
def ah1(E:Env)(fs:Array Field)(s:St):List (Nat × Operand)→List D→Option (List D)
 |[],cs=>some cs
 |(i,x)::r,cs=>match ag9 E fs i with
  |none=>none
  |some (off,size)=>match toD (s.ev E x)with
   |none=>none
   |some d=>bif Nat.beq d.cells.length size&&Nat.ble (off+d.cells.length) cs.length then ah1 E fs s r (ah0 cs off d.cells)else none
def ah2:List Value→Option (List D)
 |[]=>some []
 |v::r=>match toD (ab3 v)with
  |some d=>(ah2 r).map (d:: ·)
  |none=>none
def ah3(E:Env)(fs:List Field):Bool:=fs.all fun fd=>(aa8 E.T fd.type).isSome
def ah4(E:Env)(s:St)(t:TypeId)(parts:List (Nat × Operand)):VR:=
 match aa8 E.T t with
 |some e=>(match e.desc with
  |.struct fs=>bif ah3 E fs.toList then(match ah2 e.zero.cells.toList with
   |some zs=>(match ah1 E fs s parts zs with
    |some cs=>some (True,.d (.agg cs))
    |none=>none)
   |none=>none)else none
  |_=>none)
 |none=>none
section
variable{C:Cx}{s:St}{o:Oper}{x:X}{p:Prop}
theorem ah5{y:Operand}(ho:o.op=.move y∨o.op=.assign y)(h:fw (s.ev C.E y)=some (p,x)):VOp C s o x:=by
 refine VOp.pure_ fun F σ w a hi hr=>⟨a.eval y,?_,?_⟩
 ·rcases ho with ho|ho<;>simp[execOp,ho]
 ·rw[af3 h];refine hr y ?_;rcases ho with ho|ho<;>simp[ho,Op.operands]
theorem ah6{c a' b':Operand}(ho:o.op=.pick c a' b')(h:af4 (s.ev C.E c) (s.ev C.E a') (s.ev C.E b')=some (p,x))(hp:p):VOp C s o x:=by
 refine VOp.pure_ fun F σ w a hi hr=>?_
 have hc:=hr c (by simp[ho,Op.operands]);have ha:=hr a' (by simp[ho,Op.operands]);have hb:=hr b' (by simp[ho,Op.operands])
 have key:∀(u:Bool) (v:Value),a.eval c=.bool u→(if u=true then a.eval a' else a.eval b')=v→(execOp a.eval o).run C.E.P w=.ok (.value v) w:=by
  intro u v hu hv;simp[execOp,ho,hu,asBool,hv]
 generalize s.ev C.E c=xc at*;generalize s.ev C.E a'=xa at*;generalize s.ev C.E b'=xb at*;unfold af4 at h;split at h
 ·rename_i c' x' y'
  obtain⟨rfl,rfl⟩:=Prod.mk.inj (Option.some.inj h);obtain⟨e1,-⟩:=Rd.imm_inv hc;obtain⟨e2,-⟩:=Rd.imm_inv ha;obtain⟨e3,-⟩:=Rd.imm_inv hb;refine⟨_,key c' _ e1 rfl,?_⟩;rw[e2,e3]
  cases c'<;>exact Rd.imm _ rfl
 ·rename_i c' x'
  obtain⟨rfl,rfl⟩:=Prod.mk.inj (Option.some.inj h);obtain⟨e1,-⟩:=Rd.imm_inv hc;obtain⟨e2,-⟩:=Rd.imm_inv ha;subst hp;refine⟨_,key true _ e1 rfl,?_⟩;rw[e2];exact Rd.imm _ rfl
 ·rename_i c' y'
  obtain⟨rfl,rfl⟩:=Prod.mk.inj (Option.some.inj h);obtain⟨e1,-⟩:=Rd.imm_inv hc;obtain⟨e3,-⟩:=Rd.imm_inv hb;subst hp;refine⟨_,key false _ e1 rfl,?_⟩;rw[e3];exact Rd.imm _ rfl
 ·cases h
theorem ah7{E:Env}{t:TypeId}(h:af8 E t=true):E.P.underlying t=some .bool:=by
 unfold af8 at h;split at h
 ·rename_i e he
  split at h
  ·rename_i hd
   obtain⟨⟨h1,-⟩,rfl⟩:=ab0 he;rw[h1,hd]
  ·cases h
 ·cases h
theorem ah8{E:Env}{t:TypeId}(h:ag6 E t=true):E.P.underlying t=some .string:=by
 unfold ag6 at h;split at h
 ·rename_i e he
  split at h
  ·rename_i hd
   obtain⟨⟨h1,-⟩,rfl⟩:=ab0 he;rw[h1,hd]
  ·cases h
 ·cases h
theorem ah9{E:Env}{t:TypeId}(h:af9 E t=true):∃e,E.P.underlying t=some (.slice e):=by
 unfold af9 at h;split at h
 ·rename_i e he
  split at h
  ·rename_i el hd
   obtain⟨⟨h1,-⟩,rfl⟩:=ab0 he;exact⟨el,by rw[h1,hd]⟩
  ·cases h
 ·cases h
theorem ai1{P:Program}{w:World}{op:BinOp}{t:TypeId}{k:IntKind}{a b:Int}{r:Bool}(h:cmpI op a b=some r):(binOp op t (.int k a) (.int k b)).run P w=.ok (.bool r) w:=by
 cases op<;>simp[cmpI]at h<;>subst h<;>simp[binOp,Op.intCmp]
theorem ai2{P:Program}{w:World}{op:BinOp}{t:TypeId}{k:IntKind}{a b:Int}{p:Prop}{x:X}(h:ariI op k a b=some (p,x))(hp:p):
  ∃n,(binOp op t (.int k a) (.int k b)).run P w=.ok (.int k n) w∧x=.d (.imm (.int k n))∧okV (.int k n)=true:=by
 cases op<;>simp only[ariI]at h<;>first|(cases h;done)|(obtain⟨rfl,rfl⟩:=Prod.mk.inj (Option.some.inj h))
 ·exact⟨_,by simp[binOp,Op.intArith,af7 hp],rfl,af5 hp⟩
 ·exact⟨_,by simp[binOp,Op.intArith,af7 hp],rfl,af5 hp⟩
 ·exact⟨_,by simp[binOp,Op.intArith,af7 hp],rfl,af5 hp⟩
 ·exact⟨_,by simp[binOp,Op.intDiv,hp.1,af7 hp.2],rfl,af5 hp.2⟩
 ·exact⟨_,by simp[binOp,Op.intDiv,hp.1],rfl,af5 hp.2⟩
theorem ai3{P:Program}{w:World}{op:BinOp}{t:TypeId}{x y:ByteArray}{r:Bool}(h:strB op x y=some r):(binOp op t (.string x) (.string y)).run P w=.ok (.bool r) w:=by
 cases op<;>simp only[strB]at h<;>first|(cases h;done)|(obtain rfl:=Option.some.inj h;simp[binOp,Op.stringOp])
theorem ai4{P:Program}{w:World}{t:TypeId}{x y:Value}{r:Bool}(h:∀d,(Op.equalIn (d+1) t x y).run P w=.ok r w):(Op.equal t x y).run P w=.ok r w:=h 9999
theorem ai5{P:Program}{w:World}{t:TypeId}{a b:Bool}(hu:P.underlying t=some .bool)(d:Nat):(Op.equalIn (d+1) t (.bool a) (.bool b)).run P w=.ok (a==b) w:=by
 simp[Op.equalIn,run_underlying hu]
theorem ai6{P:Program}{w:World}{t e:TypeId}(hu:P.underlying t=some (.slice e))(d:Nat):(Op.equalIn (d+1) t (.slice none 0 0) (.slice none 0 0)).run P w=.ok true w:=by
 simp[Op.equalIn,run_underlying hu]
theorem ai7{P:Program}{w:World}{t e:TypeId}{ad:Addr}{n c:Nat}(hu:P.underlying t=some (.slice e))(d:Nat):(Op.equalIn (d+1) t (.slice (some ad) n c) (.slice none 0 0)).run P w=.ok false w:=by
 simp[Op.equalIn,run_underlying hu]
theorem ai8{P:Program}{w:World}{t:TypeId}{x y:Value}{r:Bool}(h:(Op.equal t x y).run P w=.ok r w)(hx:(∃b,x=.bool b)∨∃a n c,x=.slice a n c):
  (binOp .eql t x y).run P w=.ok (.bool r) w∧(binOp .neq t x y).run P w=.ok (.bool (!r)) w:=by
 rcases hx with⟨b,rfl⟩|⟨a,n,c,rfl⟩<;>simp only[binOp]<;>simp[h]
theorem ai9{P:Program}{w:World}{op:BinOp}{t:TypeId}{x y:Operand}{a b:Value}(ha:a≠ .nilIface)(hb:∀cs,a≠ .agg cs):(eqGuard op t x y a b).run P w=.ok () w:=by
 unfold eqGuard
 cases op<;>simp<;>cases a<;>simp at ha hb ⊢
theorem v_bin{op:BinOp}{t u:TypeId}{y z:Operand}(ho:o.op=.binOp op t y z u)(h:binX C.E op t (s.ev C.E y) (s.ev C.E z)=some (p,x))(hp:p):VOp C s o x:=by
 refine VOp.pure_ fun F σ w a hi hr=>?_
 have hy:=hr y (by simp[ho,Op.operands]);have hz:=hr z (by simp[ho,Op.operands])
 have key:∀v,a.eval y≠ .nilIface→(∀cs,a.eval y≠ .agg cs)→(binOp op t (a.eval y) (a.eval z)).run C.E.P w=.ok v w→(execOp a.eval o).run C.E.P w=.ok (.value v) w:=by
  intro v h1 h2 hv;simp[execOp,ho,ai9 h1 h2,hv]
 generalize s.ev C.E y=xy at*;generalize s.ev C.E z=xz at*;unfold binX at h;split at h
 ·rename_i k m k' n
  obtain⟨e1,-⟩:=Rd.imm_inv hy;obtain⟨e2,-⟩:=Rd.imm_inv hz
  cases hk:decide (k=k')with
  |false=>rw[hk]at h;cases h
  |true=>
   obtain rfl:=of_decide_eq_true hk;rw[hk]at h;simp only[cond_true]at h;split at h
   ·rename_i r hcmp
    obtain⟨rfl,rfl⟩:=Prod.mk.inj (Option.some.inj h);exact⟨.bool r,key _ (by rw[e1];simp) (by rw[e1];simp) (by rw[e1,e2];exact ai1 hcmp),Rd.imm _ rfl⟩
   ·obtain⟨q,h1,rfl,h3⟩:=ai2 (P:=C.E.P) (w:=w) (t:=t) h hp;exact⟨_,key _ (by rw[e1];simp) (by rw[e1];simp) (by rw[e1,e2];exact h1),Rd.imm _ h3⟩
 ·rename_i sx sy
  obtain⟨e1,k1⟩:=Rd.imm_inv hy;obtain⟨e2,k2⟩:=Rd.imm_inv hz;split at h
  ·rename_i r hb
   obtain⟨rfl,rfl⟩:=Prod.mk.inj (Option.some.inj h);exact⟨.bool r,key _ (by rw[e1];simp) (by rw[e1];simp) (by rw[e1,e2];exact ai3 hb),Rd.imm _ rfl⟩
  ·split at h
   ·obtain⟨rfl,rfl⟩:=Prod.mk.inj (Option.some.inj h);have hmx:maxLen=9223372036854775807:=rfl;refine⟨.string (sx++sy),key _ (by rw[e1];simp) (by rw[e1];simp) ?_,Rd.imm _ ?_⟩
    ·rw[e1,e2]
     have: ¬ ((sx.size+sy.size:Nat):Int)>IntKind.i64.max:=by
      simp only[IntKind.max,IntKind.signed,IntKind.bits];simp;omega
     simp only[binOp,Op.stringOp,if_neg this];rfl
    ·simp[okV,ByteArray.size_append];exact hp
   ·cases h
 ·rename_i b1 b2
  obtain⟨e1,-⟩:=Rd.imm_inv hy;obtain⟨e2,-⟩:=Rd.imm_inv hz
  cases hb:af8 C.E t with
  |false=>rw[hb]at h;cases h
  |true=>
   rw[hb]at h;have hu:=ah7 hb;simp only[cond_true]at h
   cases op<;>simp only at h<;>first|(cases h;done)|obtain⟨rfl,rfl⟩:=Prod.mk.inj (Option.some.inj h)
   ·exact⟨.bool (b1==b2),key _ (by rw[e1];simp) (by rw[e1];simp) (by rw[e1,e2];first|exact(ai8 (ai4 (ai5 hu)) (.inl ⟨_,rfl⟩)).1|exact(ai8 (ai4 (ai5 hu)) (.inl ⟨_,rfl⟩)).2),Rd.imm _ rfl⟩
   ·exact⟨.bool (!(b1==b2)),key _ (by rw[e1];simp) (by rw[e1];simp) (by rw[e1,e2];first|exact(ai8 (ai4 (ai5 hu)) (.inl ⟨_,rfl⟩)).1|exact(ai8 (ai4 (ai5 hu)) (.inl ⟨_,rfl⟩)).2),Rd.imm _ rfl⟩
 ·cases hb:af9 C.E t with
  |false=>rw[hb]at h;cases h
  |true=>
   rw[hb]at h;obtain⟨el,hu⟩:=ah9 hb;simp only[cond_true]at h
   cases op<;>simp only at h<;>first|(cases h;done)|obtain⟨rfl,rfl⟩:=Prod.mk.inj (Option.some.inj h)
   ·exact⟨.bool true,key _ (by rw[hy];simp) (by rw[hy];simp) (by rw[hy,hz];first|exact(ai8 (ai4 (ai6 hu)) (.inr ⟨_,_,_,rfl⟩)).1|exact(ai8 (ai4 (ai6 hu)) (.inr ⟨_,_,_,rfl⟩)).2),Rd.imm _ rfl⟩
   ·exact⟨.bool false,key _ (by rw[hy];simp) (by rw[hy];simp) (by rw[hy,hz];first|exact(ai8 (ai4 (ai6 hu)) (.inr ⟨_,_,_,rfl⟩)).1|exact(ai8 (ai4 (ai6 hu)) (.inr ⟨_,_,_,rfl⟩)).2),Rd.imm _ rfl⟩
 ·cases hb:af9 C.E t with
  |false=>rw[hb]at h;cases h
  |true=>
   rw[hb]at h;obtain⟨el,hu⟩:=ah9 hb;obtain⟨b,c,n,_,hy'⟩:=hy;simp only[cond_true]at h
   cases op<;>simp only at h<;>first|(cases h;done)|obtain⟨rfl,rfl⟩:=Prod.mk.inj (Option.some.inj h)
   ·exact⟨.bool false,key _ (by rw[hy'];simp) (by rw[hy'];simp) (by rw[hy',hz];first|exact(ai8 (ai4 (ai7 hu)) (.inr ⟨_,_,_,rfl⟩)).1|exact(ai8 (ai4 (ai7 hu)) (.inr ⟨_,_,_,rfl⟩)).2),Rd.imm _ rfl⟩
   ·exact⟨.bool true,key _ (by rw[hy'];simp) (by rw[hy'];simp) (by rw[hy',hz];first|exact(ai8 (ai4 (ai7 hu)) (.inr ⟨_,_,_,rfl⟩)).1|exact(ai8 (ai4 (ai7 hu)) (.inr ⟨_,_,_,rfl⟩)).2),Rd.imm _ rfl⟩
 ·rename_i xs
  cases hb:af9 C.E t with
  |false=>rw[hb]at h;cases h
  |true=>
   rw[hb]at h;obtain⟨el,hu⟩:=ah9 hb;simp only[cond_true]at h
   cases op<;>simp only at h<;>first|(cases h;done)|obtain⟨rfl,rfl⟩:=Prod.mk.inj (Option.some.inj h)
   rcases Rd.sl_inv hy with⟨hxs,hev⟩|⟨_,ad,cap,hev,-⟩
   ·exact⟨.bool true,key _ (by rw[hev];simp) (by rw[hev];simp) (by rw[hev,hz];exact(ai8 (ai4 (ai6 hu)) (.inr ⟨_,_,_,rfl⟩)).1),true,rfl,fun _=>hxs⟩
   ·exact⟨.bool false,key _ (by rw[hev];simp) (by rw[hev];simp) (by rw[hev,hz];exact(ai8 (ai4 (ai7 hu)) (.inr ⟨_,_,_,rfl⟩)).1),false,rfl,fun h=>by cases h⟩
 ·cases h
theorem v_un{op:UnOp}{t:TypeId}{y:Operand}(ho:o.op=.unOp op t y)(h:unX op (s.ev C.E y)=some (p,x))(hp:p):VOp C s o x:=by
 refine VOp.pure_ fun F σ w a hi hr=>?_
 have hy:=hr y (by simp[ho,Op.operands])
 have key:∀v,(Op.unary op (a.eval y)).run C.E.P w=.ok v w→(execOp a.eval o).run C.E.P w=.ok (.value v) w:=by
  intro v hv;simp[execOp,ho,hv]
 generalize s.ev C.E y=xy at*;unfold unX at h;split at h
 ·obtain⟨e1,-⟩:=Rd.imm_inv hy
  cases op<;>simp only at h<;>first|(cases h;done)|obtain⟨rfl,rfl⟩:=Prod.mk.inj (Option.some.inj h)
  exact⟨_,key _ (by rw[e1];simp[Op.unary]),Rd.imm _ rfl⟩
 ·obtain⟨e1,-⟩:=Rd.imm_inv hy
  cases op<;>simp only at h<;>first|(cases h;done)|obtain⟨rfl,rfl⟩:=Prod.mk.inj (Option.some.inj h)
  exact⟨_,key _ (by rw[e1];simp only[Op.unary,Op.intArith,af7 hp];rfl),Rd.imm _ (af5 hp)⟩
 ·cases h
theorem aj1{E:Env}{t:TypeId}{f k:Nat}(h:ag2 E t f=some k):∃fs fd i,E.P.underlying t=some (.struct fs)∧fs[f]? =some fd∧fd.offset=k∧E.P.info? fd.type=some i∧i.size≠0:=by
 unfold ag2 at h;split at h
 ·rename_i e he
  obtain⟨⟨h1,-⟩,rfl⟩:=ab0 he;split at h
  ·rename_i fs hd
   split at h
   ·rename_i fd hfd
    split at h
    ·rename_i e2 he2
     obtain⟨⟨-,i,hi,hs,-⟩,ht⟩:=ab0 he2
     cases hb:Nat.beq e2.size 0 with
     |true=>rw[hb]at h;cases h
     |false=>
      rw[hb]at h;simp at h;exact⟨fs,fd,i,by rw[h1,hd],hfd,h,by rw[←ht];exact hi,by rw[hs];exact Nat.ne_of_beq_eq_false hb⟩
    ·cases h
   ·cases h
  ·cases h
 ·cases h
theorem aj2{t:TypeId}{y:Operand}{f k:Nat}(ho:o.op=.fieldAddr t y f)(hk:ag2 C.E t f=some k)(h:addX k (s.ev C.E y)=some (p,x)):VOp C s o x:=by
 obtain⟨fs,fd,i,hu,hf,hoff,hi2,hsz⟩:=aj1 hk;refine VOp.pure_ fun F σ w a hi hr=>?_
 have hy:=hr y (by simp[ho,Op.operands])
 have key:∀ad,a.eval y=.pointer (some ad)→(execOp a.eval o).run C.E.P w=.ok (.value (.pointer (some (ad.add k)))) w:=by
  intro ad hv;simp[execOp,ho,hv,Instr.fieldAt,run_underlying hu,hf,Instr.sureAddr,fieldPlace,sizeOf,typeInfo,hi2,hsz,hoff]
 generalize s.ev C.E y=xy at*
 cases xy<;>simp only[addX]at h<;>first|(cases h;done)|obtain⟨rfl,rfl⟩:=Prod.mk.inj (Option.some.inj h)
 ·obtain⟨b,c,n,h1,h2⟩:=hy;exact⟨_,key _ h2,b,c,n,h1,by rw[aa2]⟩
 ·obtain⟨ad,h1,h2⟩:=hy;exact⟨_,key _ h2,ad,h1,by rw[aa1]⟩
 ·obtain⟨b,c,n,h1,h2⟩:=hy;exact⟨_,key _ h2,b,c,n,h1,by rw[aa2,Nat.add_assoc]⟩
theorem aj3{w:World}{F:Nat→Prop}{σ:Sg}:∀{xs:List X} {ds:List D},ag3 xs=some ds→ds.length=xs.length∧∀(i:Nat) (x:X) (v:Value),xs[i]? =some x→RdX w F σ x v→∃d,ds[i]? =some d∧Rd w F d v
 |[],ds,h=>by simp[ag3]at h;subst h;exact⟨rfl,fun i x v h=>by simp at h⟩
 |.d y::r,ds,h=>by
  simp only[ag3,fz9]at h;obtain⟨ds',h1,rfl⟩:=h;obtain⟨h2,h3⟩:=aj3 (w:=w) (F:=F) (σ:=σ) h1;refine⟨by simp[h2],fun i x v hi hv=>?_⟩
  cases i with
  |zero=>simp at hi;subst hi;exact⟨y,by simp,hv⟩
  |succ i=>simpa using h3 i x v (by simpa using hi) hv
 |.nilS::r,ds,h=>by
  simp only[ag3,fz9]at h;obtain⟨ds',h1,rfl⟩:=h;obtain⟨h2,h3⟩:=aj3 (w:=w) (F:=F) (σ:=σ) h1;refine⟨by simp[h2],fun i x v hi hv=>?_⟩
  cases i with
  |zero=>simp at hi;subst hi;exact⟨.sl [],by simp,by rw[show v=.slice none 0 0 from hv];exact .slnil⟩
  |succ i=>simpa using h3 i x v (by simpa using hi) hv
 |.zc::r,ds,h=>by simp[ag3]at h
 |.tup _::r,ds,h=>by simp[ag3]at h
 |.ptr _ _::r,ds,h=>by simp[ag3]at h
 |.at_ _ _::r,ds,h=>by simp[ag3]at h
 |.own _::r,ds,h=>by simp[ag3]at h
 |.pel _ _ _ _::r,ds,h=>by simp[ag3]at h
 |.sub _ _ _ _::r,ds,h=>by simp[ag3]at h
 |.mayb _::r,ds,h=>by simp[ag3]at h
 |.clo _ _::r,ds,h=>by simp[ag3]at h
 |.bnd _ _::r,ds,h=>by simp[ag3]at h
 |.st _::r,ds,h=>by simp[ag3]at h
 |.mp _::r,ds,h=>by simp[ag3]at h
 |.und::r,ds,h=>by simp[ag3]at h
 |.top::r,ds,h=>by simp[ag3]at h
theorem aj4{P:Program}{e:TE}{w:World}(h:e.ok P):(isAgg e.t).run P w=.ok e.isAgg w:=by
 unfold isAgg TE.isAgg;simp only[Sem.run_bind,run_underlying h.1,Result.andThen_ok]
 cases e.desc<;>simp
theorem aj5{P:Program}{e:TE}{w:World}(h:e.ok P):(sizeOf e.t).run P w=.ok e.size w:=by
 obtain⟨_,i,hi,hs,_⟩:=h;simp[sizeOf,typeInfo,hi,hs]
theorem aj6{E:Env}{e:TE}{w:World}{ad:Addr}{vs:List Value}(h:e.ok E.P)(hag:e.isAgg=true)(hl:vs.length=e.size)(hc:∀(j:Nat) v,vs[j]? =some v→w.cell? (ad.add j)=some v):
  (Instr.loadAt e.t (.pointer (some ad))).run E.P w=.ok (.agg vs.toArray) w:=by
 simp only[Instr.loadAt,Instr.sureAddr,loadVar,Sem.run_bind,Sem.run_pure,Result.andThen_ok,aj4 h,hag,if_true,aj5 h];rw[←hl,run_loadCells_list (P:=E.P) (w:=w) ad vs hc];simp
theorem aj7{E:Env}{e:TE}{w:World}{ad:Addr}{v:Value}(h:e.ok E.P)(hag:e.isAgg=false)(hc:w.cell? ad=some v):(Instr.loadAt e.t (.pointer (some ad))).run E.P w=.ok v w:=by
 simp only[Instr.loadAt,Instr.sureAddr,loadVar,Sem.run_bind,Sem.run_pure,Result.andThen_ok,aj4 h,hag];simp[hc]
theorem aj8{w:World}{b:Nat}{vs:List Value}{ty:TypeId}{fz:Nat × Nat}(h:w.heap[b]? =some (.cells vs.toArray ty fz))(i:Nat):w.cell? ⟨b,i,none⟩=vs[i]? :=by
 unfold World.cell?;rw[h];simp
theorem Rd.one_of{w:World}{F:Nat→Prop}{d:D}{v:Value}(h:Rd w F d v)(hv:v.oneCell'=true):d.one=true:=by
 cases h with
 |agg=>simp[Value.oneCell']at hv
 |_=>rfl
theorem aj9{w:World}{F:Nat→Prop}{ds:List D}{vs:List Value}(hl:ds.length=vs.length)(h1:∀v∈vs,v.oneCell'=true)
  (h:∀(i:Nat) v,vs[i]? =some v→∃d,ds[i]? =some d∧Rd w F d v):Rd w F (.agg ds) (.agg vs.toArray):=by
 refine .agg ds vs hl (fun c hc=>?_) fun i c v hc hv=>?_
 ·obtain⟨i,hi⟩:=ga9 hc;have hlt:i<vs.length:=by rw[←hl];exact(fy9.1 hi).1
  obtain⟨d,hd,hr⟩:=h i vs[i] (fy4 hlt);rw[hi]at hd
  cases hd
  exact hr.one_of (h1 _ (gf2 hlt))
 ·obtain⟨d,hd,hr⟩:=h i v hv;rw[hc]at hd
  cases hd
  exact hr
theorem ak0{α:Type}(l:List α)(k n j:Nat)(v:α)(h:((l.drop k).take n)[j]? =some v):l[k+j]? =some v∧j<n:=by
 rw[ga5]at h;split at h
 ·rename_i hj;rw[ge4]at h;exact⟨h,hj⟩
 ·cases h
theorem ak1{E:Env}{B:ab1}{F:Nat→Prop}{σ:Sg}{ob0:List aa5}{w:World}{t:TypeId}{xy x:X}{p:Prop}{v0:Value}(hi:ab2 E B F σ ob0 w)(hy:RdX w F σ xy v0)(h:ag4 E ob0 t xy=some (p,x)):
  ∃v,(Instr.loadAt t v0).run E.P w=.ok v w∧RdX w F σ x v:=by
 have key:∀{t:TypeId} (v:Value),(Instr.loadAt t v0).run E.P w=.ok v w→(Instr.loadAt t v0).run E.P w=.ok v w:=fun _ h=>h
 unfold ag4 at h;split at h
 ·cases h
 rename_i e he
 obtain⟨hok,rfl⟩:=ab0 he;split at h
 ·rename_i ob off
  obtain⟨b,cc,nn,h1,h2⟩:=hy;split at h
  ·rename_i ty c hob
   obtain⟨vs,hh,hlen,hone,hcs,-⟩:=hi.obs ob _ _ hob h1
   have whole:∀ds,ag3 ((c.cells.drop off).take e.size)=some ds→Nat.beq ds.length e.size=true→e.isAgg=true→
     ∃v,(Instr.loadAt e.t v0).run E.P w=.ok v w∧RdX w F σ (.d (.agg ds)) v:=by
    intro ds hds hb hag;obtain⟨hl,hx⟩:=aj3 (w:=w) (F:=F) (σ:=σ) hds;have hsz:ds.length=e.size:=fz8 hb
    have hl2:((vs.drop off).take e.size).length=e.size:=by
     rw[←hsz,hl];simp only[gb6,gf4,hlen];omega
    refine⟨_,key _ ?_,aj9 (ds:=ds) (vs:=(vs.drop off).take e.size) (by rw[hl2,hsz]) (fun v hv=>hone v (gi2 (gg6 hv))) fun i v hv=>?_⟩
    ·rw[h2];refine aj6 hok hag hl2 fun j v hj=>?_
     rw[aa2,aj8 hh];exact(ak0 vs off e.size j v hj).1
    ·obtain⟨hv1,hv2⟩:=ak0 vs off e.size i v hv;have hlt:off+i<c.cells.length:=by rw[hlen];exact(fy9.1 hv1).1
     have hcx:c.cells[off+i]? =some c.cells[off+i]:=fy4 hlt;refine hx i c.cells[off+i] v ?_ (hcs _ _ _ hcx hv1);rw[ga5,if_pos hv2,ge4];exact hcx
   cases hag:e.isAgg with
   |true=>
    rw[hag]at h;simp only[cond_true]at h;split at h
    ·rename_i cs
     cases hb:Nat.beq cs.length e.size with
     |false=>rw[hb]at h;cases h
     |true=>
      rw[hb]at h;obtain⟨rfl,rfl⟩:=Prod.mk.inj (Option.some.inj h);refine whole cs ?_ hb hag;have hsz:cs.length=e.size:=fz8 hb
      have:∀l:List D,ag3 (l.map X.d)=some l:=by
       intro l
       induction l with
       |nil=>rfl
       |cons d r ih=>simp[ag3,ih]
      simp only[VC.cells,X.cells,D.cells,gh6];rw[ga3 (by simp[hsz])];exact this cs
    ·split at h
     ·rename_i ds hds
      cases hb:Nat.beq ds.length e.size with
      |false=>rw[hb]at h;cases h
      |true=>
       rw[hb]at h;obtain⟨rfl,rfl⟩:=Prod.mk.inj (Option.some.inj h);exact whole ds hds hb hag
     ·cases h
   |false=>
    rw[hag]at h;simp only[cond_false]at h;split at h
    ·rename_i z hz
     rw[af3 h];have hlt:off<vs.length:=by rw[←hlen];exact(fy9.1 hz).1
     have hv:vs[off]? =some vs[off]:=fy4 hlt;refine⟨vs[off],key _ ?_,hcs off z _ hz hv⟩;rw[h2];exact aj7 hok hag (by rw[aj8 hh];exact hv)
    ·cases h
  ·cases h
 ·rename_i z off
  obtain⟨ad,⟨hF,hone,hm⟩,h2⟩:=hy
  have whole:((z.cells.drop off).take e.size).length=e.size→e.isAgg=true→
    ∃v,(Instr.loadAt e.t v0).run E.P w=.ok v w∧RdX w F σ (.d (.agg ((z.cells.drop off).take e.size))) v:=by
   intro hl hag
   have hex:∀j,∃u,∀c,z.cells[j]? =some c→w.cell? (ad.add j)=some u∧Rd w F c u:=by
    intro j
    cases hz:z.cells[j]? with
    |none=>exact⟨undef,fun c h=>by cases h⟩
    |some c=>obtain⟨u,h1,h2⟩:=hm j c hz;exact⟨u,fun c' h=>by cases h;exact⟨h1,h2⟩⟩
   let u:Nat→Value:=fun j=>Classical.choose (hex j)
   have hu:∀j c,z.cells[j]? =some c→w.cell? (ad.add j)=some (u j)∧Rd w F c (u j):=fun j=>Classical.choose_spec (hex j)
   let vs:List Value:=(List.range e.size).map fun j=>u (off+j)
   have hvl:vs.length=e.size:=by simp[vs]
   have hvj:∀(j:Nat) v,vs[j]? =some v→v=u (off+j)∧j<e.size:=by
    intro j v hj;have hlt:j<e.size:=by rw[←hvl];exact(fy9.1 hj).1
    simp[vs,hlt]at hj;exact⟨hj.symm,hlt⟩
   have hzj:∀j,j<e.size→∃c,z.cells[off+j]? =some c∧((z.cells.drop off).take e.size)[j]? =some c:=by
    intro j hj;have hlt:j<((z.cells.drop off).take e.size).length:=by rw[hl];exact hj
    have h1:=fy4 hlt;exact⟨_,(ak0 _ _ _ _ _ h1).1,h1⟩
   refine⟨.agg vs.toArray,key _ ?_,aj9 (vs:=vs) (by rw[hvl];exact hl) (fun v hv=>?_) fun i v hv=>?_⟩
   ·rw[h2];refine aj6 hok hag hvl fun j v hj=>?_
    obtain⟨rfl,hlt⟩:=hvj j v hj;obtain⟨c,hc,_⟩:=hzj j hlt;rw[aa1];exact(hu _ c hc).1
   ·obtain⟨i,hi'⟩:=ga9 hv;obtain⟨rfl,hlt⟩:=hvj i v hi';obtain⟨c,hc,_⟩:=hzj i hlt;exact(hu _ c hc).2.one (hone c (fy6 hc))
   ·obtain⟨rfl,hlt⟩:=hvj i v hv;obtain⟨c,hc,hc'⟩:=hzj i hlt;exact⟨c,hc',(hu _ c hc).2⟩
  cases hag:e.isAgg with
  |true=>
   rw[hag]at h;simp only[cond_true]at h;split at h
   ·split at h
    ·rename_i cs
     cases hb:Nat.beq cs.length e.size with
     |false=>rw[hb]at h;cases h
     |true=>
      rw[hb]at h;obtain⟨rfl,rfl⟩:=Prod.mk.inj (Option.some.inj h);have hsz:cs.length=e.size:=fz8 hb;have:=whole (by simp[D.cells,hsz]) hag;simp only[D.cells,gh6]at this;rw[ga3 Oa]at this;exact this
    ·cases h
   ·rename_i hne
    cases hb:Nat.beq ((z.cells.drop off).take e.size).length e.size with
    |false=>rw[hb]at h;cases h
    |true=>
     rw[hb]at h;obtain⟨rfl,rfl⟩:=Prod.mk.inj (Option.some.inj h);exact whole (fz8 hb) hag
  |false=>
   rw[hag]at h;simp only[cond_false]at h;split at h
   ·rename_i c hc
    obtain⟨rfl,rfl⟩:=Prod.mk.inj (Option.some.inj h);obtain⟨u,hu1,hu2⟩:=hm off c hc;refine⟨u,key _ ?_,hu2⟩;rw[h2];exact aj7 hok hag hu1
   ·cases h
 ·cases h
theorem ak2{t:TypeId}{y:Operand}(ho:o.op=.load t y)(h:ag4 C.E s.ob t (s.ev C.E y)=some (p,x)):VOp C s o x:=by
 refine VOp.pure_ fun F σ w a hi hr=>?_
 obtain⟨v,h1,h2⟩:=ak1 hi (hr y (by simp[ho,Op.operands])) h;exact⟨v,by simp[execOp,ho,h1],h2⟩
end
end Go.Abs
namespace Go.Abs
open Go Go.RowKit
section
variable{C:Cx}{s:St}{o:Oper}{x:X}{p:Prop}
theorem ak3(b:ByteArray)(i:Nat):0≤ag5 b i∧ag5 b i≤255:=by
 unfold ag5;have:=(b.data.toList.getD i 0).toNat_lt;omega
theorem byteAt_get{b:ByteArray}{i:Nat}(h:i<b.size):ag5 b i=((b[i]).toNat:Int):=by
 unfold ag5;have h':i<b.data.toList.length:=by simpa using h
 rw[gd6,fy4 h'];rfl
theorem ak4{t:TypeId}{y z:Operand}(ho:o.op=.index t y z)(h:ag7 C.E t (s.ev C.E y) (s.ev C.E z)=some (p,x))(hp:p):VOp C s o x:=by
 refine VOp.pure_ fun F σ w a hi hr=>?_
 have hy:=hr y (by simp[ho,Op.operands]);have hz:=hr z (by simp[ho,Op.operands])
 have key:∀v,(Instr.index t (a.eval y) (a.eval z)).run C.E.P w=.ok v w→(execOp a.eval o).run C.E.P w=.ok (.value v) w:=by
  intro v hv;simp[execOp,ho,hv]
 generalize s.ev C.E y=xy at*;generalize s.ev C.E z=xz at*;unfold ag7 at h;split at h
 ·rename_i b k i
  obtain⟨e1,-⟩:=Rd.imm_inv hy;obtain⟨e2,-⟩:=Rd.imm_inv hz
  cases hb:ag6 C.E t with
  |false=>rw[hb]at h;cases h
  |true=>
   rw[hb]at h;obtain⟨rfl,rfl⟩:=Prod.mk.inj (Option.some.inj h);have hlt:i.toNat<b.size:=Oa
   have hr:=ak3 b i.toNat;refine⟨_,key _ ?_,Rd.imm _ (af5 (k:=.u8) hr)⟩;rw[e1,e2,byteAt_get hlt];have hg:b[i.toNat]? =some b[i.toNat]:=by simp[hlt]
   simp[Instr.index,asIntOf,run_underlying (ah8 hb),hp.1,hg]
 ·cases h
theorem ak5{P:Program}{w:World}{t:TypeId}{ty:TypeId}{v:Value}{d:TypeDesc}(hu:P.underlying t=some d)
  (hv:(∃b,v=.string b∧d=.string)∨∃a n c e,v=.slice a n c∧d=.slice e):
  (Builtin.len_ #[t] ty #[v]).run P w=.ok (goInt (match v with|.string b=>(b.size:Int)|.slice _ n _=>(n:Int)|_=>0)) w:=by
 rcases hv with⟨b,rfl,rfl⟩|⟨a,n,c,e,rfl,rfl⟩<;>simp[Builtin.len_,run_underlying hu]
theorem v_len{t:TypeId}{y:Operand}(ho:o.op=.call {callee:=.builtin .len,args:= #[y],argTypes:= #[t]})(h:lenX C.E s.ob t (s.ev C.E y)=some (p,x)):VOp C s o x:=by
 refine VOp.pure_ fun F σ w a hi hr=>?_
 have hy:=hr y (by simp[ho,Op.operands,Call.operands])
 have key:∀v,(Builtin.len_ #[t] o.type #[a.eval y]).run C.E.P w=.ok v w→(execOp a.eval o).run C.E.P w=.ok (.value v) w:=by
  intro v hv;simp[execOp,ho,resolve,invoke,builtin,hv]
 have hmx:maxLen=9223372036854775807:=rfl;generalize s.ev C.E y=xy at*;unfold lenX at h;split at h
 ·rename_i b
  obtain⟨e1,hk⟩:=Rd.imm_inv hy
  cases hb:ag6 C.E t with
  |false=>rw[hb]at h;cases h
  |true=>
   rw[hb]at h;obtain⟨rfl,rfl⟩:=Prod.mk.inj (Option.some.inj h);refine⟨_,key _ (by rw[e1];exact ak5 (ah8 hb) (.inl ⟨_,rfl,rfl⟩)),Rd.imm _ (af5 (k:=.i64) ?_)⟩;simp only[okV,decide_eq_true_eq]at hk;simp only[inR];omega
 ·rename_i xs
  cases hb:af9 C.E t with
  |false=>rw[hb]at h;cases h
  |true=>
   rw[hb]at h;obtain⟨rfl,rfl⟩:=Prod.mk.inj (Option.some.inj h);obtain⟨el,hu⟩:=ah9 hb;rcases Rd.sl_inv hy with⟨rfl,hev⟩|⟨_,ad,cap,hev,h1,h2,-⟩
   ·exact⟨_,key _ (by rw[hev];exact ak5 hu (.inr ⟨_,_,_,_,rfl,rfl⟩)),Rd.imm _ Od⟩
   ·refine⟨_,key _ (by rw[hev];exact ak5 hu (.inr ⟨_,_,_,_,rfl,rfl⟩)),Rd.imm _ (af5 (k:=.i64) ?_)⟩;simp only[inR];omega
 ·cases hb:af9 C.E t with
  |false=>rw[hb]at h;cases h
  |true=>
   rw[hb]at h;obtain⟨rfl,rfl⟩:=Prod.mk.inj (Option.some.inj h);obtain⟨el,hu⟩:=ah9 hb;exact⟨_,key _ (by rw[show a.eval y=.slice none 0 0 from hy];exact ak5 hu (.inr ⟨_,_,_,_,rfl,rfl⟩)),Rd.imm _ Od⟩
 ·rename_i ob
  split at h
  ·rename_i e size xs hob
   cases hb:af9 C.E t with
   |false=>rw[hb]at h;cases h
   |true=>
    rw[hb]at h;obtain⟨rfl,rfl⟩:=Prod.mk.inj (Option.some.inj h);obtain⟨el,hu⟩:=ah9 hb;obtain⟨b,c,n,h1,h2⟩:=hy;obtain⟨vs,-,-,rfl,h3,h4,-⟩:=hi.obs ob _ _ hob h1;refine⟨_,key _ (by rw[h2];exact ak5 hu (.inr ⟨_,_,_,_,rfl,rfl⟩)),Rd.imm _ (af5 (k:=.i64) ?_)⟩;simp only[inR];omega
  ·rename_i e size xs hob
   cases hb:af9 C.E t with
   |false=>rw[hb]at h;cases h
   |true=>
    rw[hb]at h;obtain⟨rfl,rfl⟩:=Prod.mk.inj (Option.some.inj h);obtain⟨el,hu⟩:=ah9 hb;obtain⟨b,c,n,h1,h2⟩:=hy;obtain⟨vs,-,-,rfl,h3,h4,-⟩:=hi.obs ob _ _ hob h1;refine⟨_,key _ (by rw[h2];exact ak5 hu (.inr ⟨_,_,_,_,rfl,rfl⟩)),Rd.imm _ (af5 (k:=.i64) ?_)⟩;simp only[inR];omega
  ·cases h
 ·rename_i o lo n z
  cases hb:af9 C.E t with
  |false=>rw[hb]at h;cases h
  |true=>
   rw[hb]at h;obtain⟨rfl,rfl⟩:=Prod.mk.inj (Option.some.inj h);obtain⟨el,hu⟩:=ah9 hb;obtain⟨b,c,m,h1,ad,⟨-,h3,-⟩,h2⟩:=hy;refine⟨_,key _ (by rw[h2];exact ak5 hu (.inr ⟨_,_,_,_,rfl,rfl⟩)),Rd.imm _ (af5 (k:=.i64) ?_)⟩;simp only[inR];omega
 ·cases h
theorem ak6{P:Program}{w:World}{k:IntKind}{i:Int}{y:Nat}{code:BoundsCode}(h:0≤i∧i≤y):(Instr.sliceBound (.int k i) y code).run P w=.ok i.toNat w:=by
 simp[Instr.sliceBound,asIntOf,h]
theorem ak7{w:World}{F:Nat→Prop}{ad:Addr}{cap:Nat}(h:cap≤maxLen):Rd w F (.sl []) (.slice (some ad) 0 cap):=
 Rd.sl 0 [] ad cap (fun _ _=>undef) (ga8 _) h (fun h=>absurd rfl h) (fun x h=>by cases h) (fun x h=>by cases h) (fun i x j c h=>by cases h) (fun i x j c h=>by cases h)
theorem ak8{w:World}{F:Nat→Prop}{xs:List D}{ad:Addr}{cap:Nat}(h:Rd w F (.sl xs) (.slice (some ad) xs.length cap))(sz l hh:Nat)(hl:l≤hh)(hx:hh≤xs.length)(hc:hh≤cap)
  (hsz:∀x∈xs,x.cells.length=sz):Rd w F (.sl ((xs.take hh).drop l)) (.slice (some (if cap=l then ad else ad.add (l*sz))) (hh-l) (cap-l)):=by
 rcases Rd.sl_inv h with⟨_,h0⟩|⟨size,ad',cap',h0,h1,h2,h3,h4,h5,h6⟩
 ·cases h0
 ·cases h0
  have hget:∀(i:Nat) x,((xs.take hh).drop l)[i]? =some x→xs[l+i]? =some x∧l+i<hh:=by
   intro i x hi;rw[ge4,ga5]at hi;split at hi
   ·exact⟨hi,‹_›⟩
   ·cases hi
  have hlen:((xs.take hh).drop l).length=hh-l:=by
   rw[gf4,gb6];omega
  have hex:∀i j,∃u,∀x c,xs[l+i]? =some x→x.cells[j]? =some c→w.cell? (ad.add ((l+i)*size+j))=some u∧Rd w F c u:=by
   intro i j
   by_cases hq:∃x c,xs[l+i]? =some x∧x.cells[j]? =some c
   ·obtain⟨x,c,hx,hc⟩:=hq;obtain⟨u,hu⟩:=h6 _ x j c hx hc;exact⟨u,fun x' c' h1 h2=>by rw[hx]at h1;cases h1;rw[hc]at h2;cases h2;exact hu⟩
   ·exact⟨undef,fun x c h1 h2=>absurd ⟨x,c,h1,h2⟩ hq⟩
  let u:Nat→Nat→Value:=fun i j=>Classical.choose (hex i j)
  have hu:∀i j x c,xs[l+i]? =some x→x.cells[j]? =some c→w.cell? (ad.add ((l+i)*size+j))=some (u i j)∧Rd w F c (u i j):=fun i j=>Classical.choose_spec (hex i j)
  by_cases hnil:(xs.take hh).drop l=[]
  ·have hz:hh-l=0:=by rw[←hlen,hnil];rfl
   rw[hnil,hz];exact ak7 Oa
  ·have hlt:l<hh:=by
    rcases fy5 l hh with h|h
    ·exact h
    ·exfalso;apply hnil;apply gf1;omega
   have hsize:sz=size:=by
    have hm:xs[l]'Oa∈xs:=gf2 _;rw[←hsz _ hm,h4 _ hm]
   subst hsize;rw[if_neg Oa,←hlen];refine Rd.sl sz _ _ _ u (by rw[hlen];omega) Oa (fun _=>?_) (fun x hx=>h4 x (gg6 (gi2 hx))) (fun x hx=>h5 x (gg6 (gi2 hx))) (fun i x j c hx hc=>?_) fun i x j c hx hc=>?_
   ·rw[aa0];refine h3 fun e=>?_
    subst e;simp at hx;omega
   ·rw[aa1,←Nat.add_assoc,←gf5];exact(hu i j x c (hget i x hx).1 hc).1
   ·exact(hu i j x c (hget i x hx).1 hc).2
theorem ak9{P:Program}{w:World}{t e:TypeId}{te:TE}{ad:Addr}{n cap l h:Nat}{lo hi:Option Value}(hu:P.underlying t=some (.slice e))(ht:te.ok P)(he:te.t=e)
  (hb:(Instr.sliceBounds true n cap lo hi none).run P w=.ok (l,h,cap) w):
  (Instr.sliceAt t (.slice (some ad) n cap) lo hi none).run P w=.ok (.slice (some (if cap=l then ad else ad.add (l*te.size))) (h-l) (cap-l)) w:=by
 subst he;simp only[Instr.sliceAt,Sem.run_bind,run_underlying hu,Result.andThen_ok,Instr.slice,hb,aj5 ht]
 by_cases hc:cap=l<;>simp[hc]
theorem al0{P:Program}{w:World}{t e:TypeId}{te:TE}{lo hi:Option Value}(hu:P.underlying t=some (.slice e))(ht:te.ok P)(he:te.t=e)
  (hb:(Instr.sliceBounds true 0 0 lo hi none).run P w=.ok (0,0,0) w):
  (Instr.sliceAt t (.slice none 0 0) lo hi none).run P w=.ok (.slice none 0 0) w:=by
 subst he;simp[Instr.sliceAt,run_underlying hu,Instr.slice,hb,aj5 ht]
theorem al1{P:Program}{w:World}{t:TypeId}{b:ByteArray}{l h m:Nat}{lo hi:Option Value}(hu:P.underlying t=some .string)
  (hb:(Instr.sliceBounds false b.size b.size lo hi none).run P w=.ok (l,h,m) w):
  (Instr.sliceAt t (.string b) lo hi none).run P w=.ok (.string (b.extract l h)) w:=by
 simp[Instr.sliceAt,run_underlying hu,Instr.slice,hb]
def al2(E:Env)(t:TypeId):Option TE:=match aa8 E.T t with|some e=>(match e.desc with|.slice el=>aa8 E.T el|_=>none)|none=>none
theorem al3{E:Env}{t:TypeId}{te:TE}(h:al2 E t=some te):E.P.underlying t=some (.slice te.t)∧te.ok E.P:=by
 unfold al2 at h;split at h
 ·rename_i e he
  split at h
  ·rename_i el hd
   obtain⟨⟨h1,-⟩,rfl⟩:=ab0 he;obtain⟨h2,rfl⟩:=ab0 h;exact⟨by rw[h1,hd],h2⟩
  ·cases h
 ·cases h
theorem al4{b:ByteArray}{l h:Nat}:(b.extract l h).size≤b.size:=by
 rw[ByteArray.size_extract];omega
theorem al5{t:TypeId}{y:Operand}{lo hi:Option Operand}(ho:o.op=.slice t y lo hi none)(hel:∀xs,s.ev C.E y=.d (.sl xs)→∃te,al2 C.E t=some te∧∀x∈xs,x.cells.length=te.size)
  (h:ag8 C.E t (s.ev C.E y) (lo.map (s.ev C.E)) (hi.map (s.ev C.E))=some (p,x))(hp:p):VOp C s o x:=by
 refine VOp.pure_ fun F σ w a hi' hr=>?_
 have hy:=hr y (by simp[ho,Op.operands]);have hlo:∀z,lo=some z→RdX w F σ (s.ev C.E z) (a.eval z):=fun z hz=>hr z (by simp[ho,Op.operands,hz])
 have hhi:∀z,hi=some z→RdX w F σ (s.ev C.E z) (a.eval z):=fun z hz=>hr z (by simp[ho,Op.operands,hz])
 have key:∀v,(Instr.sliceAt t (a.eval y) (lo.map a.eval) (hi.map a.eval) none).run C.E.P w=.ok v w→(execOp a.eval o).run C.E.P w=.ok (.value v) w:=by
  intro v hv;simp[execOp,ho,hv]
 -- the bounds
 have hbd:∀{q:Option Operand} {u:X},(∀z,q=some z→RdX w F σ (s.ev C.E z) (a.eval z))→q.map (s.ev C.E)=some u→∀k i,u=.d (.imm (.int k i))→q.map a.eval=some (.int k i):=by
  intro q u hq hu k i he
  cases q with
  |none=>cases hu
  |some z=>
   simp at hu;have:=hq z rfl;rw[hu,he]at this;simp[this.imm_inv.1]
 have hbn:∀{q:Option Operand},q.map (s.ev C.E)=none→q.map a.eval=none:=by
  intro q hq
  cases q with
  |none=>rfl
  |some z=>cases hq
 generalize hyy:s.ev C.E y=xy at*;unfold ag8 at h;split at h
 ·rename_i b
  obtain⟨e1,hk⟩:=Rd.imm_inv hy;have hks:b.size≤maxLen:=by simpa[okV]using hk
  have fin:∀l h,okV (.string (b.extract l h))=true:=fun l h=>by
   have:=al4 (b:=b) (l:=l) (h:=h);simp only[okV,decide_eq_true_eq];omega
  cases hb:ag6 C.E t with
  |false=>rw[hb]at h;cases h
  |true=>
   have hu:=ah8 hb;rw[hb]at h;simp only[cond_true]at h;split at h
   ·rename_i k i h1 h2
    obtain⟨rfl,rfl⟩:=Prod.mk.inj (Option.some.inj h);refine⟨_,key _ ?_,Rd.imm _ (fin _ _)⟩;rw[e1,hbn h1,hbd hhi h2 _ _ rfl];refine al1 (m:=b.size) hu ?_;simp[Instr.sliceBounds,ak6 hp]
   ·rename_i k i h1 h2
    obtain⟨rfl,rfl⟩:=Prod.mk.inj (Option.some.inj h);refine⟨_,key _ ?_,Rd.imm _ (fin _ _)⟩;rw[e1,hbn h2,hbd hlo h1 _ _ rfl];refine al1 (m:=b.size) hu ?_;simp[Instr.sliceBounds,ak6 hp]
   ·rename_i k i k' j h1 h2
    obtain⟨rfl,rfl⟩:=Prod.mk.inj (Option.some.inj h);obtain⟨p1,p2,p3⟩:=hp;refine⟨_,key _ ?_,Rd.imm _ (fin _ _)⟩;rw[e1,hbd hlo h1 _ _ rfl,hbd hhi h2 _ _ rfl];refine al1 (m:=b.size) hu ?_;have hj:0≤j∧j≤(b.size:Int):=⟨by omega,p3⟩;have hi2:0≤i∧i≤(j.toNat:Int):=⟨p1,by omega⟩;simp[Instr.sliceBounds,ak6 hj,ak6 hi2]
   ·cases h
 ·rename_i xs
  obtain⟨te,hte,hsz⟩:=hel xs rfl;obtain⟨hu,hok⟩:=al3 hte
  cases hb:af9 C.E t with
  |false=>rw[hb]at h;cases h
  |true=>
   rw[hb]at h;simp only[cond_true]at h
   -- whatever the bounds come to
   have fin:∀(l hh:Nat),l≤hh→hh≤xs.length→(∀cap,xs.length≤cap→(Instr.sliceBounds true xs.length cap (lo.map a.eval) (hi.map a.eval) none).run C.E.P w=.ok (l,hh,cap) w)→
     ∃v,(execOp a.eval o).run C.E.P w=.ok (.value v) w∧RdX w F σ (.d (.sl ((xs.take hh).drop l))) v:=by
    intro l hh hl hx hbs;rcases Rd.sl_inv hy with⟨rfl,hev⟩|⟨_,ad,cap,hev,h1,h2,-⟩
    ·simp at hx;subst hx;obtain rfl:l=0:=by omega
     refine⟨.slice none 0 0,key _ ?_,Rd.slnil⟩;rw[hev];exact al0 hu hok rfl (hbs 0 (fz6 _))
    ·refine⟨_,key _ ?_,ak8 (hev ▸ hy) te.size l hh hl hx Oa hsz⟩;rw[hev];exact ak9 hu hok rfl (hbs cap h1)
   split at h
   ·rename_i k i h1 h2
    obtain⟨rfl,rfl⟩:=Prod.mk.inj (Option.some.inj h)
    have:=fin 0 i.toNat (ga8 _) Oa fun cap hcap=>by
     have hj:0≤i∧i≤(cap:Int):=⟨hp.1,by omega⟩;rw[hbn h1,hbd hhi h2 _ _ rfl];simp[Instr.sliceBounds,ak6 hj]
    simpa using this
   ·rename_i k i h1 h2
    obtain⟨rfl,rfl⟩:=Prod.mk.inj (Option.some.inj h)
    have:=fin i.toNat xs.length Oa (fz6 _) fun cap hcap=>by
     rw[hbn h2,hbd hlo h1 _ _ rfl];simp[Instr.sliceBounds,ak6 hp]
    simpa using this
   ·rename_i k i k' j h1 h2
    obtain⟨rfl,rfl⟩:=Prod.mk.inj (Option.some.inj h);obtain⟨p1,p2,p3⟩:=hp
    exact fin i.toNat j.toNat Oa Oa fun cap hcap=>by
     have hj:0≤j∧j≤(cap:Int):=⟨by omega,by omega⟩;have hi2:0≤i∧i≤(j.toNat:Int):=⟨p1,by omega⟩;rw[hbd hlo h1 _ _ rfl,hbd hhi h2 _ _ rfl];simp[Instr.sliceBounds,ak6 hj,ak6 hi2]
   ·cases h
 ·cases h
theorem al6{y z:Operand}{t u:TypeId}(mx:Bool)(ho:o.op=.call {callee:=.builtin (bif mx then .max else .min),args:= #[y,z],argTypes:= #[t,u]})(h:minX mx (s.ev C.E y) (s.ev C.E z)=some (p,x))(hp:p):VOp C s o x:=by
 refine VOp.pure_ fun F σ w a hi hr=>?_
 have hy:=hr y (by simp[ho,Op.operands,Call.operands]);have hz:=hr z (by simp[ho,Op.operands,Call.operands]);generalize s.ev C.E y=xy at*;generalize s.ev C.E z=xz at*;unfold minX at h;split at h
 ·rename_i k m k' n
  obtain⟨e1,hk⟩:=Rd.imm_inv hy;obtain⟨e2,-⟩:=Rd.imm_inv hz;obtain⟨rfl,rfl⟩:=Prod.mk.inj (Option.some.inj h);have hm:=af6 hk
  cases mx with
  |true=>
   refine⟨.int k (max m n),?_,Rd.imm _ (af5 ?_)⟩
   ·have e:(if m<n then n else m)=max m n:=by omega
    simp[execOp,ho,resolve,invoke,builtin,e1,e2,Builtin.max_,Builtin.max2,e]
   ·rcases Int.le_total m n with h|h
    ·simpa[Int.max_eq_right h]using hp
    ·simpa[Int.max_eq_left h]using hm
  |false=>
   refine⟨.int k (min m n),?_,Rd.imm _ (af5 ?_)⟩
   ·have e:(if n<m then n else m)=min m n:=by omega
    simp[execOp,ho,resolve,invoke,builtin,e1,e2,Builtin.min_,Builtin.min2,e]
   ·rcases Int.le_total m n with h|h
    ·simpa[Int.min_eq_left h]using hm
    ·simpa[Int.min_eq_right h]using hp
 ·cases h
theorem al7{y:Operand}{k:Nat}{xs:List D}{d:D}(ho:o.op=.extract y k)(hy':s.ev C.E y=.tup xs)(hx:xs[k]? =some d):VOp C s o (.d d):=by
 refine VOp.pure_ fun F σ w a hi hr=>?_
 have hy:=hr y (by simp[ho,Op.operands]);rw[hy']at hy;obtain⟨vs,e1,hl,h2⟩:=hy;have hlt:k<vs.length:=by rw[←hl];exact(fy9.1 hx).1
 refine⟨vs[k],?_,h2 k d _ hx (fy4 hlt)⟩;simp[execOp,ho,e1,Instr.extract,hlt]
end
end Go.Abs
namespace Go.Abs
open Go Go.RowKit
def al8:List Value→Bool
 |[]=>true
 |v::r=>v.oneCell'&&al8 r
theorem al9:∀{l:List Value},al8 l=true→∀v∈l,v.oneCell'=true
 |[],_,v,hv=>by simp at hv
 |u::r,h,v,hv=>by
  simp only[al8,fz4]at h;rcases fz0.1 hv with e|e
  ·rw[e];exact h.1
  ·exact al9 h.2 v e
theorem am0{w:World}{o:Obj}:(w.alloc o).heap[w.heap.size]? =some o:=by
 show(w.heap.push o)[w.heap.size]? =_;simp
theorem am1(w:World)(o:Obj):Below w.heap.size w (w.alloc o):=⟨rfl,rfl,rfl,by simp,fun k hk=>Below.heap_alloc w o k hk⟩
theorem am2{w:World}{F:Nat→Prop}(o:Obj)(hF:∀b,F b→b<w.heap.size):Ext w F (w.alloc o) F:=Ext.of_below (am1 w o) hF
theorem σ_app{σ:Sg}{p:Nat × Nat × Nat}:∀(o:Nat) q,σ[o]? =some q→(σ++ [p])[o]? =some q:=by
 intro o q h;rw[ga0 (fy9.1 h).1];exact h
theorem ab2.add{E:Env}{B:ab1}{F:Nat→Prop}{σ:Sg}{ob:List aa5}{w:World}(h:ab2 E B F σ ob w)(o:Obj)(x:aa5)(c n:Nat)
  (hx:aa6 (w.alloc o) F (σ++ [(w.heap.size,c,n)]) B.O x (w.heap.size,c,n)):ab2 E B F (σ++ [(w.heap.size,c,n)]) (ob++ [x]) (w.alloc o):=by
 have he:=am2 (F:=F) o h.flt;have h':=h.ext he;refine⟨h'.flt,h'.glob,by simp[h.len],fun k y p hy hp=>?_,fun k k' y y' p p' hne hy hl hy' hl' hp hp'=>?_,fun i p hp hq=>σ_app _ _ (h.pre i p hp hq)⟩
 ·rcases fy5 k ob.length with hlt|hge
  ·rw[ga0 hlt]at hy;rw[ga0 (by rw[h.len];exact hlt)]at hp;exact(h'.obs k y p hy hp).mono (fun _ h=>h) (fun _ _=>rfl) σ_app (fun _=>rfl) (fun _ h=>h)
  ·rw[ga7 hge]at hy;rw[ga7 (by rw[h.len];exact hge),h.len]at hp
   have hk:k-ob.length=0:=by
    rcases gh7 (k-ob.length)with h0|h0
    ·exact h0
    ·rw[gc5 Og]at hy;cases hy
   rw[hk]at hy hp;simp at hy hp;subst hy hp;exact hx
 ·have key:∀k y p,(ob++ [x])[k]? =some y→y.live=true→(σ++ [(w.heap.size,c,n)])[k]? =some p→(k<ob.length∧ob[k]? =some y∧σ[k]? =some p∧p.1<w.heap.size)∨(k=ob.length∧p.1=w.heap.size):=by
   intro k y p hy hl hp;rcases fy5 k ob.length with hlt|hge
   ·rw[ga0 hlt]at hy;rw[ga0 (by rw[h.len];exact hlt)]at hp;exact .inl ⟨hlt,hy,hp,(h.obs k y p hy hp).lt hl⟩
   ·rw[ga7 hge]at hy;rw[ga7 (by rw[h.len];exact hge),h.len]at hp
    have hk:k-ob.length=0:=by
     rcases gh7 (k-ob.length)with h0|h0
     ·exact h0
     ·rw[gc5 Og]at hy;cases hy
    rw[hk]at hp;simp at hp;subst hp;exact .inr ⟨by omega,rfl⟩
  rcases key k y p hy hl hp with⟨a1,a2,a3,a4⟩|⟨a1,a2⟩<;>rcases key k' y' p' hy' hl' hp' with⟨b1,b2,b3,b4⟩|⟨b1,b2⟩
  ·exact h.inj k k' y y' p p' hne a2 hl b2 hl' a3 b3
  ·omega
  ·omega
  ·omega
def St.add(s:St)(dst:Option Tmp)(x:aa5)(y:X):St:=St.put {s with ob:=s.ob++ [x]} dst y
theorem am3{C:Cx}{s:St}{a:Act}{w:World}{F:Nat→Prop}{σ:Sg}{o:Oper}{y:X}{v:Value}{ob:Obj}{x:aa5}{c n:Nat}
  (h1:aa7 C.O C.w0 w)(h2:∀b,C.F0 b→F b)(h3:∀b,F b→C.F0 b∨ ¬ C.O b)(hi:ab2 C.E C.base F σ s.ob w)
  (h4:a.defers=[])(h5:a.tmps.size=C.N)(hs:∀t,RdX w F σ (lk s.tm t) (a.tmps.getD t undef))(hd:ac9 C o=true)
  (hx:aa6 (w.alloc ob) F (σ++ [(w.heap.size,c,n)]) C.O x (w.heap.size,c,n))(hv:RdX (w.alloc ob) F (σ++ [(w.heap.size,c,n)]) y v):
  C.Rel (s.add o.dst x y) (a.put o.dst v) (w.alloc ob):=by
 have he:=am2 (F:=F) ob hi.flt;refine⟨F,σ++ [(w.heap.size,c,n)],h1.step he.below,h2,h3,?_,by rw[Act.put_def];exact h4,by rw[Act.put_size];exact h5,?_⟩
 ·unfold St.add;rw[St.put_ob];exact hi.add ob x c n hx
 ·unfold St.add;exact ab7 (N:=C.N) (s:={s with ob:=s.ob++ [x]}) (fun t=>((hs t).ext he hi.flt).mono (fun _ h=>h) (fun _ _=>rfl) σ_app) h5 (ad1 hd) fun _=>hv
def X.held:X→Bool
 |.d _|.nilS|.ptr _ _|.at_ _ _|.own _|.pel _ _ _ _|.sub _ _ _ _|.clo _ _|.bnd _ _|.mp _=>true
 |_=>false
theorem RdX.cells_{w:World}{F:Nat→Prop}{σ:Sg}{x:X}{v:Value}(h:RdX w F σ x v)(hx:x.held=true):
  v.cells.size=x.cells.length∧(∀u∈v.cells.toList,u.oneCell'=true)∧∀(i:Nat) y u,x.cells[i]? =some y→v.cells.toList[i]? =some u→RdX w F σ y u:=by
 have one:v.oneCell'=true→x.cells=[x]→v.cells.size=x.cells.length∧(∀u∈v.cells.toList,u.oneCell'=true)∧∀(i:Nat) y u,x.cells[i]? =some y→v.cells.toList[i]? =some u→RdX w F σ y u:=by
  intro hv hc;have hvc:v.cells= #[v]:=by cases v<;>simp_all [Value.oneCell',Value.cells]
  rw[hvc,hc];refine⟨rfl,by simpa using hv,?_⟩;intro i y u hy hu
  cases i with
  |zero=>simp at hy hu;subst hy hu;exact h
  |succ i=>simp at hy
 cases x with
 |d d=>
  obtain⟨a1,a2,a3⟩:=Rd.cells h;refine⟨by simp[X.cells,a1],fun u hu=>?_,fun i y u hy hu=>?_⟩
  ·obtain⟨i,hi⟩:=ga9 hu;have hlt:i<d.cells.length:=by rw[←a1];simpa using(fy9.1 hi).1
   have hc:=fy4 hlt;exact(a2 i _ u hc (by simpa using hi)).one (a3 _ (gf2 hlt))
  ·simp only[X.cells,fz1,fz9]at hy;obtain⟨c,hc,rfl⟩:=hy;exact a2 i c u hc (by simpa using hu)
 |nilS=>exact one (by rw[show v=_ from h];rfl) rfl
 |ptr o k=>obtain⟨b,c,n,-,rfl⟩:=h;exact one rfl rfl
 |at_ y k=>obtain⟨ad,-,rfl⟩:=h;exact one rfl rfl
 |own o=>obtain⟨b,c,n,-,rfl⟩:=h;exact one rfl rfl
 |pel o i k z=>obtain⟨b,c,n,-,rfl⟩:=h;exact one rfl rfl
 |sub o i k z=>obtain⟨b,c,n,-,ad,-,rfl⟩:=h;exact one rfl rfl
 |clo f cs=>obtain⟨us,rfl,-⟩:=h;exact one rfl rfl
 |bnd f cs=>obtain⟨us,rfl,-⟩:=h;exact one rfl rfl
 |mp o=>obtain⟨b,c,n,-,rfl⟩:=h;exact one rfl rfl
 |_=>simp[X.held]at hx
section
variable{C:Cx}{s:St}{o:Oper}{x:X}
theorem am4{t:TypeId}{y:Operand}(ho:o.op=.box t y)(hx:s.ev C.E y=x)(hh:x.held=true)(hd:ac9 C o=true):SOp C s o (s.add o.dst (.var t (.w x)) (.ptr s.ob.length 0)):=by
 rintro w a K Q ⟨F,σ,h1,h2,h3,hi,h4,h5,hs⟩ hK;have hv:=ab6 (E:=C.E) hi hs y;rw[hx]at hv
 have hrun:(execOp a.eval o).run C.E.P w=.ok (.value (.pointer (some ⟨w.heap.size,0,none⟩))) (w.alloc (.cells (a.eval y).cells t)):=by
  simp[execOp,ho,Instr.box,newVar,newRow]
 unfold Oper.wp;rw[hrun];have he:=am2 (F:=F) (.cells (a.eval y).cells t) hi.flt;have hv':RdX (w.alloc (.cells (a.eval y).cells t)) F (σ++ [(w.heap.size,0,0)]) x (a.eval y):=(hv.ext he hi.flt).mono (fun _ h=>h) (fun _ _=>rfl) σ_app;obtain⟨c1,c2,c3⟩:=hv'.cells_ hh;refine hK _ _ (am3 h1 h2 h3 hi h4 h5 hs hd (x:=.var t (.w x)) (c:=0) (n:=0) ⟨(a.eval y).cells.toList,by simpa using am0,by simpa[VC.cells]using c1.symm,c2,c3,h1.new (fz6 _),fun hf=>?_⟩ ⟨w.heap.size,0,0,?_,rfl⟩)
 ·exact absurd (hi.flt _ hf) (gg9 _)
 ·rw[←hi.len];simp
theorem am5{P:Program}{e:TE}{w:World}(h:e.ok P):(zeroValue e.t).run P w=.ok e.zero w:=by
 obtain⟨_,i,hi,_,_,hz⟩:=h;simp[zeroValue,typeInfo,hi,hz]
theorem am6{t:TypeId}{e:TE}(ho:o.op=.alloc t)(he:aa8 C.E.T t=some e)(h1z:al8 e.zero.cells.toList=true)(hd:ac9 C o=true):
  SOp C s o (s.add o.dst (.var t (.cs (e.zero.cells.toList.map ab3))) (.ptr s.ob.length 0)):=by
 obtain⟨hok,rfl⟩:=ab0 he;rintro w a K Q ⟨F,σ,h1,h2,h3,hi,h4,h5,hs⟩ hK
 have hrun:(execOp a.eval o).run C.E.P w=.ok (.value (.pointer (some ⟨w.heap.size,0,none⟩))) (w.alloc (.cells e.zero.cells e.t)):=by
  simp[execOp,ho,Instr.alloc,am5 hok,newVar,newRow]
 unfold Oper.wp;rw[hrun];refine hK _ _ (am3 h1 h2 h3 hi h4 h5 hs hd (x:=.var e.t (.cs (e.zero.cells.toList.map ab3))) (c:=0) (n:=0) ⟨e.zero.cells.toList,by simpa using am0,by simp[VC.cells],fun v hv=>?_,fun i y u hy hu=>?_,h1.new (fz6 _),fun hf=>?_⟩ ⟨w.heap.size,0,0,?_,rfl⟩)
 ·exact al9 h1z v hv
 ·simp only[VC.cells,fz1,fz9]at hy;obtain⟨c,hc,rfl⟩:=hy;rw[hu]at hc
  cases hc
  exact ab4 _
 ·exact absurd (hi.flt _ hf) (gg9 _)
 ·rw[←hi.len];simp
def am7:List X→Nat→List X→List X
 |cs,_,[]=>cs
 |cs,k,d::r=>am7 (cs.set k d) (k+1) r
def am8(c:VC)(off:Nat)(x:X):VC:=
 bif Nat.beq off 0&&Nat.beq x.cells.length c.cells.length then .w x else .cs (am7 c.cells off x.cells)
theorem am9:∀(r cs:List X) (k:Nat),k+r.length≤cs.length→am7 cs k r=cs.take k++r++cs.drop (k+r.length)
 |[],cs,k,_=>by simp[am7]
 |d::r,cs,k,h=>by
  simp only[am7];simp only[fy7]at h;rw[am9 r (cs.set k d) (k+1) Og];have hk:k<cs.length:=Oa
  have e1:(cs.set k d).take (k+1)=cs.take k++ [d]:=by
   rw[gi7 Og,List.take_set_of_le (fz6 _)];simp
  have e2:(cs.set k d).drop (k+1+r.length)=cs.drop (k+(d::r).length):=by
   rw[List.drop_set_of_lt Oa];simp only[fy7];congr 1;omega
  rw[e1,e2];simp
theorem an1{c:VC}{off:Nat}{x:X}(h:off+x.cells.length≤c.cells.length):(am8 c off x).cells=c.cells.take off++x.cells++c.cells.drop (off+x.cells.length):=by
 unfold am8
 cases hb:Nat.beq off 0&&Nat.beq x.cells.length c.cells.length with
 |true=>
  rw[fz4]at hb;have h1:=fz8 hb.1;have h2:=fz8 hb.2;subst h1;simp[VC.cells,h2]
 |false=>simp only[cond_false,VC.cells];exact am9 _ _ _ h
theorem an2(w:World)(b:Nat)(cs:Array Value):(w.setRow b cs).heap.size=w.heap.size:=by simp[World.setRow]
theorem an3(w:World)(b:Nat)(cs:Array Value)(k:Nat)(h:k≠b):(w.setRow b cs).heap[k]? =w.heap[k]? :=by
 simp only[World.setRow,Array.getElem?_modify];rw[if_neg (fun e=>h e.symm)]
theorem aa7.setRow{O:Nat→Prop}{a w:World}(h:aa7 O a w){b:Nat}(hb: ¬ O b)(cs:Array Value):aa7 O a (w.setRow b cs):=
 ⟨h.os,h.tape,h.output,by rw[an2];exact h.size,fun k hk=>(an3 w b cs k fun e=>hb (e ▸ hk)).trans (h.block k hk),h.old⟩
theorem ab2.turn{E:Env}{B:ab1}{F:Nat→Prop}{σ:Sg}{ob:List aa5}{w:World}{i b c n:Nat}{x y:aa5}(h:ab2 E B F σ ob w)(hx:ob[i]? =some x)(hl:x.live=true)(hσ:σ[i]? =some (b,c,n))(hF: ¬ F b)
  {cs:Array Value}(hy:aa6 (w.setRow b cs) F σ B.O y (b,c,n)):ab2 E B F σ (ob.set i y) (w.setRow b cs):=by
 have keep:∀k,F k→(w.setRow b cs).heap[k]? =w.heap[k]? :=fun k hk=>an3 w b cs k (fun e=>hF (e ▸ hk))
 refine⟨fun k hk=>by rw[an2];exact h.flt k hk,h.glob.mono (fun _ h=>h) keep,by simp[h.len],fun k z p hz hp=>?_,fun k k' z z' p p' hne hz hzl hz' hzl' hp hp'=>?_,h.pre⟩
 ·rw[ge2]at hz;split at hz
  ·rename_i he
   subst he;split at hz
   ·cases hz
    rw[hσ]at hp
    cases hp
    exact hy
   ·cases hz
  ·rename_i he
   refine(h.obs k z p hz hp).mono (fun _ h=>h) keep (fun _ _ h=>h) (fun hzl=>?_) (fun _ h=>h);exact an3 w b cs p.1 (h.inj k i z x p (b,c,n) (fun e=>he e.symm) hz hzl hx hl hp hσ)
 ·have key:∀(k:Nat) (z:aa5),(ob.set i y)[k]? =some z→z.live=true→∃u:aa5,ob[k]? =some u∧u.live=true:=by
   intro k z hz hzl;rw[ge2]at hz;split at hz
   ·rename_i he;subst he;exact⟨x,hx,hl⟩
   ·exact⟨z,hz,hzl⟩
  obtain⟨u,u1,u2⟩:=key k z hz hzl;obtain⟨u',u1',u2'⟩:=key k' z' hz' hzl';exact h.inj k k' u u' p p' hne u1 u2 u1' u2' hp hp'
def St.setOb(s:St)(i:Nat)(y:aa5):St:={s with ob:=s.ob.set i y}
theorem an4{t ty:TypeId}{y z:Operand}{i off:Nat}{c:VC}{e:TE}(ho:o.op=.store t y z)(hdst:o.dst=none)(hy:s.ev C.E y=.ptr i off)(hz:s.ev C.E z=x)(hh:x.held=true)(hob:s.ob[i]? =some (.var ty c))
  (he:aa8 C.E.T t=some e)(hsz:Nat.beq x.cells.length e.size=true)(hle:Nat.ble (off+x.cells.length) c.cells.length=true):SOp C s o (s.setOb i (.var ty (am8 c off x))):=by
 obtain⟨hok,rfl⟩:=ab0 he;have hsz':=fz8 hsz;have hle':=gc0 hle;rintro w a K Q ⟨F,σ,h1,h2,h3,hi,h4,h5,hs⟩ hK;have hv:=ab6 (E:=C.E) hi hs z;rw[hz]at hv;have hp:=ab6 (E:=C.E) hi hs y;rw[hy]at hp;obtain⟨b,cc,n,p1,p2⟩:=hp;obtain⟨vs,q1,q2,q3,q4,q5,q6⟩:=hi.obs i _ _ hob p1;obtain⟨c1,c2,c3⟩:=hv.cells_ hh;have hrow:=run_storeCells_at C.E.P b off ty (a.eval z).cells.toList 0 vs.toArray w q1 Og c2
 have hrun:(execOp a.eval o).run C.E.P w=.ok .skip (w.setRow b (vs.take off++(a.eval z).cells.toList++vs.drop (off+(a.eval z).cells.toList.length)).toArray):=by
  simp only[execOp,ho,Instr.storeAt,p2,Instr.sureAddr,storeVar,Sem.run_bind,Sem.run_pure,Result.andThen_ok,aj5 hok];rw[if_neg (by rw[c1,hsz'];simp)];simp only[gd2]at hrow;rw[hrow];rfl
 unfold Oper.wp;rw[hrun];simp only[Oper.upon];rw[hdst];refine hK _ _ ⟨F,σ,?_,h2,h3,?_,h4,h5,fun t=>?_⟩
 ·exact h1.setRow q5 _
 ·refine hi.turn hob rfl p1 q6 ?_;have keep:∀k,F k→(w.setRow b (vs.take off++(a.eval z).cells.toList++vs.drop (off+(a.eval z).cells.toList.length)).toArray).heap[k]? =w.heap[k]? :=fun k hk=>an3 w b _ k (fun e=>q6 (e ▸ hk))
  refine⟨_,setRow_heap w b vs.toArray _ ty _ q1,?_,fun v hv=>?_,fun j xj v hj hvj=>?_,q5,q6⟩
  ·rw[an1 hle'];simp only[fy8,gb6,gf4,q2,gh0,c1]
  ·rw[gb2,gb2]at hv;rcases hv with(hv|hv)|hv
   ·exact q3 v (gg6 hv)
   ·exact c2 v hv
   ·exact q3 v (gi2 hv)
  ·rw[an1 hle']at hj;refine RdX.mono ?_ (fun _ h=>h) keep (fun _ _ h=>h);have hcl:(a.eval z).cells.toList.length=x.cells.length:=by simp[c1]
   rw[hcl]at hvj;rcases fy5 j off with hlt|hge
   ·have h1:(c.cells.take off).length=off:=by rw[gb6];omega
    have h2:(vs.take off).length=off:=by rw[gb6,←q2];omega
    rw[fz5,ga0 Oa,ga5,if_pos hlt]at hj;rw[fz5,ga0 Oa,ga5,if_pos hlt]at hvj;exact q4 j xj v hj hvj
   ·have h1:(c.cells.take off).length=off:=by rw[gb6];omega
    have h2:(vs.take off).length=off:=by rw[gb6,←q2];omega
    rw[fz5,ga7 Oa,h1]at hj;rw[fz5,ga7 Oa,h2]at hvj;rcases fy5 (j-off) x.cells.length with hlt|hge2
    ·rw[ga0 hlt]at hj;rw[ga0 Oa]at hvj;exact c3 _ xj v hj hvj
    ·rw[ga7 hge2,ge4]at hj;rw[ga7 Oa,hcl,ge4]at hvj;exact q4 _ xj v hj hvj
 ·refine(hs t).mono (fun _ h=>h) (fun k hk=>an3 w b _ k (fun e=>q6 (e ▸ hk))) (fun _ _ h=>h)
theorem an5{t:TypeId}{y z:Operand}{xs:List D}{k:IntKind}{i:Int}{d:D}{te:TE}(ho:o.op=.indexAddr t y z)(hy':s.ev C.E y=.d (.sl xs))(hz':s.ev C.E z=.d (.imm (.int k i)))
  (hte:al2 C.E t=some te)(h0:0≤i)(hd:xs[i.toNat]? =some d)(hsz:d.cells.length=te.size):VOp C s o (.at_ d 0):=by
 obtain⟨hu,hok⟩:=al3 hte;refine VOp.pure_ fun F σ w a hi hr=>?_
 have hy:=hr y (by simp[ho,Op.operands]);have hz:=hr z (by simp[ho,Op.operands]);rw[hy']at hy;rw[hz']at hz;obtain⟨e2,-⟩:=Rd.imm_inv hz;have hlt:i.toNat<xs.length:=(fy9.1 hd).1;rcases Rd.sl_inv hy with⟨rfl,hev⟩|⟨size,ad,cap,hev,h1,h2,h3,h4,h5,h6⟩
 ·simp at hlt
 ·have hm:d∈xs:=fy6 hd;have hsize:size=te.size:=by rw[←h4 d hm,hsz]
  refine⟨.pointer (some (ad.add (i.toNat*te.size))),?_,ad.add (i.toNat*te.size),⟨?_,h5 d hm,fun j c hj=>?_⟩,by simp[Addr.add]⟩
  ·have hlt':0≤i∧i<(xs.length:Int):=⟨h0,by omega⟩;simp[execOp,ho,hev,e2,Instr.indexAt,asIntOf,run_underlying hu,hlt',aj5 hok]
  ·rw[aa0];exact h3 (fun e=>by rw[e]at hlt;simp at hlt)
  ·obtain⟨u,hu1,hu2⟩:=h6 i.toNat d j c hd hj;exact⟨u,by rw[aa1,←hsize];exact hu1,hu2⟩
end
end Go.Abs
namespace Go.Abs
open Go Go.RowKit
def Ev(E:Env)(f:FuncId)(ds:List D)(r:X):Prop:=
 ∀(w:World) (F:Nat→Prop) (vs:List Value),(∀b,F b→b<w.heap.size)→E.GI w F→vs.length=ds.length→(∀(i:Nat) d v,ds[i]? =some d→vs[i]? =some v→Rd w F d v)→
  Calls E.P f vs.toArray w fun e w'=>∃v F',e=.returned v∧Ext w F w' F'∧RdX w' F' [] r v
inductive Dat(ob:List aa5):X→D→Prop
 |d (x:D):Dat ob (.d x) x
 |nil:Dat ob .nilS (.sl [])
inductive an6(s:St)(E:Env):List Operand→List D→Prop
 |nil:an6 s E [] []
 |cons {x:Operand} {r:List Operand} {d:D} {ds:List D} (h:Dat s.ob (s.ev E x) d) (hr:an6 s E r ds):an6 s E (x::r) (d::ds)
theorem Dat.rd{ob:List aa5}{x:X}{d:D}{w:World}{F:Nat→Prop}{σ:Sg}{v:Value}(h:Dat ob x d)(hv:RdX w F σ x v):Rd w F d v:=by
 cases h with
 |d x=>exact hv
 |nil=>rw[show v=.slice none 0 0 from hv];exact .slnil
theorem an6.rd{s:St}{E:Env}{w:World}{F:Nat→Prop}{σ:Sg}{a:Act}:∀{xs:List Operand} {ds:List D},an6 s E xs ds→(∀y∈xs,RdX w F σ (s.ev E y) (a.eval y))→
  (xs.map a.eval).length=ds.length∧∀(i:Nat) d v,ds[i]? =some d→(xs.map a.eval)[i]? =some v→Rd w F d v
 |_,_,.nil,_=>⟨rfl,fun i d v h=>by simp at h⟩
 |_,_,.cons (x:=x) h hr,hall=>by
  obtain⟨h1,h2⟩:=hr.rd (w:=w) (F:=F) (σ:=σ) (a:=a) fun y hy=>hall y (by simp[hy])
  refine⟨by simpa using h1,fun i d v hd hv=>?_⟩
  cases i with
  |zero=>
   simp at hd hv;subst hd hv;exact h.rd (hall x Oc)
  |succ i=>exact h2 i d v (by simpa using hd) (by simpa using hv)
def an7(E:Env)(s:St):List Operand→Option (List D)
 |[]=>some []
 |x::r=>(match s.ev E x with
  |.d d=>(match an7 E s r with
   |some ds=>some (d::ds)
   |none=>none)
  |.nilS=>(match an7 E s r with
   |some ds=>some (.sl []::ds)
   |none=>none)
  |_=>none)
theorem an8{E:Env}{s:St}:∀{args:List Operand} {ds:List D},an7 E s args=some ds→an6 s E args ds
 |[],ds,h=>by simp only[an7]at h;cases h;exact .nil
 |x::r,ds,h=>by
  simp only[an7]at h;split at h
  ·rename_i d hd
   split at h
   ·rename_i ds' hds
    cases h
    exact .cons (hd ▸ .d _) (an8 hds)
   ·cases h
  ·rename_i hd
   split at h
   ·rename_i ds' hds
    cases h
    exact .cons (hd ▸ .nil) (an8 hds)
   ·cases h
  ·cases h
theorem RdX.lift{w:World}{F:Nat→Prop}{σ:Sg}{x:X}{v:Value}(h:RdX w F [] x v):RdX w F σ x v:=h.mono (fun _ h=>h) (fun _ _=>rfl) (fun o p h=>by simp at h)
def an9(E:Env)(f:FuncId):Prop:=∀(args:Array Value) (w:World),(callFunc f args).run E.P w=.ok (.enter f args) w
section
variable{C:Cx}{s:St}{o:Oper}{x:X}{r:List It}{Q:Exit→St→Prop}
theorem ao0{ρ:Operand→Value}{y:Operand}{args:Array Operand}{tys:Array TypeId}{ty:TypeId}{f:FuncId}{P:Program}{w:World}(h:ρ y=.func (.func f) #[] #[]):
  (do let d ←resolve ρ {callee:=.value y,args:=args,argTypes:=tys} ty;invoke d.target d.args:Sem Next).run P w=(callFunc f (args.map ρ)).run P w:=by
 simp[resolve,Deferred.ofValue,h,invoke]
theorem ao1{y:Operand}{args:List Operand}{tys:Array TypeId}{f:FuncId}{ds:List D}{rx:X}(ho:o.op=.call {callee:=.value y,args:=args.toArray,argTypes:=tys})(hf:s.ev C.E y=.d (.imm (.func (.func f) #[] #[])))
  (hb:an9 C.E f)(hd:an6 s C.E args ds)(h:Ev C.E f ds rx):VOp C s o rx:=by
 intro F σ w a K Q hi hr hK;have hy:=hr y (by simp[ho,Op.operands,Call.operands]);rw[hf]at hy;obtain⟨e1,-⟩:=Rd.imm_inv hy;obtain⟨h1,h2⟩:=hd.rd (w:=w) (F:=F) (σ:=σ) (a:=a) fun z hz=>hr z (by simp[ho,Op.operands,Call.operands,hz])
 have hrun:(execOp a.eval o).run C.E.P w=.ok (.enter f (args.map a.eval).toArray) w:=by
  simp only[execOp,ho];rw[ao0 e1];simpa using hb (args.toArray.map a.eval) w
 unfold Oper.wp;rw[hrun];refine(h w F _ hi.flt hi.glob h1 h2).mono ?_;rintro e w' ⟨v,F',rfl,he,hv⟩;exact hK v w' F' he hv.lift
def ao2(C:Cx)(fn:Func)(s:St)(rx:X):Prop:=
 ∀F σ w (a:Act),ab2 C.E C.base F σ s.ob w→(∀b,F b→C.F0 b∨ ¬ C.O b)→(∀b,C.F0 b→F b)→(∀t,RdX w F σ (lk s.tm t) (a.tmps.getD t undef))→
  ∃v F',(results fn a.tmps).run C.E.P w=.ok v w∧(∀b,F b→F' b)∧(∀b,F' b→b<w.heap.size∧(C.F0 b∨ ¬ C.O b))∧RdX w F' [] rx v
def ao3(C:Cx)(fn:Func)(rx:X):Exit→St→Prop
 |.ret,s|.normal,s=>ao2 C fn s rx
 |_,_=>False
theorem Ev.enter{E:Env}{f:FuncId}{fn:Func}{c:Code}{ds:List D}{rx:X}{N:Nat}(hf:E.P.funcs[f]? =some fn)(hb:fn.body=some c)(hN:fn.ntmps=N)(hle:ds.length≤N)
  (h:∀(w0:World) (F0 O:Nat→Prop),go ⟨E,w0,F0,N,⟨O,0,[]⟩⟩ [.code c] ⟨(List.range ds.length).zip (ds.map X.d),[]⟩ (ao3 ⟨E,w0,F0,N,⟨O,0,[]⟩⟩ fn rx)):Ev E f ds rx:=by
 intro w F vs hF hG hl hr;refine calls_of_wp hf hb ?_;have hgo:=h w F (fun k=>k<w.heap.size)
 have hlook:∀t,RdX w F [] (lk ((List.range ds.length).zip (ds.map X.d)) t) ((vs.toArray++Array.replicate (fn.ntmps-vs.toArray.size) undef).getD t undef):=by
  intro t
  have key:∀(k:Nat) (l:List D),(∀(i:Nat) d,l[i]? =some d→ds[k+i]? =some d)→RdX w F [] (lk ((List.range' k l.length).zip (l.map X.d)) t) ((vs.toArray++Array.replicate (fn.ntmps-vs.toArray.size) undef).getD t undef):=by
   intro k l
   induction l generalizing k with
   |nil=>intro _;trivial
   |cons d l ih=>
    intro hk;simp only[fy7,List.range'_succ,fz7,List.zip_cons_cons,lk]
    cases hbq:Nat.beq k t with
    |true=>
     obtain rfl:=fz8 hbq;have hd:ds[k]? =some d:=by simpa using hk 0 d rfl
     have hlt:k<vs.length:=by rw[hl];exact(fy9.1 hd).1
     have e:(vs.toArray++Array.replicate (fn.ntmps-vs.toArray.size) undef).getD k undef=vs[k]:=by
      simp[Array.getElem?_append,hlt]
     rw[e];exact hr k d _ hd (fy4 hlt)
    |false=>
     refine ih (k+1) fun i d' hi=>?_
     have:=hk (i+1) d' (by simpa using hi);rw[←this];congr 1;omega
  have:=key 0 ds fun i d hd=>by simpa using hd
  rwa[←List.range_eq_range']at this
 have hrel:Cx.Rel ⟨E,w,F,N,⟨fun k=>k<w.heap.size,0,[]⟩⟩ ⟨(List.range ds.length).zip (ds.map X.d),[]⟩ {tmps:=vs.toArray++Array.replicate (fn.ntmps-vs.toArray.size) undef,defers:=[]} w:=by
  refine⟨F,[],aa7.refl (fun _ h=>h),fun _ h=>h,fun _ h=>.inl h,⟨hF,hG,rfl,fun k x p hx=>by simp at hx,fun k k' x x' p p' _ hx=>by simp at hx,fun i p h=>absurd h (Nat.not_lt_zero _)⟩,rfl,?_,hlook⟩;simp[hN,hl];omega
 refine wp_mono (hgo _ w hrel) ?_;rintro e a' w' ⟨s',⟨F',σ,h1,h2,h3,hi,h4,h5,hs⟩,hq⟩
 have fin:ao2 ⟨E,w,F,N,⟨fun k=>k<w.heap.size,0,[]⟩⟩ fn s' rx→a'.defers=[]∧∃v,(results fn a'.tmps).run E.P w'=.ok v w'∧∃v_1 F'',Ending.returned v=.returned v_1∧Ext w F w' F''∧RdX w' F'' [] rx v_1:=by
  intro hres;obtain⟨v,F'',r1,r2,r3,r4⟩:=hres F' σ w' a' hi h3 h2 hs;exact⟨h4,v,r1,v,F'',rfl,⟨h1.below,fun b hb=>r2 b (h2 b hb),fun b hb=>(r3 b hb).2.imp id Nat.le_of_not_lt,fun b hb=>(r3 b hb).1⟩,r4⟩
 cases e with
 |normal=>exact fin hq
 |ret=>exact fin hq
 |_=>exact hq.elim
def ao4(C:Cx)(s:St):ResultVar→Option D
 |.tmp t=>toD (lk s.tm t)
 |.cell a t=>(match lk s.tm a with
  |.ptr i off=>(match ag4 C.E s.ob t (.ptr i off)with
   |some (_,x)=>toD x
   |none=>none)
  |_=>none)
theorem ao5{x:X}{d:D}{w:World}{F:Nat→Prop}{σ:Sg}{v:Value}(h:toD x=some d)(hv:RdX w F σ x v):Rd w F d v:=by
 cases x<;>simp[toD]at h
 ·subst h;exact hv
 ·subst h;rw[show v=.slice none 0 0 from hv];exact .slnil
def ao6(a:Act):ResultVar→Sem Value
 |.tmp t=>pure (a.tmps.getD t undef)
 |.cell b t=>do loadVar t (←asAddr (a.tmps.getD b undef))
theorem ao7{F:Nat→Prop}{σ:Sg}{w:World}{a:Act}{q:ResultVar}{d:D}(hi:ab2 C.E C.base F σ s.ob w)(hs:∀t,RdX w F σ (lk s.tm t) (a.tmps.getD t undef))(h:ao4 C s q=some d):
  ∃v,(ao6 a q).run C.E.P w=.ok v w∧Rd w F d v:=by
 cases q with
 |tmp t=>exact⟨_,by simp only[ao6,Sem.run_pure],ao5 h (hs t)⟩
 |cell b t=>
  simp only[ao4]at h;have hb:=hs b;split at h
  ·rename_i i off hl
   rw[hl]at hb;split at h
   ·rename_i p x hx
    obtain⟨v,h1,h2⟩:=ak1 hi hb hx;obtain⟨b',c,n,-,e⟩:=hb;refine⟨v,?_,ao5 h h2⟩;rw[e]at h1;simp only[Instr.loadAt,Instr.sureAddr,Sem.run_bind,Sem.run_pure,Result.andThen_ok]at h1;simp only[ao6,e,asAddr,Sem.run_bind,Sem.run_pure,Result.andThen_ok,h1]
   ·cases h
  ·cases h
theorem ao8(fn:Func)(a:Act):results fn a.tmps=(do let vs ←fn.results.mapM (ao6 a);pure (if h:vs.size=1 then vs[0]else .tuple vs)):=by
 unfold results;congr 1
theorem res_1{fn:Func}{q:ResultVar}{d:D}(hr:fn.results= #[q])(h:ao4 C s q=some d):ao2 C fn s (.d d):=by
 intro F σ w a hi hn hm hs;obtain⟨v,h1,h2⟩:=ao7 hi hs h;refine⟨v,F,?_,fun _ h=>h,fun b hb=>⟨hi.flt b hb,hn b hb⟩,h2⟩;rw[ao8,hr];simp[h1]
theorem res_2{fn:Func}{q q':ResultVar}{d d':D}(hr:fn.results= #[q,q'])(h:ao4 C s q=some d)(h':ao4 C s q'=some d'):ao2 C fn s (.tup [d,d']):=by
 intro F σ w a hi hn hm hs;obtain⟨v,h1,h2⟩:=ao7 hi hs h;obtain⟨v',h1',h2'⟩:=ao7 hi hs h';refine⟨.tuple #[v,v'],F,?_,fun _ h=>h,fun b hb=>⟨hi.flt b hb,hn b hb⟩,[v,v'],rfl,rfl,fun i x u hx hu=>?_⟩
 ·rw[ao8,hr];simp[h1,h1']
 ·match i with
  |0=>simp at hx hu;subst hx hu;exact h2
  |1=>simp at hx hu;subst hx hu;exact h2'
  |i+2=>simp at hx
end
end Go.Abs
namespace Go.Abs
open Go Go.RowKit
section
variable{C:Cx}{s:St}{o:Oper}{x:X}{p:Prop}
structure ao9(w:World)(F:Nat→Prop)(vs:List Value)(cs:List D):Prop where
 len:cs.length=vs.length
 one:∀v∈vs,v.oneCell'=true
 rd:∀(i:Nat) v,vs[i]? =some v→∃d,cs[i]? =some d∧Rd w F d v
theorem ap0:∀(r cs:List D) (k:Nat),k+r.length≤cs.length→ah0 cs k r=cs.take k++r++cs.drop (k+r.length)
 |[],cs,k,_=>by simp[ah0]
 |d::r,cs,k,h=>by
  simp only[ah0];simp only[fy7]at h;rw[ap0 r (cs.set k d) (k+1) Og]
  have e1:(cs.set k d).take (k+1)=cs.take k++ [d]:=by
   rw[gi7 Og,List.take_set_of_le (fz6 _)];simp
  have e2:(cs.set k d).drop (k+1+r.length)=cs.drop (k+(d::r).length):=by
   rw[List.drop_set_of_lt Oa];simp only[fy7];congr 1;omega
  rw[e1,e2];simp
theorem ap1:∀(r:List Value) (cs:Array Value) (off j:Nat),off+j+r.length≤cs.size→
  ((r.zipIdx j).foldl (fun cs (c,j)=>cs.setIfInBounds (off+j) c) cs).toList=cs.toList.take (off+j)++r++cs.toList.drop (off+j+r.length)
 |[],cs,off,j,_=>by simp
 |d::r,cs,off,j,h=>by
  simp only[fy7]at h;rw[List.zipIdx_cons,gd3,ap1 r _ off (j+1) Og];simp only[Array.toList_setIfInBounds]
  have e1:(cs.toList.set (off+j) d).take (off+(j+1))=cs.toList.take (off+j)++ [d]:=by
   rw[show off+(j+1)=(off+j)+1 from by omega,gi7 Og,List.take_set_of_le (fz6 _)];simp
  have e2:(cs.toList.set (off+j) d).drop (off+(j+1)+r.length)=cs.toList.drop (off+j+(d::r).length):=by
   rw[List.drop_set_of_lt Oa];simp only[fy7];congr 1;omega
  rw[e1,e2];simp
theorem ao9.set_{w:World}{F:Nat→Prop}{vs:List Value}{cs:List D}{v:Value}{d:D}{off:Nat}(h:ao9 w F vs cs)(hv:Rd w F d v)(hle:off+d.cells.length≤cs.length):
  ao9 w F (vs.take off++v.cells.toList++vs.drop (off+v.cells.toList.length)) (ah0 cs off d.cells):=by
 obtain⟨a1,a2,a3⟩:=hv.cells;have hl:v.cells.toList.length=d.cells.length:=by simpa using a1
 rw[ap0 _ _ _ hle];have hlen:=h.len;refine⟨?_,fun u hu=>?_,fun i u hu=>?_⟩
 ·simp only[fy8,gb6,gf4,hl,hlen]
 ·rw[gb2,gb2]at hu;rcases hu with(hu|hu)|hu
  ·exact h.one u (gg6 hu)
  ·obtain⟨i,hi⟩:=ga9 hu;have hlt:i<d.cells.length:=by rw[←hl];exact(fy9.1 hi).1
   exact(a2 i _ u (fy4 hlt) (by simpa using hi)).one (a3 _ (gf2 hlt))
  ·exact h.one u (gi2 hu)
 ·have h1:(cs.take off).length=off:=by rw[gb6];omega
  have h2:(vs.take off).length=off:=by rw[gb6];omega
  rcases fy5 i off with hlt|hge
  ·rw[fz5,ga0 Oa,ga5,if_pos hlt]at hu;rw[fz5,ga0 Oa,ga5,if_pos hlt];exact h.rd i u hu
  ·rw[fz5,ga7 Oa,h2]at hu;rw[fz5,ga7 Oa,h1];rcases fy5 (i-off) d.cells.length with hlt|hge2
   ·rw[ga0 Oa]at hu;rw[ga0 hlt];exact⟨_,fy4 hlt,a2 _ _ u (fy4 hlt) (by simpa using hu)⟩
   ·rw[ga7 Oa,hl,ge4]at hu;rw[ga7 hge2,ge4];exact h.rd _ u hu
theorem ap2{E:Env}{fs:Array Field}{w:World}{F:Nat→Prop}{σ:Sg}{a:Act}{places:Array (Nat × Nat)}(hpl:∀(i off size:Nat),ag9 E fs i=some (off,size)→places[i]? =some (off,size)):
  ∀(parts:List (Nat × Operand)) (vs:Array Value) (cs cs':List D),(∀q∈parts,RdX w F σ (s.ev E q.2) (a.eval q.2))→ao9 w F vs.toList cs→ah1 E fs s parts cs=some cs'→
   ∃vs',Instr.fill (places[·]?) vs (parts.map fun q=>(q.1,a.eval q.2))=some vs'∧ao9 w F vs'.toList cs'
 |[],vs,cs,cs',_,h,hf=>by
  simp only[ah1]at hf
  cases hf
  exact⟨vs,rfl,h⟩
 |(i,y)::r,vs,cs,cs',ha,h,hf=>by
  simp only[ah1]at hf;split at hf
  ·cases hf
  ·rename_i off size hp
   split at hf
   ·cases hf
   ·rename_i d hd
    cases hb:(Nat.beq d.cells.length size&&Nat.ble (off+d.cells.length) cs.length)with
    |false=>rw[hb]at hf;cases hf
    |true=>
     rw[hb]at hf;rw[fz4]at hb;have h1:=fz8 hb.1;have h2:=gc0 hb.2;have hv:Rd w F d (a.eval y):=ao5 hd (ha (i,y) Oc);obtain⟨a1,-,-⟩:=hv.cells;have hlen:=h.len;have hsz:vs.size=cs.length:=by rw[hlen];simp
     have hs:=ap1 (a.eval y).cells.toList vs off 0 Og
     obtain⟨vs',e1,e2⟩:=ap2 hpl r (((a.eval y).cells.toList.zipIdx 0).foldl (fun cs (c,j)=>cs.setIfInBounds (off+j) c) vs) _ cs' (fun q hq=>ha q (by simp[hq]))
      (by rw[hs];exact h.set_ hv h2) (by simpa using hf)
     refine⟨vs',?_,e2⟩;simp only[fz7,Instr.fill,hpl i off size hp];rw[if_neg Og];rw[←e1];congr 1;rw[←Array.foldl_toList];congr 1;simp[Array.toList_zipIdx]
theorem ap3{w:World}{F:Nat→Prop}:∀{vs:List Value} {cs:List D},ah2 vs=some cs→(∀v∈vs,v.oneCell'=true)→ao9 w F vs cs
 |[],cs,h,_=>by
  simp only[ah2]at h
  cases h
  exact⟨rfl,fun v h=>(by simp at h),fun i v h=>(by simp at h)⟩
 |v::r,cs,h,h1=>by
  simp only[ah2]at h;split at h
  ·rename_i d hd
   rw[fz9]at h;obtain⟨cs',hc,rfl⟩:=h;have ih:=ap3 (w:=w) (F:=F) hc fun v hv=>h1 v (by simp[hv])
   refine⟨by simp[ih.len],h1,fun i u hu=>?_⟩
   cases i with
   |zero=>simp at hu;subst hu;exact⟨d,by simp,ao5 hd (ab4 (σ:=[]) v)⟩
   |succ i=>simpa using ih.rd i u (by simpa using hu)
  ·cases h
theorem ap4{E:Env}{w:World}:∀(fs:List Field),ah3 E fs=true→∃ps:List (Nat × Nat),(fs.mapM fun f=>(do pure (f.offset,←sizeOf f.type):Sem (Nat × Nat))).run E.P w=.ok ps w∧
  ∀(i off size:Nat),ag9 E fs.toArray i=some (off,size)→ps[i]? =some (off,size)
 |[],_=>⟨[],rfl,fun i off size h=>by simp[ag9]at h⟩
 |f::r,h=>by
  simp only[ah3,ge6,fz4]at h;obtain⟨ps,h1,h2⟩:=ap4 (w:=w) r h.2;obtain⟨e,he⟩:=Option.isSome_iff_exists.1 h.1;obtain⟨hok,ht⟩:=ab0 he;have hs:=aj5 (w:=w) hok;rw[ht]at hs;refine⟨(f.offset,e.size)::ps,?_,fun i off size hp=>?_⟩
  ·simp only[List.mapM_cons,Sem.run_bind,hs,Result.andThen_ok,Sem.run_pure,h1]
  ·cases i with
   |zero=>
    simp only[ag9,gd4,List.getElem?_cons_zero,he]at hp;simpa using hp
   |succ i=>
    have hp':ag9 E r.toArray i=some (off,size):=by simpa[ag9]using hp
    simpa using h2 i off size hp'
theorem ap5{t:TypeId}{parts:Array (Nat × Operand)}(ho:o.op=.build t parts)(h:ah4 C.E s t parts.toList=some (p,x))(hz1:∀e,aa8 C.E.T t=some e→al8 e.zero.cells.toList=true):VOp C s o x:=by
 refine VOp.pure_ fun F σ w a hi hr=>?_
 unfold ah4 at h;split at h
 ·rename_i e he
  obtain⟨hok,rfl⟩:=ab0 he;have hz:=hz1 e he;split at h
  ·rename_i fs hd
   have hu:=hok.1;rw[hd]at hu
   cases hb:ah3 C.E fs.toList with
   |false=>rw[hb]at h;cases h
   |true=>
    rw[hb]at h;simp only[cond_true]at h;split at h
    ·rename_i zs hzs
     split at h
     ·rename_i cs hcs
      obtain⟨rfl,rfl⟩:=Prod.mk.inj (Option.some.inj h);obtain⟨ps,m1,m2⟩:=ap4 (E:=C.E) (w:=w) fs.toList hb;have hz0:=ap3 (w:=w) (F:=F) hzs fun v hv=>al9 hz v hv
      obtain⟨vs',f1,f2⟩:=ap2 (s:=s) (a:=a) (σ:=σ) (places:=ps.toArray) (fun i off size hp=>by simpa using m2 i off size (by simpa using hp)) parts.toList e.zero.cells zs cs
       (fun q hq=>hr q.2 (by simp[ho,Op.operands];exact⟨q.1,by simpa using hq⟩)) hz0 hcs
      refine⟨.agg vs',?_,?_⟩
      ·have m1':(fs.mapM fun f=>(do pure (f.offset,←sizeOf f.type):Sem (Nat × Nat))).run C.E.P w=.ok ps.toArray w:=by
        rw[←Array.toArray_toList (xs:=fs),List.mapM_toArray];simp only[map_eq_pure_bind,Sem.run_bind,m1,Result.andThen_ok,Sem.run_pure]
       have hparts:(parts.map fun(i,x)=>(i,a.eval x)).toList=parts.toList.map fun q=>(q.1,a.eval q.2):=Oc
       simp only[execOp,ho,Instr.build,Sem.run_bind,am5 hok,Result.andThen_ok,run_underlying hu,m1',hparts,f1,Sem.run_pure]
      ·have:=aj9 (ds:=cs) (vs:=vs'.toList) f2.len f2.one f2.rd;show Rd w F (.agg cs) (.agg vs');simpa using this
     ·cases h
    ·cases h
  ·cases h
 ·cases h
def vop(C:Cx)(s:St)(o:Oper):VR:=
 match o.op with
 |.move y=>fw (s.ev C.E y)
 |.assign y=>fw (s.ev C.E y)
 |.pick c a b=>af4 (s.ev C.E c) (s.ev C.E a) (s.ev C.E b)
 |.binOp op t y z _=>binX C.E op t (s.ev C.E y) (s.ev C.E z)
 |.unOp op _ y=>unX op (s.ev C.E y)
 |.fieldAddr t y f=>(match ag2 C.E t f with
  |some k=>addX k (s.ev C.E y)
  |none=>none)
 |.load t y=>ag4 C.E s.ob t (s.ev C.E y)
 |.index t y z=>ag7 C.E t (s.ev C.E y) (s.ev C.E z)
 |.build t parts=>(match aa8 C.E.T t with
  |some e=>bif al8 e.zero.cells.toList then ah4 C.E s t parts.toList else none
  |none=>none)
 |.extract y k=>(match s.ev C.E y with
  |.tup xs=>(match xs[k]? with
   |some d=>some (True,.d d)
   |none=>none)
  |_=>none)
 |.call c=>(match c.callee with
  |.builtin b=>(match b,c.args.toList,c.argTypes.toList with
   |.len,[y],[t]=>lenX C.E s.ob t (s.ev C.E y)
   |.min,[y,z],[_,_]=>minX false (s.ev C.E y) (s.ev C.E z)
   |.max,[y,z],[_,_]=>minX true (s.ev C.E y) (s.ev C.E z)
   |_,_,_=>none)
  |_=>none)
 |_=>none
theorem ap6(h:vop C s o=some (p,x))(hp:p):VOp C s o x:=by
 unfold vop at h;split at h
 ·exact ah5 (.inl ‹_›) h
 ·exact ah5 (.inr ‹_›) h
 ·exact ah6 ‹_› h hp
 ·exact v_bin ‹_› h hp
 ·exact v_un ‹_› h hp
 ·rename_i ho
  split at h
  ·exact aj2 ho ‹_› h
  ·cases h
 ·exact ak2 ‹_› h
 ·exact ak4 ‹_› h hp
 ·rename_i t parts ho
  split at h
  ·rename_i e he
   cases hb:al8 e.zero.cells.toList with
   |false=>rw[hb]at h;cases h
   |true=>rw[hb]at h;exact ap5 ho h fun e' he'=>by rw[he]at he';cases he';exact hb
  ·cases h
 ·rename_i y k ho
  split at h
  ·rename_i xs hy
   split at h
   ·rename_i d hd
    obtain⟨rfl,rfl⟩:=Prod.mk.inj (Option.some.inj h);exact al7 ho hy hd
   ·cases h
  ·cases h
 ·rename_i c ho
  split at h
  ·rename_i b hb
   obtain⟨ce,args,tys⟩:=c;obtain⟨args⟩:=args;obtain⟨tys⟩:=tys;simp only at hb h;subst hb;split at h
   ·subst_vars;exact v_len ho h
   ·subst_vars;exact al6 false ho h hp
   ·subst_vars;exact al6 true ho h hp
   ·cases h
  ·cases h
 ·cases h
section
variable{all:Array Oper}{pu:Bool}{K:St→Prop}{rest:List Oper}{tm:List (Nat × X)}{ob:List aa5}{d:Nat}
theorem qY{j t:Nat}{pol b:Bool}{q:Oper}(_hg:o.guard=some (j,pol))(_hj:all[j]? =some q)(_hq:q.dst=some t)(hb:lk tm t=.d (.imm (.bool b)))
  (ht:b=true→SGo C all pu (o::rest) ⟨(t,.d (.imm (.bool true)))::tm,ob⟩ K)(hf:b=false→SGo C all pu (o::rest) ⟨(t,.d (.imm (.bool false)))::tm,ob⟩ K):SGo C all pu (o::rest) ⟨tm,ob⟩ K:=by
 have key:∀c:Bool,b=c→ad4 ⟨tm,ob⟩ ⟨(t,.d (.imm (.bool c)))::tm,ob⟩:=by
  rintro c rfl;refine⟨fun u=>?_,rfl⟩;simp only[lk]
  cases hbq:Nat.beq t u with
  |true=>obtain rfl:=fz8 hbq;exact hb.symm
  |false=>rfl
 cases b
 ·exact SGo.same (key false rfl) (hf rfl)
 ·exact SGo.same (key true rfl) (ht rfl)
theorem qI{t:TypeId}{y z:Operand}{xs:List D}{k:IntKind}{i:Int}{te:TE}(x:D)(ho:o.op=.indexAddr t y z)(hg:ad3 all ⟨tm,ob⟩ o true)(hdst:o.dst=some d)(hd:Nat.blt d C.N=true)
  (hy:(⟨tm,ob⟩:St).ev C.E y=.d (.sl xs))(hz:(⟨tm,ob⟩:St).ev C.E z=.d (.imm (.int k i)))(hte:al2 C.E t=some te)(hsz:Nat.beq x.cells.length te.size=true)(h0:0≤i)(hx:xs[i.toNat]? =some x)
  (h:SGo C all pu rest ⟨(d,.at_ x 0)::tm,ob⟩ K):SGo C all pu (o::rest) ⟨tm,ob⟩ K:=by
 refine SGo.vop hg (by simp[ac9,hdst];simpa using hd) (an5 ho hy hz hte h0 hx (fz8 hsz)) ?_;rw[hdst];exact h
end
theorem qL{r:List It}{fn:Func}{q:ResultVar}{d d':D}(hr:fn.results= #[q])(h:ao4 C s q=some d)(he:d=d'):go C (.code .ret::r) s (ao3 C fn (.d d')):=by
 subst he;exact ac4 (res_1 hr h)
theorem qM{r:List It}{fn:Func}{q q':ResultVar}{d d':D}{l:List D}(hr:fn.results= #[q,q'])(h:ao4 C s q=some d)(h':ao4 C s q'=some d')(he:[d,d']=l):go C (.code .ret::r) s (ao3 C fn (.tup l)):=by
 subst he;exact ac4 (res_2 hr h h')
def TmLe(tm:List (Nat × X))(n:Nat):List (Nat × X)→Prop
 |[]=>True
 |(k,x)::r=>(lk tm k=x∧x.below n=true)∧TmLe tm n r
def ap7(n:Nat):List aa5→Prop
 |[]=>True
 |x::r=>x.below n=true∧ap7 n r
theorem Le.of'{tm tm':List (Nat × X)}{ob ob':List aa5}(n:Nat)(hn:Nat.ble C.base.n0 n=true)(hob:ob'=ob.take n)(ht:TmLe tm n tm')(ho:ap7 n ob'):Le C ⟨tm,ob⟩ ⟨tm',ob'⟩:=by
 refine Le.of n hn hob ?_ ?_
 ·intro p hp;simp only at hp ⊢
  induction tm' with
  |nil=>cases hp
  |cons q r ih=>
   obtain⟨k,x⟩:=q;rcases fz0.1 hp with rfl|hp
   ·exact ht.1
   ·exact ih ht.2 hp
 ·intro x hx;simp only at hx;clear hob
  induction ob' with
  |nil=>cases hx
  |cons q r ih=>
   rcases fz0.1 hx with rfl|hx
   ·exact ho.1
   ·exact ih ho.2 hx
def ap8(all:Array Oper)(tm:List (Nat × X))(o:Oper):Option Bool:=
 match o.guard with
 |none=>some true
 |some (j,pol)=>(match all[j]? with
  |some q=>(match q.dst with
   |some t=>(match lk tm t with
    |.d (.imm (.bool b))=>some (b==pol)
    |.und=>some false
    |_=>none)
   |none=>none)
  |none=>none)
theorem ap9{all:Array Oper}{tm:List (Nat × X)}{ob:List aa5}{b:Bool}(h:ap8 all tm o=some b):ad3 all ⟨tm,ob⟩ o b:=by
 unfold ap8 at h;unfold ad3;split at h
 ·rename_i hg;cases h;first|rw[hg]|rfl
 ·rename_i j pol hg
  try rw[hg]
  split at h
  ·rename_i q hq
   split at h
   ·rename_i t ht
    refine⟨t,by rw[hq];exact ht,?_⟩;split at h
    ·rename_i b' hb';cases h;exact .inl ⟨b',hb',rfl⟩
    ·rename_i hu;cases h;exact .inr ⟨hu,rfl⟩
    ·cases h
   ·cases h
  ·cases h
def aq0(C:Cx)(all:Array Oper)(pu:Bool)(o:Oper)(tm:List (Nat × X))(ob:List aa5):Option (Prop × List (Nat × X) × List aa5):=
 match ap8 all tm o with
 |some false=>(match o.dst with
  |some d=>bif Nat.blt d C.N then some (True,(d,.und)::tm,ob)else none
  |none=>none)
 |some true=>(match o.op with
  |.box t y=>(match o.dst with
   |some d=>bif !pu&&Nat.blt d C.N then(match fw ((⟨tm,ob⟩:St).ev C.E y)with
    |some (_,x)=>bif x.held then some (True,(d,.ptr ob.length 0)::tm,ob++ [.var t (.w x)])else none
    |none=>none)else none
   |none=>none)
  |.alloc t=>(match o.dst with
   |some d=>bif !pu&&Nat.blt d C.N then(match aa8 C.E.T t with
    |some e=>bif al8 e.zero.cells.toList then some (True,(d,.ptr ob.length 0)::tm,ob++ [.var t (.cs (e.zero.cells.toList.map ab3))])else none
    |none=>none)else none
   |none=>none)
  |.store t y z=>(match o.dst with
   |none=>bif !pu then(match(⟨tm,ob⟩:St).ev C.E y with
    |.ptr i off=>(match fw ((⟨tm,ob⟩:St).ev C.E z)with
     |some (_,x)=>(match ob[i]? with
      |some (.var ty c)=>(match aa8 C.E.T t with
       |some e=>bif x.held&&(Nat.beq x.cells.length e.size&&Nat.ble (off+x.cells.length) c.cells.length)then some (True,tm,ob.set i (.var ty (am8 c off x)))else none
       |none=>none)
      |_=>none)
     |none=>none)
    |_=>none)else none
   |some _=>none)
  |_=>(match o.dst with
   |some d=>bif Nat.blt d C.N then(match vop C ⟨tm,ob⟩ o with
    |some (p,x)=>some (p,(d,x)::tm,ob)
    |none=>none)else none
   |none=>none))
 |none=>none
theorem aq1{all:Array Oper}{pu:Bool}{K:St→Prop}{rest:List Oper}{tm tm':List (Nat × X)}{ob ob':List aa5}(hv:aq0 C all pu o tm ob=some (p,tm',ob'))(hp:p)(h:SGo C all pu rest ⟨tm',ob'⟩ K):
  SGo C all pu (o::rest) ⟨tm,ob⟩ K:=by
 unfold aq0 at hv;split at hv
 ·rename_i hg
  split at hv
  ·rename_i d hd
   cases hN:Nat.blt d C.N with
   |false=>rw[hN]at hv;cases hv
   |true=>
    rw[hN]at hv;simp only[cond_true,Option.some.injEq,Prod.mk.injEq]at hv;obtain⟨-,rfl,rfl⟩:=hv;refine SGo.skip (ap9 hg) (by simp only[ac9,hd];exact hN) ?_;rw[hd];exact h
  ·cases hv
 ·rename_i hg
  split at hv
  ·rename_i t y ho
   split at hv
   ·rename_i d hd
    cases hN:(!pu&&Nat.blt d C.N)with
    |false=>rw[hN]at hv;cases hv
    |true=>
     rw[hN]at hv;simp only[cond_true]at hv;rw[fz4]at hN;have hpu:pu=false:=by simpa using hN.1
     subst hpu;split at hv
     ·rename_i q x hx
      cases hh:x.held with
      |false=>rw[hh]at hv;cases hv
      |true=>
       rw[hh]at hv;simp only[cond_true,Option.some.injEq,Prod.mk.injEq]at hv;obtain⟨-,rfl,rfl⟩:=hv;refine SGo.eff (ap9 hg) (am4 ho (af3 hx).symm hh (by simp only[ac9,hd];exact hN.2)) ?_;rw[hd];exact h
     ·cases hv
   ·cases hv
  ·rename_i t ho
   split at hv
   ·rename_i d hd
    cases hN:(!pu&&Nat.blt d C.N)with
    |false=>rw[hN]at hv;cases hv
    |true=>
     rw[hN]at hv;simp only[cond_true]at hv;rw[fz4]at hN;have hpu:pu=false:=by simpa using hN.1
     subst hpu;split at hv
     ·rename_i e he
      cases hh:al8 e.zero.cells.toList with
      |false=>rw[hh]at hv;cases hv
      |true=>
       rw[hh]at hv;simp only[cond_true,Option.some.injEq,Prod.mk.injEq]at hv;obtain⟨-,rfl,rfl⟩:=hv;refine SGo.eff (ap9 hg) (am6 ho he hh (by simp only[ac9,hd];exact hN.2)) ?_;rw[hd];exact h
     ·cases hv
   ·cases hv
  ·rename_i t y z ho
   split at hv
   ·rename_i hd
    cases hN:(!pu)with
    |false=>rw[hN]at hv;cases hv
    |true=>
     rw[hN]at hv;simp only[cond_true]at hv;have hpu:pu=false:=by simpa using hN
     subst hpu;split at hv
     ·rename_i i off hy
      split at hv
      ·rename_i q x hx
       split at hv
       ·rename_i ty c hob
        split at hv
        ·rename_i e he
         cases hh:(x.held&&(Nat.beq x.cells.length e.size&&Nat.ble (off+x.cells.length) c.cells.length))with
         |false=>rw[hh]at hv;cases hv
         |true=>
          rw[hh]at hv;simp only[cond_true,Option.some.injEq,Prod.mk.injEq]at hv;obtain⟨-,rfl,rfl⟩:=hv;rw[fz4,fz4]at hh;exact SGo.eff (ap9 hg) (an4 ho hd hy (af3 hx).symm hh.1 hob he hh.2.1 hh.2.2) h
        ·cases hv
       ·cases hv
      ·cases hv
     ·cases hv
   ·cases hv
  ·split at hv
   ·rename_i d hd
    cases hN:Nat.blt d C.N with
    |false=>rw[hN]at hv;cases hv
    |true=>
     rw[hN]at hv;simp only[cond_true]at hv;split at hv
     ·rename_i q x hx
      simp only[Option.some.injEq,Prod.mk.injEq]at hv;obtain⟨rfl,rfl,rfl⟩:=hv;refine SGo.vop (ap9 hg) (by simp only[ac9,hd];exact hN) (ap6 hx hp) ?_;rw[hd];exact h
     ·cases hv
   ·cases hv
 ·cases hv
theorem qP{all:Array Oper}{pu:Bool}{K:St→Prop}{rest:List Oper}{tm:List (Nat × X)}{ob:List aa5}{d:Nat}{y:Operand}{args:List Operand}{tys:Array TypeId}{f:FuncId}{ds:List D}{rx:X}
  (ho:o.op=.call {callee:=.value y,args:=args.toArray,argTypes:=tys})(hg:ap8 all tm o=some true)(hdst:o.dst=some d)(hd:Nat.blt d C.N=true)
  (hf:(⟨tm,ob⟩:St).ev C.E y=.d (.imm (.func (.func f) #[] #[])))(hds:an7 C.E ⟨tm,ob⟩ args=some ds)(hb:an9 C.E f)(h0:Ev C.E f ds rx)
  (h:SGo C all pu rest ⟨(d,rx)::tm,ob⟩ K):SGo C all pu (o::rest) ⟨tm,ob⟩ K:=by
 refine SGo.vop (ap9 hg) (by simp only[ac9,hdst];exact hd) (ao1 ho hf hb (an8 hds) h0) ?_;rw[hdst];exact h
theorem aq2{E:Env}{f:FuncId}{fn:Func}{c:Code}{rx:X}{N:Nat}(hf:E.P.funcs[f]? =some fn)(hN:fn.ntmps=N)(hb:fn.body=some c)(hle:Nat.ble 0 N=true)
  (h:∀(w0:World) (F0 O:Nat→Prop),go ⟨E,w0,F0,N,⟨O,0,[]⟩⟩ [.code c] ⟨[],[]⟩ (ao3 ⟨E,w0,F0,N,⟨O,0,[]⟩⟩ fn rx)):Ev E f [] rx:=
 Ev.enter hf hb hN (gc0 hle) h
theorem aq3{E:Env}{f:FuncId}{fn:Func}{c:Code}{d0:D}{rx:X}{N:Nat}(hf:E.P.funcs[f]? =some fn)(hN:fn.ntmps=N)(hb:fn.body=some c)(hle:Nat.ble 1 N=true)
  (h:∀(w0:World) (F0 O:Nat→Prop),go ⟨E,w0,F0,N,⟨O,0,[]⟩⟩ [.code c] ⟨[(0,.d d0)],[]⟩ (ao3 ⟨E,w0,F0,N,⟨O,0,[]⟩⟩ fn rx)):Ev E f [d0] rx:=
 Ev.enter hf hb hN (gc0 hle) h
theorem aq4{E:Env}{f:FuncId}{fn:Func}{c:Code}{d0 d1:D}{rx:X}{N:Nat}(hf:E.P.funcs[f]? =some fn)(hN:fn.ntmps=N)(hb:fn.body=some c)(hle:Nat.ble 2 N=true)
  (h:∀(w0:World) (F0 O:Nat→Prop),go ⟨E,w0,F0,N,⟨O,0,[]⟩⟩ [.code c] ⟨[(0,.d d0),(1,.d d1)],[]⟩ (ao3 ⟨E,w0,F0,N,⟨O,0,[]⟩⟩ fn rx)):Ev E f [d0,d1] rx:=
 Ev.enter hf hb hN (gc0 hle) h
theorem aq5{E:Env}{f:FuncId}{fn:Func}{c:Code}{d0 d1 d2:D}{rx:X}{N:Nat}(hf:E.P.funcs[f]? =some fn)(hN:fn.ntmps=N)(hb:fn.body=some c)(hle:Nat.ble 3 N=true)
  (h:∀(w0:World) (F0 O:Nat→Prop),go ⟨E,w0,F0,N,⟨O,0,[]⟩⟩ [.code c] ⟨[(0,.d d0),(1,.d d1),(2,.d d2)],[]⟩ (ao3 ⟨E,w0,F0,N,⟨O,0,[]⟩⟩ fn rx)):Ev E f [d0,d1,d2] rx:=
 Ev.enter hf hb hN (gc0 hle) h
theorem aq6{E:Env}{f:FuncId}{fn:Func}{c:Code}{d0 d1 d2 d3:D}{rx:X}{N:Nat}(hf:E.P.funcs[f]? =some fn)(hN:fn.ntmps=N)(hb:fn.body=some c)(hle:Nat.ble 4 N=true)
  (h:∀(w0:World) (F0 O:Nat→Prop),go ⟨E,w0,F0,N,⟨O,0,[]⟩⟩ [.code c] ⟨[(0,.d d0),(1,.d d1),(2,.d d2),(3,.d d3)],[]⟩ (ao3 ⟨E,w0,F0,N,⟨O,0,[]⟩⟩ fn rx)):Ev E f [d0,d1,d2,d3] rx:=
 Ev.enter hf hb hN (gc0 hle) h
theorem aq7{E:Env}{f:FuncId}{fn:Func}{c:Code}{d0 d1 d2 d3 d4:D}{rx:X}{N:Nat}(hf:E.P.funcs[f]? =some fn)(hN:fn.ntmps=N)(hb:fn.body=some c)(hle:Nat.ble 5 N=true)
  (h:∀(w0:World) (F0 O:Nat→Prop),go ⟨E,w0,F0,N,⟨O,0,[]⟩⟩ [.code c] ⟨[(0,.d d0),(1,.d d1),(2,.d d2),(3,.d d3),(4,.d d4)],[]⟩ (ao3 ⟨E,w0,F0,N,⟨O,0,[]⟩⟩ fn rx)):Ev E f [d0,d1,d2,d3,d4] rx:=
 Ev.enter hf hb hN (gc0 hle) h
end
end Go.Abs
namespace Go.Abs
open Go Go.RowKit
theorem aq8{i j n size:Nat}(hi:i<n)(hj:j<size):i*size+j<n*size:=by
 have:(i+1)*size≤n*size:=Nat.mul_le_mul_right _ hi;rw[gf5,Nat.one_mul]at this;omega
theorem aq9{i j size:Nat}(hj:j<size):(i*size+j) /size=i∧(i*size+j) % size=j:=by
 have h0:0<size:=Oa
 rw[Nat.add_comm,Nat.mul_comm,Nat.add_mul_div_left _ _ h0,Nat.div_eq_of_lt hj,Nat.add_mul_mod_self_left,Nat.mod_eq_of_lt hj];exact⟨by omega,rfl⟩
theorem aa6.owns{w:World}{F:Nat→Prop}{σ:Sg}{B:Nat→Prop}{e:TypeId}{size:Nat}{xs:List D}{b c n:Nat}(h:aa6 w F σ B (.row e size xs) (b,c,n)):
  ∃us:List Value,w.ownsRow 0 e size (.slice (some ⟨b,0,none⟩) n c) n us∧n=xs.length∧n≤c∧c≤maxLen∧(∀(i:Nat) (x:D) (j:Nat) (cd:D),xs[i]? =some x→x.cells[j]? =some cd→∃v,us[i*size+j]? =some v∧Rd w F cd v):=by
 obtain⟨vs,h1,h2,h3,h4,h5,h6,h7,h8,h9,h10⟩:=h;refine⟨vs.take (n*size),⟨?_,.inr ⟨b,c,vs.toArray,rfl,ga8 _,h1,h4,h5,by simp[h2],by simp⟩⟩,h3,h4,h5,fun i x j cd hx hc=>?_⟩
 ·rw[gb6,h2];have:=Nat.mul_le_mul_right size h4;omega
 ·obtain⟨v,e1,e2⟩:=h8 i x j cd hx hc;refine⟨v,?_,e2⟩;have hi:i<xs.length:=(fy9.1 hx).1;have hj:j<x.cells.length:=(fy9.1 hc).1;rw[h6 x (fy6 hx)]at hj;rw[ga5,if_pos (aq8 Oa hj)];exact e1
theorem ar0{w:World}{F:Nat→Prop}{σ:Sg}{B:Nat→Prop}{e:TypeId}{size n:Nat}{xs:List D}{v:Value}{us:List Value}(h:w.ownsRow 0 e size v n us)(hB:∀b,v.ownBlock=some b→ ¬ B b)(hv:v≠ .slice none 0 0)(hn:n=xs.length)
  (hz:∀x∈xs,x.cells.length=size)(ho:∀x∈xs,∀c∈x.cells,c.one=true)
  (hr:∀(i:Nat) (x:D) (j:Nat) (cd:D),xs[i]? =some x→x.cells[j]? =some cd→∃v,us[i*size+j]? =some v∧Rd w F cd v)(hF:∀b,v.ownBlock=some b→ ¬ F b):
  ∃b c,v=.slice (some ⟨b,0,none⟩) n c∧aa6 w F σ B (.row e size xs) (b,c,n):=by
 obtain⟨hl,h⟩:=h;rcases h with⟨h,-⟩|⟨g,cap,cur,rfl,hb,hg,hc,hm,hs,ht⟩
 ·exact absurd h hv
 ·refine⟨g,cap,rfl,cur.toList,by simpa using hg,by simpa using hs,hn,hc,hm,hz,ho,fun i x j cd hx hcd=>?_,hB g rfl,hF g rfl⟩;obtain⟨u,e1,e2⟩:=hr i x j cd hx hcd;refine⟨u,?_,e2⟩;rw[←ht,ga5]at e1;split at e1
  ·exact e1
  ·cases e1
theorem ab2.regrow{E:Env}{B:ab1}{F:Nat→Prop}{σ:Sg}{ob ob0:List aa5}{w w':World}{row:Option Nat}(h:ab2 E B F σ ob w)
  (hk:∀(o:Nat) x,ob0[o]? =some x→x.live=true→ob[o]? =some x∧∀p,σ[o]? =some p→some p.1≠row)(hlen:ob0.length=ob.length)
  (hg:w.grownBy w' row)(hF:∀k,row=some k→ ¬ F k)(y:aa5)(g c n:Nat)(hgn:row=some g∨w.heap.size≤g)
  (hy:aa6 w' F (σ++ [(g,c,n)]) B.O y (g,c,n)):ab2 E B F (σ++ [(g,c,n)]) (ob0++ [y]) w':=by
 have keep:∀b,F b→w'.heap[b]? =w.heap[b]? :=fun b hb=>hg.block b (h.flt b hb) fun e=>hF b e.symm hb
 have cases_:∀(k:Nat) z p,(ob0++ [y])[k]? =some z→(σ++ [(g,c,n)])[k]? =some p→(k<ob0.length∧ob0[k]? =some z∧σ[k]? =some p)∨(k=ob0.length∧z=y∧p=(g,c,n)):=by
  intro k z p hz hp;rcases fy5 k ob0.length with hlt|hge
  ·rw[ga0 hlt]at hz;rw[ga0 (by rw[h.len];omega)]at hp;exact .inl ⟨hlt,hz,hp⟩
  ·rw[ga7 hge]at hz;rw[ga7 (by rw[h.len];omega),h.len]at hp
   have hk0:k-ob0.length=0:=by
    rcases gh7 (k-ob0.length)with h0|h0
    ·exact h0
    ·rw[gc5 Og]at hz;cases hz
   have hk1:k-ob.length=0:=Oa
   rw[hk0]at hz;rw[hk1]at hp;simp at hz hp;exact .inr ⟨by omega,hz.symm,hp.symm⟩
 refine⟨fun b hb=>gi1 (h.flt b hb) hg.size,h.glob.mono (fun _ h=>h) keep,by simp[h.len,hlen],fun k z p hz hp=>?_,fun k k' z z' p p' hne hz hl hz' hl' hp hp'=>?_,fun i p hp hq=>σ_app _ _ (h.pre i p hp hq)⟩
 ·rcases cases_ k z p hz hp with⟨h1,h2,h3⟩|⟨-,rfl,rfl⟩
  ·cases hlv:z.live with
   |false=>cases z<;>simp[aa5.live]at hlv<;>trivial
   |true=>
    obtain⟨h4,h5⟩:=hk k z h2 hlv;have ho:=h.obs k z p h4 h3;exact ho.mono (fun _ h=>h) keep σ_app (fun hl=>hg.block _ (ho.lt hl) (h5 p h3)) (fun _ h=>h)
  ·exact hy
 ·have far:∀(k:Nat) z p,ob0[k]? =some z→z.live=true→σ[k]? =some p→p.1≠g:=by
   intro k z p h2 hlv h3 e;obtain⟨h4,h5⟩:=hk k z h2 hlv;have hlt:=(h.obs k z p h4 h3).lt hlv;rcases hgn with h6|h6
   ·exact h5 p h3 (by rw[e,h6])
   ·omega
  rcases cases_ k z p hz hp with⟨h1,h2,h3⟩|⟨h1,rfl,rfl⟩<;>rcases cases_ k' z' p' hz' hp' with⟨h1',h2',h3'⟩|⟨h1',rfl,rfl⟩
  ·exact h.inj k k' z z' p p' hne (hk k z h2 hl).1 hl (hk k' z' h2' hl').1 hl' h3 h3'
  ·exact far k z p h2 hl h3
  ·exact fun e=>far k' z' p' h2' hl' h3' e.symm
  ·omega
theorem ar1{O:Nat→Prop}{w0 w w':World}{row:Option Nat}(h1:aa7 O w0 w)(hg:w.grownBy w' row)(hr:∀k,row=some k→ ¬ O k):aa7 O w0 w':=
 ⟨hg.os.trans h1.os,hg.tape.trans h1.tape,hg.output.trans h1.output,gb8 h1.size hg.size,fun k hk=>(hg.block k (by have:=h1.old k hk;have:=h1.size;omega) fun e=>hr k e.symm hk).trans (h1.block k hk),h1.old⟩
section
variable{C:Cx}{s:St}{o:Oper}{x:X}
theorem ar2{C:Cx}{s:St}{a:Act}{w w':World}{F:Nat→Prop}{σ:Sg}{o:Oper}{y:X}{v:Value}{ob0:List aa5}{z:aa5}{g c n:Nat}{row:Option Nat}
  (h1:aa7 C.O C.w0 w)(h2:∀b,C.F0 b→F b)(h3:∀b,F b→C.F0 b∨ ¬ C.O b)(hi:ab2 C.E C.base F σ s.ob w)
  (h4:a.defers=[])(h5:a.tmps.size=C.N)(hs:∀t,RdX w F σ (lk s.tm t) (a.tmps.getD t undef))(hd:ac9 C o=true)
  (hk:∀(o:Nat) x,ob0[o]? =some x→x.live=true→s.ob[o]? =some x∧∀p,σ[o]? =some p→some p.1≠row)(hlen:ob0.length=s.ob.length)
  (hg:w.grownBy w' row)(hF:∀k,row=some k→ ¬ F k∧ ¬ C.O k)(hgn:row=some g∨w.heap.size≤g)
  (hy:aa6 w' F (σ++ [(g,c,n)]) C.O z (g,c,n))(hv:RdX w' F (σ++ [(g,c,n)]) y v):
  C.Rel (St.put ⟨s.tm,ob0++ [z]⟩ o.dst y) (a.put o.dst v) w':=by
 have keep:∀b,F b→w'.heap[b]? =w.heap[b]? :=fun b hb=>hg.block b (hi.flt b hb) fun e=>(hF b e.symm).1 hb
 refine⟨F,σ++ [(g,c,n)],ar1 h1 hg (fun k hk=>(hF k hk).2),h2,h3,?_,by rw[Act.put_def];exact h4,by rw[Act.put_size];exact h5,?_⟩
 ·rw[St.put_ob];exact hi.regrow hk hlen hg (fun k hk=>(hF k hk).1) z g c n hgn hy
 ·exact ab7 (N:=C.N) (s:=⟨s.tm,ob0++ [z]⟩) (fun t=>(hs t).mono (fun _ h=>h) keep σ_app) h5 (ad1 hd) fun _=>hv
theorem ar3{w:World}{F:Nat→Prop}{ys:List D}{v:Value}(h:Rd w F (.sl ys) v)(size:Nat)(hz:∀y∈ys,y.cells.length=size)(hne:ys≠ []):
  ∃ad cap,v=.slice (some ad) ys.length cap∧(∀y∈ys,∀c∈y.cells,c.one=true)∧∃news:List Value,news.length=ys.length*size∧(∀(j:Nat) u,news[j]? =some u→w.cell? (ad.add j)=some u)∧(∀u∈news,u.oneCell'=true)∧
   ∀(i:Nat) (x:D) (j:Nat) (cd:D),ys[i]? =some x→x.cells[j]? =some cd→∃v,news[i*size+j]? =some v∧Rd w F cd v:=by
 rcases Rd.sl_inv h with⟨rfl,-⟩|⟨size',ad,cap,hev,h1,h2,h3,h4,h5,h6⟩
 ·exact absurd rfl hne
 obtain⟨y0,hy0⟩:=List.exists_mem_of_ne_nil ys hne;obtain rfl:size'=size:=by rw[←h4 y0 hy0,hz y0 hy0]
 have get:∀q,q<ys.length*size'→∃u,w.cell? (ad.add q)=some u∧u.oneCell'=true:=by
  intro q hq
  have hs0:0<size':=by
   rcases gh7 size' with h0|h0
   ·rw[h0]at hq;omega
   ·exact h0
  have hlt:q/size'<ys.length:=Nat.div_lt_of_lt_mul (by rw[Nat.mul_comm];exact hq);have hx:=fy4 hlt;have hm:q % size'<(ys[q/size']).cells.length:=by rw[h4 _ (gf2 hlt)];exact Nat.mod_lt _ hs0
  obtain⟨u,e1,e2⟩:=h6 _ _ (q % size') _ hx (fy4 hm);refine⟨u,?_,e2.one (h5 _ (gf2 hlt) _ (gf2 hm))⟩;rw[show q/size'*size'+q % size'=q from by rw[Nat.mul_comm];exact Nat.div_add_mod q size']at e1;exact e1
 have look:∀(j:Nat) u,((List.range (ys.length*size')).map fun q=>(w.cell? (ad.add q)).getD undef)[j]? =some u→j<ys.length*size'∧w.cell? (ad.add j)=some u∧u.oneCell'=true:=by
  intro j u hj;rw[fz1,fz9]at hj;obtain⟨q,hq,rfl⟩:=hj
  have hlt:j<ys.length*size':=by
   have:=(fy9.1 hq).1;simpa using this
  rw[gf6 hlt]at hq
  cases hq
  obtain⟨u,e1,e2⟩:=get j hlt;rw[e1];exact⟨hlt,rfl,e2⟩
 refine⟨ad,cap,hev,h5,(List.range (ys.length*size')).map fun q=>(w.cell? (ad.add q)).getD undef,by simp,fun j u hj=>(look j u hj).2.1,fun u hu=>?_,fun i x j cd hx hc=>?_⟩
 ·obtain⟨j,hj⟩:=ga9 hu;exact(look j u hj).2.2
 ·obtain⟨u,e1,e2⟩:=h6 i x j cd hx hc;have hi:i<ys.length:=(fy9.1 hx).1;have hj:j<x.cells.length:=(fy9.1 hc).1;rw[h4 x (fy6 hx)]at hj;refine⟨u,?_,e2⟩;rw[fz1,gf6 (aq8 hi hj)];simp[e1]
theorem ar4{t:TypeId}{y z:Operand}{te:TE}{xs ys:List D}{oi:Option Nat}(ho:o.op=.call {callee:=.builtin .append,args:= #[y,z],argTypes:= #[t,t]})(hte:al2 C.E t=some te)
  (hy:(oi=none∧(s.ev C.E y=.nilS∨s.ev C.E y=.d (.imm (.slice none 0 0)))∧xs=[])∨∃i,oi=some i∧s.ev C.E y=.own i∧s.ob[i]? =some (.row te.t te.size xs))(hz:s.ev C.E z=.d (.sl ys))(hne:ys≠ [])(hsz:∀d∈ys,d.cells.length=te.size)
  (hzs:te.zero.cells.size=te.size)(hs0:0<te.size)(hlen:(xs.length+ys.length)*te.bytes≤140737488355328)(hmx:xs.length+ys.length≤9223372036854775807)(hd:ac9 C o=true):
  SOp C s o (St.put ⟨s.tm,(match oi with|some i=>s.ob.set i .dead|none=>s.ob)++ [.row te.t te.size (xs++ys)]⟩ o.dst (.own s.ob.length)):=by
 obtain⟨hu,hok⟩:=al3 hte;obtain⟨hdesc,i0,hi0,hsize,hbytes,hzero⟩:=hok;rintro w a K Q ⟨F,σ,h1,h2,h3,hi,h4,h5,hs⟩ hK;have hvy:=ab6 (E:=C.E) hi hs y;have hvz:=ab6 (E:=C.E) hi hs z;rw[hz]at hvz;obtain⟨ad,cap,hev,hone,news,n1,n2,n3,n4⟩:=ar3 hvz te.size hsz hne;have hypos:0<ys.length:=List.length_pos_iff.2 hne
 -- what the first argument is
 have hfirst:∃us,w.ownsRow 0 te.t te.size (a.eval y) xs.length us∧(∀(i:Nat) (x:D) (j:Nat) (cd:D),xs[i]? =some x→x.cells[j]? =some cd→∃v,us[i*te.size+j]? =some v∧Rd w F cd v)∧
   (∀b,(a.eval y).ownBlock=some b→ ¬ F b∧ ¬ C.O b)∧(∀d∈xs,d.cells.length=te.size)∧(∀d∈xs,∀c∈d.cells,c.one=true)∧
   (∀(k:Nat) q,(match oi with|some i=>s.ob.set i .dead|none=>s.ob)[k]? =some q→q.live=true→s.ob[k]? =some q∧∀p,σ[k]? =some p→some p.1≠(a.eval y).ownBlock):=by
  rcases hy with⟨rfl,hy,rfl⟩|⟨i,rfl,hy,hob⟩
  ·have hv0:a.eval y=.slice none 0 0:=by
    rcases hy with e|e
    ·rw[e]at hvy;exact hvy
    ·rw[e]at hvy;exact(Rd.imm_inv hvy).1
   rw[hv0];exact⟨[],World.ownsRow_nil _ _ _ _,fun i x j cd hx=>by simp at hx,fun b hb=>by simp[Value.ownBlock]at hb,by simp,by simp,fun k q hq _=>⟨hq,fun p _=>by simp[Value.ownBlock]⟩⟩
  ·rw[hy]at hvy;obtain⟨b,c,n,p1,p2⟩:=hvy;have hobs:=hi.obs i _ _ hob p1;obtain⟨us,q1,q2,q3,q4,q5⟩:=hobs.owns;obtain⟨vs,-,-,-,-,-,r6,r7,-,r9,r10⟩:=hobs;rw[p2,←q2];refine⟨us,q1,q5,fun b' hb'=>?_,r6,r7,fun k q hq hl=>?_⟩
   ·simp[Value.ownBlock]at hb';subst hb';exact⟨r10,r9⟩
   ·simp only[ge2]at hq;split at hq
    ·split at hq
     ·cases hq;simp[aa5.live]at hl
     ·cases hq
    ·rename_i hne'
     refine⟨hq,fun p hp he=>?_⟩;simp only[Value.ownBlock,Option.some.injEq]at he;exact hi.inj k i q _ p (b,c,n) (fun e=>hne' e.symm) hq hl hob rfl hp p1 he
 obtain⟨us,f1,f2,f3,f4,f5,f6⟩:=hfirst
 obtain⟨v',w',a1,a2,a3,a4,a5⟩:=run_append_own_at (P:=C.E.P) w 0 t o.type te.t i0 te.zero te.size te.bytes hu hi0 hzero hsize hbytes hzs hs0 (a.eval y) xs.length us f1 ad ys.length cap news n1 n2 n3
  (by simpa[maxLen]using hmx) hlen (ga8 _)
 have hrun:(execOp a.eval o).run C.E.P w=.ok (.value v') w':=by
  rw[←hev]at a1;simp[execOp,ho,resolve,invoke,builtin,a1]
 unfold Oper.wp;rw[hrun]
 have hnn:v'≠ .slice none 0 0:=fun e=>by
  have:=(a4.1 e).2;omega
 have hFy:∀k,(a.eval y).ownBlock=some k→ ¬ F k:=fun k hk=>(f3 k hk).1
 have keep:∀b,F b→w'.heap[b]? =w.heap[b]? :=fun b hb=>a3.block b (hi.flt b hb) fun e=>hFy b e.symm hb
 obtain⟨g,c,rfl,hob'⟩:=ar0 (F:=F) (σ:=σ++ [(0,0,0)]) (xs:=xs++ys) a2 (fun b hb=>by
   rcases a5 with h|h
   ·rw[h]at hb;exact(f3 b hb).2
   ·rw[h]at hb;cases hb;exact h1.new (fz6 _)) hnn Oc (fun d hd=>by rcases gb2.1 hd with h|h;exact f4 d h;exact hsz d h)
  (fun d hd=>by rcases gb2.1 hd with h|h;exact f5 d h;exact hone d h)
  (fun i x j cd hx hc=>by
   rcases fy5 i xs.length with hlt|hge
   ·rw[ga0 hlt]at hx;obtain⟨v,e1,e2⟩:=f2 i x j cd hx hc;refine⟨v,?_,e2.mono (fun _ h=>h) keep⟩;rw[ga0 (fy9.1 e1).1];exact e1
   ·rw[ga7 hge]at hx;obtain⟨v,e1,e2⟩:=n4 (i-xs.length) x j cd hx hc;refine⟨v,?_,e2.mono (fun _ h=>h) keep⟩;have hul:us.length=xs.length*te.size:=f1.1;have hsplit:i*te.size=xs.length*te.size+(i-xs.length)*te.size:=by rw[←gf5];congr 1;omega
    rw[ga7 Oa,hul,show i*te.size+j-xs.length*te.size=(i-xs.length)*te.size+j from by omega];exact e1)
  (fun b hb hf=>by
   rcases a5 with h|h
   ·rw[h]at hb;exact hFy b hb hf
   ·rw[h]at hb;cases hb;exact absurd (hi.flt _ hf) (gg9 _))
 have hob'':aa6 w' F (σ++ [(g,c,xs.length+ys.length)]) C.O (.row te.t te.size (xs++ys)) (g,c,xs.length+ys.length):=hob';refine hK _ _ (ar2 (row:=(a.eval y).ownBlock) (g:=g) (c:=c) (n:=xs.length+ys.length) h1 h2 h3 hi h4 h5 hs hd f6 ?_ a3 (fun k hk=>f3 k hk) ?_ hob'' ⟨g,c,xs.length+ys.length,?_,rfl⟩)
 ·cases oi<;>simp
 ·rcases a5 with h|h
  ·exact .inl (by rw[←h];rfl)
  ·simp only[Value.ownBlock,Option.some.injEq]at h;exact .inr Oa
 ·rw[←hi.len];simp
end
end Go.Abs
namespace Go.Abs
open Go Go.RowKit
theorem ar5{E:Env}{F:Nat→Prop}{σ:Sg}{w:World}{t:TypeId}{z:D}{off:Nat}{x:X}{p:Prop}{ad:Addr}{ob0:List aa5}(hone:∀c∈z.cells,c.one=true)
  (hm:∀(j:Nat) (c:D),z.cells[j]? =some c→∃u,w.cell? (ad.add j)=some u∧Rd w F c u)(h:ag4 E ob0 t (.at_ z off)=some (p,x)):
  ∃v,(Instr.loadAt t (.pointer (some (ad.add off)))).run E.P w=.ok v w∧RdX w F σ x v:=by
 unfold ag4 at h;split at h
 ·cases h
 rename_i e he
 obtain⟨hok,rfl⟩:=ab0 he;simp only at h
 have whole:((z.cells.drop off).take e.size).length=e.size→e.isAgg=true→
   ∃v,(Instr.loadAt e.t (.pointer (some (ad.add off)))).run E.P w=.ok v w∧RdX w F σ (.d (.agg ((z.cells.drop off).take e.size))) v:=by
  intro hl hag
  have hex:∀j,∃u,∀c,z.cells[j]? =some c→w.cell? (ad.add j)=some u∧Rd w F c u:=by
   intro j
   cases hz:z.cells[j]? with
   |none=>exact⟨undef,fun c h=>by cases h⟩
   |some c=>obtain⟨u,h1,h2⟩:=hm j c hz;exact⟨u,fun c' h=>by cases h;exact⟨h1,h2⟩⟩
  let u:Nat→Value:=fun j=>Classical.choose (hex j)
  have hu:∀j c,z.cells[j]? =some c→w.cell? (ad.add j)=some (u j)∧Rd w F c (u j):=fun j=>Classical.choose_spec (hex j)
  let vs:List Value:=(List.range e.size).map fun j=>u (off+j)
  have hvl:vs.length=e.size:=by simp[vs]
  have hvj:∀(j:Nat) v,vs[j]? =some v→v=u (off+j)∧j<e.size:=by
   intro j v hj;have hlt:j<e.size:=by rw[←hvl];exact(fy9.1 hj).1
   simp[vs,hlt]at hj;exact⟨hj.symm,hlt⟩
  have hzj:∀j,j<e.size→∃c,z.cells[off+j]? =some c∧((z.cells.drop off).take e.size)[j]? =some c:=by
   intro j hj;have hlt:j<((z.cells.drop off).take e.size).length:=by rw[hl];exact hj
   have h1:=fy4 hlt;exact⟨_,(ak0 _ _ _ _ _ h1).1,h1⟩
  refine⟨.agg vs.toArray,?_,aj9 (vs:=vs) (by rw[hvl];exact hl) (fun v hv=>?_) fun i v hv=>?_⟩
  ·refine aj6 hok hag hvl fun j v hj=>?_
   obtain⟨rfl,hlt⟩:=hvj j v hj;obtain⟨c,hc,_⟩:=hzj j hlt;rw[aa1];exact(hu _ c hc).1
  ·obtain⟨i,hi'⟩:=ga9 hv;obtain⟨rfl,hlt⟩:=hvj i v hi';obtain⟨c,hc,_⟩:=hzj i hlt;exact(hu _ c hc).2.one (hone c (fy6 hc))
  ·obtain⟨rfl,hlt⟩:=hvj i v hv;obtain⟨c,hc,hc'⟩:=hzj i hlt;exact⟨c,hc',(hu _ c hc).2⟩
 cases hag:e.isAgg with
 |true=>
  rw[hag]at h;simp only[cond_true]at h;split at h
  ·split at h
   ·rename_i cs
    cases hb:Nat.beq cs.length e.size with
    |false=>rw[hb]at h;cases h
    |true=>
     rw[hb]at h;obtain⟨rfl,rfl⟩:=Prod.mk.inj (Option.some.inj h);have hsz:cs.length=e.size:=fz8 hb;have:=whole (by simp[D.cells,hsz]) hag;simp only[D.cells,gh6]at this;rw[ga3 Oa]at this;exact this
   ·cases h
  ·rename_i hne
   cases hb:Nat.beq ((z.cells.drop off).take e.size).length e.size with
   |false=>rw[hb]at h;cases h
   |true=>
    rw[hb]at h;obtain⟨rfl,rfl⟩:=Prod.mk.inj (Option.some.inj h);exact whole (fz8 hb) hag
 |false=>
  rw[hag]at h;simp only[cond_false]at h;split at h
  ·rename_i c hc
   obtain⟨rfl,rfl⟩:=Prod.mk.inj (Option.some.inj h);obtain⟨u,hu1,hu2⟩:=hm off c hc;exact⟨u,aj7 hok hag hu1,hu2⟩
  ·cases h
section
variable{C:Cx}{s:St}{o:Oper}{x:X}{p:Prop}
theorem ar6{t te:TypeId}{y:Operand}{i k off size:Nat}{xs:List D}{d:D}(ho:o.op=.load t y)(hy:s.ev C.E y=.pel k i off size)(hob:s.ob[k]? =some (.row te size xs))(hd:xs[i]? =some d)
  (h:ag4 C.E s.ob t (.at_ d off)=some (p,x)):VOp C s o x:=by
 refine VOp.pure_ fun F σ w a hi hr=>?_
 have hp:=hr y (by simp[ho,Op.operands]);rw[hy]at hp;obtain⟨b,c,n,p1,p2⟩:=hp;obtain⟨vs,q1,q2,q3,q4,q5,q6,q7,q8,-⟩:=hi.obs k _ _ hob p1
 obtain⟨v,h1,h2⟩:=ar5 (w:=w) (F:=F) (σ:=σ) (ad:=⟨b,i*size,none⟩) (q7 d (fy6 hd)) (fun j c hc=>by
  obtain⟨v,e1,e2⟩:=q8 i d j c hd hc;refine⟨v,?_,e2⟩;rw[aa2,aj8 q1];exact e1) h
 refine⟨v,?_,h2⟩;rw[aa2,←p2]at h1;simp[execOp,ho,h1]
theorem ar7{t:TypeId}{y z:Operand}{xs:List D}{kd:IntKind}{i:Int}{te:TE}{k:Nat}(ho:o.op=.indexAddr t y z)(hy':s.ev C.E y=.own k)(hz':s.ev C.E z=.d (.imm (.int kd i)))
  (hob:s.ob[k]? =some (.row te.t te.size xs))(hte:al2 C.E t=some te)(h0:0≤i)(hlt:i<xs.length):VOp C s o (.pel k i.toNat 0 te.size):=by
 obtain⟨hu,hok⟩:=al3 hte;refine VOp.pure_ fun F σ w a hi hr=>?_
 have hy:=hr y (by simp[ho,Op.operands]);have hz:=hr z (by simp[ho,Op.operands]);rw[hy']at hy;rw[hz']at hz;obtain⟨e2,-⟩:=Rd.imm_inv hz;obtain⟨b,c,n,p1,p2⟩:=hy;obtain⟨vs,q1,q2,q3,-⟩:=hi.obs k _ _ hob p1;refine⟨.pointer (some (⟨b,i.toNat*te.size,none⟩)),?_,b,c,n,p1,by simp⟩;have hlt':0≤i∧i<(n:Int):=⟨h0,by omega⟩;simp[execOp,ho,p2,e2,Instr.indexAt,asIntOf,run_underlying hu,hlt',aj5 hok,aa2]
def ar8(d:D)(off:Nat)(e:D):D:=
 bif Nat.beq off 0&&Nat.beq e.cells.length d.cells.length then e else .agg (ah0 d.cells off e.cells)
theorem ar9{d:D}{off:Nat}{e:D}(h:off+e.cells.length≤d.cells.length):(ar8 d off e).cells=d.cells.take off++e.cells++d.cells.drop (off+e.cells.length):=by
 unfold ar8
 cases hb:Nat.beq off 0&&Nat.beq e.cells.length d.cells.length with
 |true=>
  rw[fz4]at hb;have h1:=fz8 hb.1;have h2:=fz8 hb.2;subst h1;simp[h2]
 |false=>
  simp only[cond_false];exact ap0 _ _ _ h
theorem as0{t te:TypeId}{y z:Operand}{k i off size:Nat}{xs:List D}{d e:D}{tt:TE}(ho:o.op=.store t y z)(hdst:o.dst=none)(hy:s.ev C.E y=.pel k i off size)(hz:toD (s.ev C.E z)=some e)
  (hob:s.ob[k]? =some (.row te size xs))(hd:xs[i]? =some d)(he:aa8 C.E.T t=some tt)(hsz:Nat.beq e.cells.length tt.size=true)(hle:Nat.ble (off+e.cells.length) d.cells.length=true):
  SOp C s o (s.setOb k (.row te size (xs.set i (ar8 d off e)))):=by
 obtain⟨hok,rfl⟩:=ab0 he;have hsz':=fz8 hsz;have hle':=gc0 hle;rintro w a K Q ⟨F,σ,h1,h2,h3,hi,h4,h5,hs⟩ hK;have hv:=ao5 hz (ab6 (E:=C.E) hi hs z);have hp:=ab6 (E:=C.E) hi hs y;rw[hy]at hp;obtain⟨b,cc,n,p1,p2⟩:=hp;obtain⟨vs,q1,q2,q3,q4,q4',q5,q6,q7,q8,q9⟩:=hi.obs k _ _ hob p1;obtain⟨c1,c2,c3⟩:=hv.cells;have hil:i<xs.length:=(fy9.1 hd).1;have hdl:d.cells.length=size:=q5 d (fy6 hd);have hcl:(a.eval z).cells.toList.length=e.cells.length:=by simpa using c1
 have hone:∀v∈(a.eval z).cells.toList,v.oneCell'=true:=by
  intro u hu;obtain⟨j,hj⟩:=ga9 hu;have hlt:j<e.cells.length:=by rw[←hcl];exact(fy9.1 hj).1
  exact(c2 j _ u (fy4 hlt) (by simpa using hj)).one (c3 _ (gf2 hlt))
 have hroom:(i+1)*size≤cc*size:=Nat.mul_le_mul_right _ Oa;rw[gf5,Nat.one_mul]at hroom;have hrow:=run_storeCells_at C.E.P b (i*size+off) te (a.eval z).cells.toList 0 vs.toArray w q1 Og hone
 have hrun:(execOp a.eval o).run C.E.P w=.ok .skip (w.setRow b (vs.take (i*size+off)++(a.eval z).cells.toList++vs.drop (i*size+off+(a.eval z).cells.toList.length)).toArray):=by
  simp only[execOp,ho,Instr.storeAt,p2,Instr.sureAddr,storeVar,Sem.run_bind,Sem.run_pure,Result.andThen_ok,aj5 hok];rw[if_neg (by rw[c1,hsz'];simp)];simp only[gd2]at hrow;rw[hrow];rfl
 unfold Oper.wp;rw[hrun];simp only[Oper.upon];rw[hdst];refine hK _ _ ⟨F,σ,?_,h2,h3,?_,h4,h5,fun t=>?_⟩
 ·exact h1.setRow Of _
 ·refine hi.turn hob rfl p1 q9 ?_;have keep:∀k,F k→(w.setRow b (vs.take (i*size+off)++(a.eval z).cells.toList++vs.drop (i*size+off+(a.eval z).cells.toList.length)).toArray).heap[k]? =w.heap[k]? :=fun k hk=>an3 w b _ k (fun e=>q9 (e ▸ hk))
  have hvl:vs.length=cc*size:=q2
  have hnew:(ar8 d off e).cells.length=size:=by
   rw[ar9 hle'];simp only[fy8,gb6,gf4];omega
  refine⟨_,setRow_heap w b vs.toArray _ te _ q1,?_,by simp[q3],q4,q4',fun u hu=>?_,fun u hu c hc=>?_,fun i' u j cd hu hc=>?_,q8,q9⟩
  ·simp only[fy8,gb6,gf4,gh0,c1,hvl];omega
  ·rcases gi8 hu with h|h
   ·exact q5 u h
   ·rw[h];exact hnew
  ·rcases gi8 hu with h|h
   ·exact q6 u h c hc
   ·subst h;rw[ar9 hle',gb2,gb2]at hc;rcases hc with(hc|hc)|hc
    ·exact q6 d (fy6 hd) c (gg6 hc)
    ·exact c3 c hc
    ·exact q6 d (fy6 hd) c (gi2 hc)
  ·have e1:(vs.take (i*size+off)).length=i*size+off:=by rw[gb6];omega
   rw[ge2]at hu;split at hu
   ·rename_i hii
    subst hii
    cases hu
    have hj:j<size:=by rw[←hnew];exact(fy9.1 hc).1
    rw[ar9 hle']at hc;have e2:(d.cells.take off).length=off:=by rw[gb6];omega
    rcases fy5 j off with hlt|hge
    ·rw[fz5,ga0 Oa,ga5,if_pos hlt]at hc;obtain⟨u,r1,r2⟩:=q7 i d j cd hd hc;refine⟨u,?_,r2.mono (fun _ h=>h) keep⟩;rw[fz5,ga0 Oa,ga5,if_pos Oa];exact r1
    ·rw[fz5,ga7 Oa,e2]at hc;have hsub:i*size+j-(i*size+off)=j-off:=by omega
     rcases fy5 (j-off) e.cells.length with hlt2|hge2
     ·rw[ga0 hlt2]at hc;have hx:j-off<(a.eval z).cells.toList.length:=by omega
      refine⟨(a.eval z).cells.toList[j-off],?_,(c2 (j-off) cd _ hc (show(a.eval z).cells[j-off]? =some ((a.eval z).cells.toList[j-off]) by simp)).mono (fun _ h=>h) keep⟩;rw[fz5,ga7 Oa,e1,hsub,ga0 Oa];exact fy4 hx
     ·rw[ga7 hge2,ge4]at hc;obtain⟨u,r1,r2⟩:=q7 i d _ cd hd hc;refine⟨u,?_,r2.mono (fun _ h=>h) keep⟩;rw[fz5,ga7 Oa,e1,hsub,ga7 Oa,hcl,ge4,←r1];congr 1;omega
   ·rename_i hii
    have hj:j<size:=by rw[←q5 u (fy6 hu)];exact(fy9.1 hc).1
    obtain⟨v,r1,r2⟩:=q7 i' u j cd hu hc;refine⟨v,?_,r2.mono (fun _ h=>h) keep⟩;rcases fy5 i' i with hlt|hge
    ·have hm:(i'+1)*size≤i*size:=Nat.mul_le_mul_right _ hlt;rw[gf5,Nat.one_mul]at hm;rw[fz5,ga0 Oa,ga5,if_pos Oa];exact r1
    ·have hm:(i+1)*size≤i'*size:=Nat.mul_le_mul_right _ Oa;rw[gf5,Nat.one_mul]at hm;rw[fz5,ga7 Oa,e1,ga7 Oa,hcl,ge4,←r1];congr 1;omega
 ·exact(hs t).mono (fun _ h=>h) (fun k hk=>an3 w b _ k (fun e=>q9 (e ▸ hk))) (fun _ _ h=>h)
def as3(e:TE):Option D:=
 match ah2 e.zero.cells.toList with
 |some cs=>bif e.isAgg then some (.agg cs)else(match cs with
  |[d]=>bif d.one then some d else none
  |_=>none)
 |none=>none
theorem as4{e:TE}{d:D}(h:as3 e=some d):ah2 e.zero.cells.toList=some d.cells:=by
 unfold as3 at h;split at h
 ·rename_i cs hcs
  rw[hcs]
  cases hag:e.isAgg with
  |true=>rw[hag]at h;cases h;rfl
  |false=>
   rw[hag]at h;simp only[cond_false]at h;split at h
   ·rename_i d'
    cases hb:d'.one with
    |true=>rw[hb]at h;cases h;cases d<;>first|rfl|(simp[D.one]at hb)
    |false=>rw[hb]at h;cases h
   ·cases h
 ·cases h
theorem as5{t:TypeId}{y z:Operand}{te:TE}{ky kz:IntKind}{n:Nat}{d:D}(ho:o.op=.makeSlice t y z)(hte:al2 C.E t=some te)(hy:s.ev C.E y=.d (.imm (.int ky (n:Int))))(hz:s.ev C.E z=.d (.imm (.int kz (n:Int))))
  (hzd:as3 te=some d)(h1z:al8 te.zero.cells.toList=true)(hzs:te.zero.cells.size=te.size)(hb:te.bytes*n≤281474976710656)(hmx:n≤9223372036854775807)(hd:ac9 C o=true):
  SOp C s o (s.add o.dst (.row te.t te.size (List.replicate n d)) (.own s.ob.length)):=by
 obtain⟨hu,hok⟩:=al3 hte;obtain⟨hdesc,i0,hi0,hsize,hbytes,hzero⟩:=hok;have hc:=as4 hzd;rintro w a K Q ⟨F,σ,h1,h2,h3,hi,h4,h5,hs⟩ hK;have hvy:=ab6 (E:=C.E) hi hs y;have hvz:=ab6 (E:=C.E) hi hs z;rw[hy]at hvy;rw[hz]at hvz;have e1:=(Rd.imm_inv hvy).1;have e2:=(Rd.imm_inv hvz).1
 have hbz:(i0.bytes:Int)*(n:Int)≤281474976710656:=by
  have h:((i0.bytes*n:Nat):Int)≤281474976710656:=by rw[hbytes];omega
  rwa[Int.natCast_mul]at h
 have hrun0:=run_make (P:=C.E.P) w t te.t i0 te.zero hu hi0 hzero ky kz n n (gi9 n) (Int.le_refl _) hbz Oa
 have hrun:(execOp a.eval o).run C.E.P w=.ok (.value (.slice (some ⟨w.heap.size,0,none⟩) n n)) (w.alloc (.cells (madeCells te.zero.cells (n*te.size)) te.t)):=by
  simp only[gb1,hsize]at hrun0;simp[execOp,ho,e1,e2,hrun0]
 unfold Oper.wp;rw[hrun];have hz0:ao9 (w.alloc (.cells (madeCells te.zero.cells (n*te.size)) te.t)) F te.zero.cells.toList d.cells:=ap3 hc fun v hv=>al9 h1z v hv
 have hdl:d.cells.length=te.size:=by rw[hz0.len];simpa using hzs
 refine hK _ _ (am3 h1 h2 h3 hi h4 h5 hs hd (x:=.row te.t te.size (List.replicate n d)) (c:=n) (n:=n) ⟨(madeCells te.zero.cells (n*te.size)).toList,by simpa using am0,by simp[size_madeCells],by simp,fz6 _,(show n≤maxLen from hmx),fun x hx=>?_,fun x hx c hcx=>?_,fun i x j cd hx hcd=>?_,h1.new (fz6 _),fun hf=>?_⟩ ⟨w.heap.size,n,n,?_,rfl⟩)
 ·rw[(gh8.1 hx).2];exact hdl
 ·rw[(gh8.1 hx).2]at hcx;obtain⟨j,hj⟩:=ga9 hcx;have hlt:j<te.zero.cells.toList.length:=by rw[←hz0.len];exact(fy9.1 hj).1
  obtain⟨d',e1,e2⟩:=hz0.rd j _ (fy4 hlt);rw[hj]at e1
  cases e1
  exact e2.one_of (hz0.one _ (gf2 hlt))
 ·have hin:i<n:=by
   have:=(fy9.1 hx).1;simpa using this
  obtain rfl:x=d:=by
   rw[List.getElem?_replicate,if_pos hin]at hx
   cases hx
   rfl
  have hj:j<te.size:=by rw[←hdl];exact(fy9.1 hcd).1
  have hlt:j<te.zero.cells.toList.length:=by simpa[hzs]using hj
  obtain⟨d',e1,e2⟩:=hz0.rd j _ (fy4 hlt);rw[hcd]at e1
  cases e1
  refine⟨_,?_,e2⟩;have hjj:j<te.zero.cells.size:=by simpa using hlt
  have hmod:(i*te.size+j) % te.zero.cells.size=j:=by rw[hzs];exact(aq9 hj).2
  simp only[madeCells,Array.toList_map,Array.toList_range,fz1,gf6 (aq8 hin hj),gc1,hmod];simp[hjj]
 ·exact absurd (hi.flt _ hf) (gg9 _)
 ·rw[←hi.len];simp
end
def frzP(k:Nat)(xs:List D):Cap→Cap
 |.own i=>bif Nat.beq i k then .d (.sl xs)else .own i
 |c=>c
def as6(k:Nat)(xs:List D):X→X
 |.own i=>bif Nat.beq i k then .d (.sl xs)else .own i
 |.pel i j off z=>bif Nat.beq i k then .top else .pel i j off z
 |.sub i j off z=>bif Nat.beq i k then .top else .sub i j off z
 |.st cs=>.st (cs.map (frzP k xs))
 |x=>x
def as7(k:Nat)(xs:List D):List (Nat × X)→List (Nat × X)
 |[]=>[]
 |(n,x)::r=>(n,as6 k xs x)::as7 k xs r
def as8(k:Nat)(xs:List D):VC→VC
 |.w x=>.w (as6 k xs x)
 |.cs l=>.cs (l.map (as6 k xs))
def as9(k:Nat)(xs:List D):aa5→aa5
 |.var t c=>.var t (as8 k xs c)
 |x=>x
def frz(k:Nat)(s:St):Option St:=
 match s.ob[k]? with
 |some (.row _ _ xs)=>some ⟨as7 k xs s.tm,(s.ob.map (as9 k xs)).set k .dead⟩
 |some (.mrow _ _ xs)=>some ⟨as7 k xs s.tm,(s.ob.map (as9 k xs)).set k .dead⟩
 |_=>none
theorem at0(k:Nat)(xs:List D)(c:VC):(as8 k xs c).cells=c.cells.map (as6 k xs):=by
 cases c with
 |cs l=>rfl
 |w x=>
  have key:∀l:List D,l.map X.d=(l.map X.d).map (as6 k xs):=fun l=>by
   induction l with
   |nil=>rfl
   |cons a r ih=>
    simp only[fz7];exact congrArg _ ih
  cases x with
  |d x=>exact key _
  |own i=>
   simp only[as8,VC.cells,as6,X.cells,fz7,gd8]
   cases Nat.beq i k<;>rfl
  |pel i j off z=>
   simp only[as8,VC.cells,as6,X.cells,fz7,gd8]
   cases Nat.beq i k<;>rfl
  |sub i j off z=>
   simp only[as8,VC.cells,as6,X.cells,fz7,gd8]
   cases Nat.beq i k<;>rfl
  |_=>rfl
theorem at1(k:Nat)(xs:List D)(x:aa5):(as9 k xs x).live=x.live:=by cases x<;>rfl
theorem at2(k:Nat)(xs:List D):∀(tm:List (Nat × X)) (t:Nat),lk (as7 k xs tm) t=as6 k xs (lk tm t)
 |[],t=>rfl
 |(n,x)::r,t=>by
  simp only[as7,lk]
  cases Nat.beq n t with
  |true=>rfl
  |false=>exact at2 k xs r t
theorem at3{C:Cx}{s:St}(k:Nat){z0:aa5}{size:Nat}{xs:List D}(hob:s.ob[k]? =some z0)(hz0:z0.live=true)
  (hrow:∀{w F σ B b c n},aa6 w F σ B z0 (b,c,n)→∃(vs:List Value) (e:TypeId) (m:Nat × Nat),w.heap[b]? =some (.cells vs.toArray e m)∧vs.length=c*size∧n=xs.length∧n≤c∧c≤maxLen∧
   (∀x∈xs,x.cells.length=size)∧(∀x∈xs,∀c∈x.cells,c.one=true)∧
   (∀(i:Nat) (x:D) (j:Nat) (cd:D),xs[i]? =some x→x.cells[j]? =some cd→∃v,vs[i*size+j]? =some v∧Rd w F cd v)∧ ¬ B b∧ ¬ F b):Le C s ⟨as7 k xs s.tm,(s.ob.map (as9 k xs)).set k .dead⟩:=by
 ·rintro a w ⟨F,σ,h1,h2,h3,hi,h4,h5,hs⟩;have hk:k<s.ob.length:=(fy9.1 hob).1;have hkσ:k<σ.length:=by rw[hi.len];exact hk
  obtain⟨b,c,n,hp⟩:∃b c n,σ[k]? =some (b,c,n):=⟨_,_,_,fy4 hkσ⟩;have hobs:=hi.obs k _ _ hob hp;obtain⟨vs,e,mk,q1,q2,q3,q4,q5,q6,q7,q8,q9,q10⟩:=hrow hobs;have hlt:b<w.heap.size:=(hi.obs k _ _ hob hp).lt hz0
  have hnew:Rd w (fun i=>F i∨i=b) (.sl xs) (.slice (some ⟨b,0,none⟩) n c):=by
   have hex:∀i j,∃u,∀x cd,xs[i]? =some x→x.cells[j]? =some cd→vs[i*size+j]? =some u∧Rd w F cd u:=by
    intro i j
    cases hx:xs[i]? with
    |none=>exact⟨undef,fun x cd h=>by cases h⟩
    |some x=>
     cases hc:x.cells[j]? with
     |none=>exact⟨undef,fun x' cd h h'=>by cases h;rw[hc]at h';cases h'⟩
     |some cd=>
      obtain⟨u,e1,e2⟩:=q8 i x j cd hx hc;exact⟨u,fun x' cd' h h'=>by cases h;rw[hc]at h';cases h';exact⟨e1,e2⟩⟩
   rw[q3];refine .sl size xs ⟨b,0,none⟩ c (fun i j=>Classical.choose (hex i j)) Oa q5 (fun _=>.inr rfl) q6 q7 (fun i x j cd hx hc=>?_) (fun i x j cd hx hc=>?_)
   ·rw[aa2,aj8 q1,gc3];exact(Classical.choose_spec (hex i j) x cd hx hc).1
   ·exact(Classical.choose_spec (hex i j) x cd hx hc).2.mono (fun _ h=>.inl h) fun _ _=>rfl
  have hX:∀x v,RdX w F σ x v→RdX w (fun i=>F i∨i=b) σ (as6 k xs x) v:=by
   intro x v hx;have base:=hx.mono (F':=fun i=>F i∨i=b) (fun _ h=>.inl h) (fun _ _=>rfl) (fun _ _ h=>h)
   cases x with
   |own i=>
    simp only[as6]
    cases hb:Nat.beq i k with
    |false=>exact base
    |true=>
     obtain rfl:=fz8 hb;obtain⟨b',c',n',e1,e2⟩:=hx;rw[hp]at e1
     cases e1
     rw[e2];exact hnew
   |pel i j off z=>
    simp only[as6]
    cases hb:Nat.beq i k with
    |false=>exact base
    |true=>trivial
   |sub i j off z=>
    simp only[as6]
    cases hb:Nat.beq i k with
    |false=>exact base
    |true=>trivial
   |st cs=>
    obtain⟨us,e,hl,h1,hr⟩:=base;obtain⟨us',e',-,-,hr'⟩:=hx;rw[e]at e';obtain rfl:us=us':=by simpa using e'
    refine⟨us,e,by simpa using hl,h1,fun i c u hc hu=>?_⟩;rw[fz1,fz9]at hc;obtain⟨c',hc',rfl⟩:=hc;have h0:=hr i c' u hc' hu;have h0':=hr' i c' u hc' hu
    cases c' with
    |d x=>exact h0
    |ptr o off=>exact h0
    |own o=>
     simp only[frzP]
     cases hb:Nat.beq o k with
     |false=>exact h0
     |true=>
      obtain rfl:=fz8 hb;obtain⟨b',c',n',e1,e2⟩:=h0';rw[hp]at e1
      cases e1
      rw[e2];exact hnew
   |_=>exact base
  refine⟨fun i=>F i∨i=b,σ,h1,fun i h=>.inl (h2 i h),fun i h=>?_,⟨fun i h=>?_,hi.glob.mono (fun _ h=>.inl h) (fun _ _=>rfl),by simp[hi.len],fun o x p hx hpx=>?_,fun o o' x x' p p' hne hx hl hx' hl' hpx hpx'=>?_,hi.pre⟩,h4,h5,fun t=>?_⟩
  ·rcases h with h|h
   ·exact h3 i h
   ·rw[h];exact .inr q9
  ·rcases h with h|h
   ·exact hi.flt i h
   ·rw[h];exact hlt
  ·rw[ge2]at hx;split at hx
   ·split at hx
    ·cases hx;trivial
    ·cases hx
   ·rename_i hne
    rw[fz1,fz9]at hx;obtain⟨y,hy,rfl⟩:=hx;have hob0:=hi.obs o y p hy hpx
    cases hlv:y.live with
    |false=>cases y<;>simp[aa5.live]at hlv<;>trivial
    |true=>
     have hnb:p.1≠b:=fun e=>hi.inj k o _ y (b,c,n) p hne hob hz0 hy hlv hp hpx e.symm
     obtain⟨b',c',n'⟩:=p
     cases y with
     |var ty cs=>
      obtain⟨us,r1,r2,r3,r4,r5,r6⟩:=hob0;refine⟨us,r1,?_,r3,fun i x v hx hv=>?_,r5,fun h=>h.elim r6 hnb⟩
      ·rw[at0,fz3];exact r2
      ·rw[at0,fz1,fz9]at hx;obtain⟨x0,hx0,rfl⟩:=hx;exact hX x0 v (r4 i x0 v hx0 hv)
     |row e' size' xs'=>
      obtain⟨us,r1,r2,r3,r4,r5,r6,r7,r8,r9,r10⟩:=hob0;refine⟨us,r1,r2,r3,r4,r5,r6,r7,fun i x j cd hx hc=>?_,r9,fun h=>h.elim r10 hnb⟩;obtain⟨v,e1,e2⟩:=r8 i x j cd hx hc;exact⟨v,e1,e2.mono (fun _ h=>.inl h) fun _ _=>rfl⟩
     |mrow e' size' xs'=>
      obtain⟨us,r1,r2,r3,r4,r5,r6,r7,r8,r9,r10⟩:=hob0;refine⟨us,r1,r2,r3,r4,r5,r6,r7,fun i x j cd hx hc=>?_,r9,fun h=>h.elim r10 hnb⟩;obtain⟨v,e1,e2⟩:=r8 i x j cd hx hc;exact⟨v,e1,e2.mono (fun _ h=>.inl h) fun _ _=>rfl⟩
     |map kd xs'=>
      obtain⟨es,r1,r2,r3,r4,r5,r6⟩:=hob0;exact⟨es,r1,r2,fun i e x hx hc=>⟨(r3 i e x hx hc).1,(r3 i e x hx hc).2.mono (fun _ h=>.inl h) fun _ _=>rfl⟩,r4,r5,fun h=>h.elim r6 hnb⟩
     |dead=>trivial
  ·have key:∀(o:Nat) (z:aa5),((s.ob.map (as9 k xs)).set k .dead)[o]? =some z→z.live=true→∃u:aa5,s.ob[o]? =some u∧u.live=true:=by
    intro o z hz hzl;rw[ge2]at hz;split at hz
    ·split at hz
     ·cases hz;simp[aa5.live]at hzl
     ·cases hz
    ·rw[fz1,fz9]at hz;obtain⟨u,hu,rfl⟩:=hz;exact⟨u,hu,by rw[at1]at hzl;exact hzl⟩
   obtain⟨u,u1,u2⟩:=key o x hx hl;obtain⟨u',u1',u2'⟩:=key o' x' hx' hl';exact hi.inj o o' u u' p p' hne u1 u2 u1' u2' hpx hpx'
  ·rw[at2];exact hX _ _ (hs t)
theorem at4{C:Cx}{s s':St}(k:Nat)(h:frz k s=some s'):Le C s s':=by
 unfold frz at h;split at h
 ·rename_i e size xs hob
  cases h
  exact at3 k hob rfl fun h=>let⟨vs,h⟩:=h;⟨vs,_,_,h⟩
 ·rename_i e size xs hob
  cases h
  exact at3 k hob rfl fun h=>let⟨vs,h⟩:=h;⟨vs,_,_,h⟩
 ·cases h
end Go.Abs
namespace Go.Abs
open Go Go.RowKit
section
variable{C:Cx}{s:St}{o:Oper}{x:X}{p:Prop}
def at5(E:Env)(s:St)(size:Nat):Nat→List (Nat × Operand)→Option (List D)
 |_,[]=>some []
 |k,(i,y)::r=>bif Nat.beq i k then(match toD (s.ev E y)with
  |some d=>bif Nat.beq d.cells.length size then(match at5 E s size (k+1) r with
   |some ds=>some (d::ds)
   |none=>none)else none
  |none=>none)else none
theorem at6{E:Env}{size:Nat}{w:World}{F:Nat→Prop}{σ:Sg}{a:Act}:∀(parts:List (Nat × Operand)) (k:Nat) (vs:Array Value) (ds:List D),at5 E s size k parts=some ds→(k+ds.length)*size≤vs.size→
  (∀q∈parts,RdX w F σ (s.ev E q.2) (a.eval q.2))→
  ∃vs',Instr.fill (fun i=>some (i*size,size)) vs (parts.map fun q=>(q.1,a.eval q.2))=some vs'∧vs'.size=vs.size∧(∀j,j<k*size→vs'.toList[j]? =vs.toList[j]?)∧
   (∀d∈ds,d.cells.length=size)∧(∀d∈ds,∀c∈d.cells,c.one=true)∧∀(i:Nat) (x:D) (j:Nat) (cd:D),ds[i]? =some x→x.cells[j]? =some cd→∃v,vs'.toList[(k+i)*size+j]? =some v∧Rd w F cd v
 |[],k,vs,ds,h,_,_=>by
  simp only[at5]at h
  cases h
  exact⟨vs,rfl,rfl,fun _ _=>rfl,by simp,by simp,fun i x j cd h=>by simp at h⟩
 |(i,y)::r,k,vs,ds,h,hsz,hall=>by
  simp only[at5]at h
  cases hb:Nat.beq i k with
  |false=>rw[hb]at h;cases h
  |true=>
   obtain rfl:=fz8 hb;rw[hb]at h;simp only[cond_true]at h;split at h
   ·rename_i d hd
    cases hc:Nat.beq d.cells.length size with
    |false=>rw[hc]at h;cases h
    |true=>
     rw[hc]at h;simp only[cond_true]at h;have hdl:=fz8 hc;split at h
     ·rename_i ds' hds
      cases h
      have hv:Rd w F d (a.eval y):=ao5 hd (hall (i,y) Oc);obtain⟨c1,c2,c3⟩:=hv.cells;simp only[fy7]at hsz
      have hexp:(i+(ds'.length+1))*size=i*size+size+ds'.length*size:=by
       rw[gf5,gf5,Nat.one_mul];omega
      have hset:=ap1 (a.eval y).cells.toList vs (i*size) 0 Og;simp only[gd2,gh0,c1,hdl]at hset;have hl1:(List.take (i*size) vs.toList).length=i*size:=by rw[gb6,gh0];omega
      have hl2:(a.eval y).cells.toList.length=size:=by simp[c1,hdl]
      have hsize':(((a.eval y).cells.toList.zipIdx 0).foldl (fun cs (c,j)=>cs.setIfInBounds (i*size+j) c) vs).size=vs.size:=by
       rw[←gh0,hset];simp only[fy8,gb6,gf4,gh0,c1,hdl];omega
      obtain⟨vs',e1,e2,e3,e4,e5,e6⟩:=at6 r (i+1) _ ds' hds (by rw[hsize'];rw[gf5,gf5,Nat.one_mul];omega) (fun q hq=>hall q (by simp[hq]))
      have low:∀j,j<i*size+size→vs'.toList[j]? =(vs.toList.take (i*size)++(a.eval y).cells.toList++vs.toList.drop (i*size+size))[j]? :=by
       intro j hj;rw[e3 j (by rw[gf5,Nat.one_mul];exact hj),hset]
      refine⟨vs',?_,e2.trans hsize',fun j hj=>?_,fun d' hd'=>?_,fun d' hd'=>?_,fun i' x j cd hx hcd=>?_⟩
      ·simp only[fz7,Instr.fill];rw[if_neg (by simp only[gb0,decide_eq_true_eq];omega)];rw[←e1];congr 1;rw[←Array.foldl_toList];congr 1;simp[Array.toList_zipIdx]
      ·rw[low j Oa,fz5,ga0 Oa,ga5,if_pos hj]
      ·rcases fz0.1 hd' with h|h
       ·rw[h];exact hdl
       ·exact e4 d' h
      ·rcases fz0.1 hd' with h|h
       ·rw[h];exact c3
       ·exact e5 d' h
      ·cases i' with
       |zero=>
        simp at hx;subst hx;have hj:j<size:=by rw[←hdl];exact(fy9.1 hcd).1
        rw[gd2,low _ Oa,fz5,ga7 Oa,hl1,show i*size+j-i*size=j from by omega,ga0 Oa];have hlt:j<(a.eval y).cells.toList.length:=Oa
        exact⟨_,fy4 hlt,c2 j cd _ hcd Oc⟩
       |succ i'=>
        obtain⟨v,r1,r2⟩:=e6 i' x j cd (by simpa using hx) hcd;refine⟨v,?_,r2⟩;rw[←r1];congr 2;rw[show i+(i'+1)=i+1+i' from by omega]
     ·cases h
   ·cases h
theorem at7{t:TypeId}{n:Nat}{parts:List (Nat × Operand)}{te:TE}{ds:List D}(ho:o.op=.buildSlice t n parts.toArray)(hte:al2 C.E t=some te)(hp:at5 C.E s te.size 0 parts=some ds)(hn:n=ds.length)
  (hsm:n*te.size≤16777216)(hn6:n≤16777216):VOp C s o (.d (.sl ds)):=by
 obtain⟨hu,hok⟩:=al3 hte;intro F σ w a K Q hi hr hK;have hsz:=aj5 (w:=w) hok
 have fin:∀zs:Array Value,∃vs',Instr.fill (fun i=>some (i*te.size,te.size)) ((Array.range (n*te.size)).map (zs[· % zs.size]!)) (parts.map fun q=>(q.1,a.eval q.2))=some vs'∧(∀d∈ds,d.cells.length=te.size)∧(∀d∈ds,∀c∈d.cells,c.one=true)∧
   ∀(i:Nat) (x:D) (j:Nat) (cd:D),ds[i]? =some x→x.cells[j]? =some cd→∃v,vs'.toList[(0+i)*te.size+j]? =some v∧Rd w F cd v:=fun zs=>by
  obtain⟨vs',e1,-,-,e4,e5,e6⟩:=at6 (s:=s) (E:=C.E) (size:=te.size) (w:=w) (F:=F) (σ:=σ) (a:=a) parts 0 ((Array.range (n*te.size)).map (zs[· % zs.size]!)) ds hp (by simp[hn]) (fun q hq=>hr q.2 (by simp[ho,Op.operands];exact⟨q.1,hq⟩));exact⟨vs',e1,e4,e5,e6⟩
 have hparts:(parts.toArray.map fun(i,x)=>(i,a.eval x)).toList=parts.map fun q=>(q.1,a.eval q.2):=Oc
 obtain⟨vs',hrun,e4,e5,e6⟩:∃vs',(execOp a.eval o).run C.E.P w=.ok (.value (.slice (some ⟨w.heap.size,0,none⟩) n n)) (w.alloc (.cells vs' te.t))∧(∀d∈ds,d.cells.length=te.size)∧(∀d∈ds,∀c∈d.cells,c.one=true)∧
   ∀(i:Nat) (x:D) (j:Nat) (cd:D),ds[i]? =some x→x.cells[j]? =some cd→∃v,vs'.toList[(0+i)*te.size+j]? =some v∧Rd w F cd v:=by
  by_cases h0:n*te.size=0
  ·obtain⟨vs',e1,e456⟩:=fin #[];refine⟨vs',?_,e456⟩;simp only[execOp,ho,Instr.buildSlice,Sem.run_bind,run_underlying hu,Result.andThen_ok,hsz];rw[if_neg Oa,if_pos h0];simp only[Sem.run_bind,Sem.run_pure,Result.andThen_ok,hparts,e1,newRow];rfl
  ·obtain⟨vs',e1,e456⟩:=fin te.zero.cells;refine⟨vs',?_,e456⟩;simp only[execOp,ho,Instr.buildSlice,Sem.run_bind,run_underlying hu,Result.andThen_ok,hsz];rw[if_neg Oa,if_neg h0];simp only[Sem.run_bind,Sem.run_pure,Result.andThen_ok,am5 hok,hparts,e1,newRow];rfl
 unfold Oper.wp;rw[hrun];have hx:=am2 (F:=F) (.cells vs' te.t) hi.flt
 have he:Ext w F (w.alloc (.cells vs' te.t)) (fun b=>F b∨b=w.heap.size):=
  ⟨hx.below,fun b h=>.inl h,fun b h=>by rcases h with h|h;exact .inl h;exact .inr Oa,fun b h=>by rcases h with h|h;exact hx.lt b h;rw[h];simp⟩
 refine hK _ _ _ he ?_
 have hex:∀i j,∃u,∀x cd,ds[i]? =some x→x.cells[j]? =some cd→vs'.toList[i*te.size+j]? =some u∧Rd w F cd u:=by
  intro i j
  cases hx:ds[i]? with
  |none=>exact⟨undef,fun x cd h=>by cases h⟩
  |some x=>
   cases hc:x.cells[j]? with
   |none=>exact⟨undef,fun x' cd h h'=>by cases h;rw[hc]at h';cases h'⟩
   |some cd=>
    obtain⟨u,e1,e2⟩:=e6 i x j cd hx hc;rw[gc3]at e1;exact⟨u,fun x' cd' h h'=>by cases h;rw[hc]at h';cases h';exact⟨e1,e2⟩⟩
 have hheap:(w.alloc (.cells vs' te.t)).heap[w.heap.size]? =some (.cells vs'.toList.toArray te.t (0,0)):=by simpa using am0
 have hmx':n≤maxLen:=by show n≤9223372036854775807;omega
 subst hn
 exact Rd.sl te.size ds ⟨w.heap.size,0,none⟩ ds.length (fun i j=>Classical.choose (hex i j)) (fz6 _) hmx' (fun _=>.inr rfl) e4 e5 (fun i x j cd hx hc=>by
   rw[aa2,aj8 hheap,gc3];exact(Classical.choose_spec (hex i j) x cd hx hc).1) (fun i x j cd hx hc=>(((Classical.choose_spec (hex i j) x cd hx hc).2).ext he hi.flt))
end
end Go.Abs
namespace Go.Abs
open Go Go.RowKit
section
variable{C:Cx}{s:St}{o:Oper}{x:X}{p:Prop}
def at8(E:Env)(t:TypeId):Option TypeDesc:=match aa8 E.T t with|some e=>some e.desc|none=>none
theorem at9{E:Env}{t:TypeId}{d:TypeDesc}(h:at8 E t=some d):E.P.underlying t=some d:=by
 unfold at8 at h;split at h
 ·rename_i e he
  cases h
  obtain⟨hok,rfl⟩:=ab0 he;exact hok.1
 ·cases h
def u8s:List D→Option (List Int)
 |[]=>some []
 |.imm (.int .u8 n)::r=>(match u8s r with
  |some ns=>some (n::ns)
  |none=>none)
 |_=>none
theorem au0:∀{xs:List D} {ns:List Int},u8s xs=some ns→xs=ns.map fun n=>.imm (.int .u8 n)
 |[],ns,h=>by simp only[u8s]at h;cases h;rfl
 |.imm (.int .u8 n)::r,ns,h=>by
  simp only[u8s]at h;split at h
  ·rename_i ns' h'
   cases h
   rw[au0 h'];rfl
  ·cases h
def strOf(ns:List Int):ByteArray:=ns.foldl (fun r n=>r.push (UInt8.ofNat n.toNat)) ByteArray.empty
theorem au1(ns:List Int):(strOf ns).size=ns.length:=by
 have key:∀(ns:List Int) (b:ByteArray),(ns.foldl (fun r n=>r.push (UInt8.ofNat n.toNat)) b).size=b.size+ns.length:=by
  intro ns
  induction ns with
  |nil=>intro b;rfl
  |cons n r ih=>
   intro b;rw[gd3,ih];simp only[ByteArray.size_push,fy7];omega
 unfold strOf;rw[key];simp
def au2(E:Env)(src dst:TypeId):X→VR
 |.d (.imm (.int _ n))=>(match at8 E src,at8 E dst with
  |some _,some (.int k)=>some (inR k n,.d (.imm (.int k n)))
  |_,_=>none)
 |.d (.imm (.string b))=>(match at8 E src,at8 E dst with
  |some .string,some .string=>some (True,.d (.imm (.string b)))
  |_,_=>none)
 |.d (.sl xs)=>(match at8 E src,at8 E dst with
  |some (.slice e),some .string=>(match at8 E e with
   |some (.int .u8)=>(match u8s xs with
    |some ns=>some (True,.d (.imm (.string (strOf ns))))
    |none=>none)
   |_=>none)
  |_,_=>none)
 |_=>none
theorem au3{w:World}{F:Nat→Prop}{P:Program}{ns:List Int}{v:Value}{src dst e:TypeId}(hs:P.underlying src=some (.slice e))(he:P.underlying e=some (.int .u8))(hd:P.underlying dst=some .string)
  (h:Rd w F (.sl (ns.map fun n=>.imm (.int .u8 n))) v):(convert src dst v).run P w=.ok (.string (strOf ns)) w∧ns.length≤maxLen:=by
 rcases Rd.sl_inv h with⟨h0,rfl⟩|⟨size,ad,cap,rfl,h1,h2,h3,h4,h5,h6⟩
 ·have:ns=[]:=by simpa using h0
  subst this;refine⟨?_,by simp⟩;simp only[convert,Sem.run_bind,run_underlying hs,run_underlying hd,Result.andThen_ok,run_underlying he,Conv.bytesToString,Sem.run_pure];rfl
 ·simp only[fz3]at h1;refine⟨?_,by omega⟩
  have hl:=run_loadCells_list (P:=P) (w:=w) ad (ns.map (Value.int .u8)) (fun j v hj=>by
   rw[fz1,fz9]at hj;obtain⟨n,hn,rfl⟩:=hj;have hx:(ns.map fun n=>D.imm (.int .u8 n))[j]? =some (.imm (.int .u8 n)):=by rw[fz1,hn];rfl
   have hsz:size=1:=(h4 _ (fy6 hx)).symm;obtain⟨u,e1,e2⟩:=h6 j _ 0 _ hx rfl;obtain⟨rfl,-⟩:=Rd.imm_inv e2;rw[hsz,Nat.mul_one,gd2]at e1;exact e1)
  simp only[fz3]at hl;simp only[convert,Sem.run_bind,run_underlying hs,run_underlying hd,Result.andThen_ok,run_underlying he,fz3];exact run_bytesToString w ad ns.length cap ns hl
theorem au4{src dst:TypeId}{y:Operand}(ho:o.op=.convert src dst y)(h:au2 C.E src dst (s.ev C.E y)=some (p,x))(hp:p):VOp C s o x:=by
 refine VOp.pure_ fun F σ w a hi hr=>?_
 have hy:=hr y (by simp[ho,Op.operands])
 have key:∀v,(convert src dst (a.eval y)).run C.E.P w=.ok v w→(execOp a.eval o).run C.E.P w=.ok (.value v) w:=by
  intro v hv;simp[execOp,ho,hv]
 generalize s.ev C.E y=xy at*;unfold au2 at h;split at h
 ·rename_i k n
  obtain⟨e1,-⟩:=Rd.imm_inv hy;split at h
  ·rename_i d k' hs hd
   obtain⟨rfl,rfl⟩:=Prod.mk.inj (Option.some.inj h);refine⟨_,key (.int k' n) ?_,Rd.imm _ (af5 hp)⟩;rw[e1];simp only[convert,Sem.run_bind,run_underlying (at9 hs),run_underlying (at9 hd),Result.andThen_ok,Conv.intToInt,af7 hp];rfl
  ·cases h
 ·rename_i b
  obtain⟨e1,e2⟩:=Rd.imm_inv hy;split at h
  ·rename_i hs hd
   obtain⟨rfl,rfl⟩:=Prod.mk.inj (Option.some.inj h);refine⟨_,key (.string b) ?_,Rd.imm _ e2⟩;rw[e1];simp only[convert,Sem.run_bind,run_underlying (at9 hs),run_underlying (at9 hd),Result.andThen_ok];rfl
  ·cases h
 ·rename_i xs
  split at h
  ·rename_i e hs hd
   split at h
   ·rename_i he
    split at h
    ·rename_i ns hns
     obtain⟨rfl,rfl⟩:=Prod.mk.inj (Option.some.inj h);rw[au0 hns]at hy;obtain⟨r1,r2⟩:=au3 (at9 hs) (at9 he) (at9 hd) hy;exact⟨_,key _ r1,Rd.imm _ (by simp only[okV,decide_eq_true_eq,au1];exact r2)⟩
    ·cases h
   ·cases h
  ·cases h
 ·cases h
def nnil:X→Bool
 |.ptr _ _|.at_ _ _|.pel _ _ _ _|.d (.imm (.func _ _ _))=>true
 |_=>false
theorem au5{y:Operand}(ho:o.op=.nilCheck y)(h:nnil (s.ev C.E y)=true):VOp C s o (s.ev C.E y):=by
 refine VOp.pure_ fun F σ w a hi hr=>?_
 have hy:=hr y (by simp[ho,Op.operands])
 have key:(∃ad,a.eval y=.pointer (some ad))→∃v,(execOp a.eval o).run C.E.P w=.ok (.value v) w∧RdX w F σ (s.ev C.E y) v:=by
  rintro⟨ad,e⟩;exact⟨a.eval y,by simp[execOp,ho,e],hy⟩
 revert key hy;unfold nnil at h;split at h
 ·rename_i e;rw[e];intro hy key;obtain⟨b,c,n,-,e⟩:=hy;exact key ⟨_,e⟩
 ·rename_i e;rw[e];intro hy key;obtain⟨ad,-,e⟩:=hy;exact key ⟨_,e⟩
 ·rename_i e;rw[e];intro hy key;obtain⟨b,c,n,-,e⟩:=hy;exact key ⟨_,e⟩
 ·rename_i fn f b e
  rw[e];intro hy _;obtain⟨e1,hk⟩:=Rd.imm_inv hy
  cases fn with
  |func g=>exact⟨_,by simp[execOp,ho,e1],Rd.imm _ hk⟩
  |_=>simp[okV]at hk
 ·cases h
def au6(E:Env)(t:TypeId)(x:X):Prop:=
 match x with
 |.d (.sl xs)=>∃te,al2 E t=some te∧∀d∈xs,d.cells.length=te.size
 |_=>True
def vop2(C:Cx)(s:St)(o:Oper):VR:=
 match o.op with
 |.slice t y lo hi none=>(match ag8 C.E t (s.ev C.E y) (lo.map (s.ev C.E)) (hi.map (s.ev C.E))with
  |some (p,x)=>some (p∧au6 C.E t (s.ev C.E y),x)
  |none=>none)
 |.convert src dst y=>au2 C.E src dst (s.ev C.E y)
 |.buildSlice t n parts=>(match al2 C.E t with
  |some te=>(match at5 C.E s te.size 0 parts.toList with
   |some ds=>bif Nat.beq n ds.length&&(Nat.ble (n*te.size) 16777216&&Nat.ble n 16777216)then some (True,.d (.sl ds))else none
   |none=>none)
  |none=>none)
 |.indexAddr t y z=>(match s.ev C.E y,s.ev C.E z,al2 C.E t with
  |.own k,.d (.imm (.int _ i)),some te=>(match s.ob[k]? with
   |some (.row e size xs)=>bif Nat.beq e te.t&&Nat.beq size te.size then some (0≤i∧i<xs.length,.pel k i.toNat 0 te.size)else none
   |_=>none)
  |_,_,_=>none)
 |.nilCheck y=>bif nnil (s.ev C.E y)then some (True,s.ev C.E y)else none
 |_=>none
theorem au7(h:vop2 C s o=some (p,x))(hp:p):VOp C s o x:=by
 unfold vop2 at h;split at h
 ·rename_i t y lo hi ho
  split at h
  ·rename_i q x' hq
   obtain⟨rfl,rfl⟩:=Prod.mk.inj (Option.some.inj h);refine al5 ho (fun xs hx=>?_) hq hp.1;have:=hp.2;rw[hx]at this;exact this
  ·cases h
 ·exact au4 ‹_› h hp
 ·rename_i t n parts ho
  obtain⟨parts⟩:=parts;split at h
  ·rename_i te hte
   split at h
   ·rename_i ds hds
    cases hb:Nat.beq n ds.length&&(Nat.ble (n*te.size) 16777216&&Nat.ble n 16777216)with
    |false=>rw[hb]at h;cases h
    |true=>
     rw[hb]at h;obtain⟨rfl,rfl⟩:=Prod.mk.inj (Option.some.inj h);rw[fz4,fz4]at hb;exact at7 ho hte hds (fz8 hb.1) (gc0 hb.2.1) (gc0 hb.2.2)
   ·cases h
  ·cases h
 ·rename_i t y z ho
  split at h
  ·rename_i k kd i te hy hz hte
   split at h
   ·rename_i e size xs hob
    cases hb:Nat.beq e te.t&&Nat.beq size te.size with
    |false=>rw[hb]at h;cases h
    |true=>
     rw[hb]at h;obtain⟨rfl,rfl⟩:=Prod.mk.inj (Option.some.inj h);rw[fz4]at hb;obtain rfl:=fz8 hb.1;obtain rfl:=fz8 hb.2;exact ar7 ho hy hz hob hte hp.1 hp.2
   ·cases h
  ·cases h
 ·rename_i y ho
  cases hb:nnil (s.ev C.E y)with
  |false=>rw[hb]at h;cases h
  |true=>
   rw[hb]at h;obtain⟨rfl,rfl⟩:=Prod.mk.inj (Option.some.inj h);exact au5 ho hb
 ·cases h
def au8(ob:List aa5)(te:TE):X→Option (Option Nat × List D)
 |.nilS=>some (none,[])
 |.d (.imm (.slice none 0 0))=>some (none,[])
 |.own i=>(match ob[i]? with
  |some (.row e size xs)=>bif Nat.beq e te.t&&Nat.beq size te.size then some (some i,xs)else none
  |_=>none)
 |_=>none
def au9(C:Cx)(o:Oper)(tm:List (Nat × X))(ob:List aa5):Option (Prop × List (Nat × X) × List aa5):=
 match o.op with
 |.makeSlice t y z=>(match o.dst,al2 C.E t,(⟨tm,ob⟩:St).ev C.E y,(⟨tm,ob⟩:St).ev C.E z with
  |some d,some te,.d (.imm (.int _ (.ofNat n))),.d (.imm (.int _ (.ofNat m)))=>(match as3 te with
   |some z=>bif Nat.blt d C.N&&(al8 te.zero.cells.toList&&Nat.beq te.zero.cells.size te.size)then
     some (n=m∧te.bytes*n≤281474976710656∧n≤9223372036854775807,(d,.own ob.length)::tm,ob++ [.row te.t te.size (List.replicate n z)])else none
   |none=>none)
  |_,_,_,_=>none)
 |.call c=>(match c.callee with
  |.builtin .append=>(match o.dst,c.args.toList,c.argTypes.toList with
   |some d,[y,z],[t,t']=>(match al2 C.E t,(⟨tm,ob⟩:St).ev C.E z with
    |some te,.d (.sl ys)=>(match au8 ob te ((⟨tm,ob⟩:St).ev C.E y)with
     |some (oi,xs)=>bif Nat.blt d C.N&&(Nat.beq t t'&&(Nat.beq te.zero.cells.size te.size&&Nat.blt 0 te.size))then
       some (ys≠ []∧(∀d∈ys,d.cells.length=te.size)∧(xs.length+ys.length)*te.bytes≤140737488355328∧xs.length+ys.length≤9223372036854775807,
        (d,.own ob.length)::tm,(match oi with|some i=>ob.set i .dead|none=>ob)++ [.row te.t te.size (xs++ys)])else none
     |none=>none)
    |_,_=>none)
   |_,_,_=>none)
  |_=>none)
 |_=>none
theorem av0{tm tm':List (Nat × X)}{ob ob':List aa5}(h:au9 C o tm ob=some (p,tm',ob'))(hp:p):SOp C ⟨tm,ob⟩ o ⟨tm',ob'⟩:=by
 unfold au9 at h;split at h
 ·rename_i t y z ho
  split at h
  ·rename_i d te ky n kz m hdst hte hy hz
   split at h
   ·rename_i zd hzd
    cases hb:Nat.blt d C.N&&(al8 te.zero.cells.toList&&Nat.beq te.zero.cells.size te.size)with
    |false=>rw[hb]at h;cases h
    |true=>
     rw[hb]at h;simp only[cond_true,Option.some.injEq,Prod.mk.injEq]at h;obtain⟨rfl,rfl,rfl⟩:=h;rw[fz4,fz4]at hb;obtain⟨rfl,h1,h2⟩:=hp;have:=as5 (s:=⟨tm,ob⟩) (n:=n) ho hte hy hz hzd hb.2.1 (fz8 hb.2.2) h1 h2 (by simp only[ac9,hdst];exact hb.1);rw[hdst]at this;exact this
   ·cases h
  ·cases h
 ·rename_i c ho
  obtain⟨ce,args,tys⟩:=c;obtain⟨args⟩:=args;obtain⟨tys⟩:=tys;simp only at h;split at h
  ·split at h
   ·rename_i d y z t t' hdst
    split at h
    ·rename_i te ys hte hz
     split at h
     ·rename_i oi xs hown
      cases hb:Nat.blt d C.N&&(Nat.beq t t'&&(Nat.beq te.zero.cells.size te.size&&Nat.blt 0 te.size))with
      |false=>rw[hb]at h;cases h
      |true=>
       rw[hb]at h;simp only[cond_true,Option.some.injEq,Prod.mk.injEq]at h;obtain⟨rfl,rfl,rfl⟩:=h;rw[fz4,fz4,fz4]at hb;obtain⟨h1,h2,h3,h4⟩:=hp;obtain rfl:=fz8 hb.2.1;have hs0:0<te.size:=by simpa using hb.2.2.2
       have hy:(oi=none∧((⟨tm,ob⟩:St).ev C.E y=.nilS∨(⟨tm,ob⟩:St).ev C.E y=.d (.imm (.slice none 0 0)))∧xs=[])∨∃i,oi=some i∧(⟨tm,ob⟩:St).ev C.E y=.own i∧ob[i]? =some (.row te.t te.size xs):=by
        unfold au8 at hown;split at hown
        ·rename_i e;cases hown;exact .inl ⟨rfl,.inl e,rfl⟩
        ·rename_i e;cases hown;exact .inl ⟨rfl,.inr e,rfl⟩
        ·rename_i i e
         split at hown
         ·rename_i e' size' xs' hob
          cases hb':Nat.beq e' te.t&&Nat.beq size' te.size with
          |false=>rw[hb']at hown;cases hown
          |true=>
           rw[hb']at hown;simp only[cond_true,Option.some.injEq,Prod.mk.injEq]at hown;obtain⟨rfl,rfl⟩:=hown;rw[fz4]at hb';obtain rfl:=fz8 hb'.1;obtain rfl:=fz8 hb'.2;exact .inr ⟨i,rfl,e,hob⟩
         ·cases hown
        ·cases hown
       have:=ar4 (s:=⟨tm,ob⟩) ho hte hy hz h1 h2 (fz8 hb.2.2.1) hs0 h3 h4 (by simp only[ac9,hdst];exact hb.1);rw[hdst]at this;exact this
     ·cases h
    ·cases h
   ·cases h
  ·cases h
 ·cases h
def av1(C:Cx)(all:Array Oper)(pu:Bool)(o:Oper)(tm:List (Nat × X))(ob:List aa5):Option (Prop × List (Nat × X) × List aa5):=
 match ap8 all tm o with
 |some true=>(match vop2 C ⟨tm,ob⟩ o with
  |some (p,x)=>(match o.dst with
   |some d=>bif Nat.blt d C.N then some (p,(d,x)::tm,ob)else none
   |none=>none)
  |none=>(match pu with
   |true=>aq0 C all pu o tm ob
   |false=>(match au9 C o tm ob with
    |some r=>some r
    |none=>aq0 C all pu o tm ob)))
 |_=>aq0 C all pu o tm ob
theorem qS{all:Array Oper}{pu:Bool}{K:St→Prop}{rest:List Oper}{tm tm':List (Nat × X)}{ob ob':List aa5}(hv:av1 C all pu o tm ob=some (p,tm',ob'))(hp:p)(h:SGo C all pu rest ⟨tm',ob'⟩ K):
  SGo C all pu (o::rest) ⟨tm,ob⟩ K:=by
 unfold av1 at hv;split at hv
 ·rename_i hg
  split at hv
  ·rename_i q x hx
   split at hv
   ·rename_i d hd
    cases hN:Nat.blt d C.N with
    |false=>rw[hN]at hv;cases hv
    |true=>
     rw[hN]at hv;simp only[cond_true,Option.some.injEq,Prod.mk.injEq]at hv;obtain⟨rfl,rfl,rfl⟩:=hv;refine SGo.vop (ap9 hg) (by simp only[ac9,hd];exact hN) (au7 hx hp) ?_;rw[hd];exact h
   ·cases hv
  ·split at hv
   ·exact aq1 hv hp h
   ·split at hv
    ·rename_i r hr
     cases hv
     exact SGo.eff (ap9 hg) (av0 hr hp) h
    ·exact aq1 hv hp h
 ·exact aq1 hv hp h
section
variable{all:Array Oper}{pu:Bool}{K:St→Prop}{rest:List Oper}{tm:List (Nat × X)}{ob:List aa5}{d:Nat}
theorem av2{y:X}(hg:ap8 all tm o=some true)(hdst:o.dst=some d)(hd:Nat.blt d C.N=true)(hv:VOp C ⟨tm,ob⟩ o y)(h:SGo C all pu rest ⟨(d,y)::tm,ob⟩ K):SGo C all pu (o::rest) ⟨tm,ob⟩ K:=by
 refine SGo.vop (ap9 hg) (by simp only[ac9,hdst];exact hd) hv ?_;rw[hdst];exact h
theorem qX{j t:Nat}{pol b b':Bool}{q:Oper}(_hg:o.guard=some (j,pol))(_hj:all[j]? =some q)(_hq:q.dst=some t)(hb:lk tm t=.d (.imm (.bool b)))(he:b=b')
  (h:SGo C all pu (o::rest) ⟨(t,.d (.imm (.bool b')))::tm,ob⟩ K):SGo C all pu (o::rest) ⟨tm,ob⟩ K:=by
 subst he;refine SGo.same (s1:=⟨(t,.d (.imm (.bool b)))::tm,ob⟩) ⟨fun u=>?_,rfl⟩ h;simp only[lk]
 cases hbq:Nat.beq t u with
 |true=>obtain rfl:=fz8 hbq;exact hb.symm
 |false=>rfl
theorem qW{t te:TypeId}{y:Operand}{i k off size:Nat}{xs:List D}(e:D)(ho:o.op=.load t y)(hg:ap8 all tm o=some true)(hdst:o.dst=some d)(hd:Nat.blt d C.N=true)
  (hy:(⟨tm,ob⟩:St).ev C.E y=.pel k i off size)(hob:ob[k]? =some (.row te size xs))(he:xs[i]? =some e)(hl:ag4 C.E ob t (.at_ e off)=some (p,x))(h:SGo C all pu rest ⟨(d,x)::tm,ob⟩ K):SGo C all pu (o::rest) ⟨tm,ob⟩ K:=
 av2 hg hdst hd (ar6 ho hy hob he hl) h
theorem qZ{t te:TypeId}{y z:Operand}{k i off size:Nat}{xs:List D}{v:D}{tt:TE}(e:D)(ho:o.op=.store t y z)(hg:ap8 all tm o=some true)(hdst:o.dst=none)(hy:(⟨tm,ob⟩:St).ev C.E y=.pel k i off size)(hz:toD ((⟨tm,ob⟩:St).ev C.E z)=some v)
  (hob:ob[k]? =some (.row te size xs))(he:xs[i]? =some e)(ht:aa8 C.E.T t=some tt)(hsz:Nat.beq v.cells.length tt.size=true)(hle:Nat.ble (off+v.cells.length) e.cells.length=true)
  (h:SGo C all false rest ⟨tm,ob.set k (.row te size (xs.set i (ar8 e off v)))⟩ K):SGo C all false (o::rest) ⟨tm,ob⟩ K:=
 SGo.eff (ap9 hg) (as0 ho hdst hy hz hob he ht hsz hle) h
end
theorem av3{c:Code}{r:List It}{Q:Exit→St→Prop}{tm:List (Nat × X)}{ob:List aa5}{s':St}(k:Nat)(h:frz k ⟨tm,ob⟩=some s')(hg:go C (.code c::r) s' Q):go C (.code c::r) ⟨tm,ob⟩ Q:=ac7 (at4 k h) hg
end
inductive Fit:D→Prop
 |imm (v:Value) (h:okV v=true):Fit (.imm v)
 |agg (cs:List D) (h:∀c∈cs,Fit c):Fit (.agg cs)
 |sl (xs:List D) (hl:xs.length≤maxLen) (h:∀x∈xs,Fit x):Fit (.sl xs)
theorem av4{x:D}(h:∀c∈x.cells,Fit c):Fit x:=by
 cases x with
 |agg cs=>exact .agg cs h
 |imm v=>exact h _ (by simp[D.cells])
 |sl xs=>exact h _ (by simp[D.cells])
theorem Rd.fit{w:World}{F:Nat→Prop}{d:D}{v:Value}(h:Rd w F d v):Fit d:=by
 induction h with
 |imm v h=>exact .imm v h
 |agg cs vs hl hc h ih=>
  refine .agg cs fun c hc'=>?_
  obtain⟨i,hi⟩:=ga9 hc';have hlt:i<vs.length:=by rw[←hl];exact(fy9.1 hi).1
  exact ih i c _ hi (fy4 hlt)
 |slnil=>exact .sl [] Oc Oc
 |sl size xs ad cap u hc hm hF hz ho hcell hrd ih=>
  refine .sl xs (gb8 hc hm) fun x hx=>av4 fun c hc=>?_
  obtain⟨i,hi⟩:=ga9 hx;obtain⟨j,hj⟩:=ga9 hc;exact ih i x j c hi hj
theorem Ev.fit{E:Env}{f:FuncId}{ds:List D}{r:X}(h:(∀d∈ds,Fit d)→Ev E f ds r):Ev E f ds r:=by
 intro w F vs hF hG hl hr;refine h (fun d hd=>?_) w F vs hF hG hl hr;obtain⟨i,hi⟩:=ga9 hd;have hlt:i<vs.length:=by rw[hl];exact(fy9.1 hi).1
 exact(hr i d _ hi (fy4 hlt)).fit
theorem Fit.int{k:IntKind}{n:Int}(h:Fit (.imm (.int k n))):inR k n:=by cases h with|imm _ h=>exact af6 h
theorem Fit.str{s:ByteArray}(h:Fit (.imm (.string s))):s.size≤9223372036854775807:=by
 cases h with
 |imm _ h=>
  simp only[okV,decide_eq_true_eq]at h;exact h
theorem Fit.aggs{cs:List D}(h:Fit (.agg cs)):∀c∈cs,Fit c:=by cases h with|agg _ h=>exact h
theorem Fit.sls{xs:List D}(h:Fit (.sl xs)):xs.length≤9223372036854775807∧∀x∈xs,Fit x:=by cases h with|sl _ h1 h2=>exact⟨h1,h2⟩
theorem av5{a b:Int}(hb:1≤b):(0≤a→0≤a.tmod b∧a.tmod b≤a∧a.tmod b<b)∧(a<0→a≤a.tmod b∧a.tmod b≤0∧ -b<a.tmod b):=by
 have key:∀a:Int,0≤a→0≤a.tmod b∧a.tmod b≤a∧a.tmod b<b:=by
  intro a h;rw[gg2 h];refine⟨Int.emod_nonneg a Oa,?_,Int.emod_lt_of_pos a Oa⟩;have h1:=Int.emod_add_mul_ediv a b;have h2:=Int.mul_nonneg (show 0≤b by omega) (Int.ediv_nonneg h (show 0≤b by omega));omega
 refine⟨key a,fun h=>?_⟩;have:=key (-a) Oa;rw[Int.neg_tmod]at this;omega
theorem av6{a b:Int}(hb:1≤b):(0≤a→0≤a.tdiv b∧a.tdiv b≤a)∧(a<0→a≤a.tdiv b∧a.tdiv b≤0):=by
 have key:∀a:Int,0≤a→0≤a.tdiv b∧a.tdiv b≤a:=by
  intro a h;rw[gi3 h];exact⟨Int.ediv_nonneg h Oa,Int.ediv_le_self b h⟩
 refine⟨key a,fun h=>?_⟩;have:=key (-a) Oa;rw[Int.neg_tdiv]at this;omega
theorem av7{a b:Int}(hb:1≤b)(ha: -9223372036854775808≤a∧a≤9223372036854775807):b≠0∧inR .i64 (a.tmod b):=by
 obtain⟨h1,h2⟩:=av5 (a:=a) hb;refine⟨by omega,?_⟩;simp only[inR];rcases(show a<0∨0≤a by omega)with h|h
 ·have:=h2 h;omega
 ·have:=h1 h;omega
theorem av8{a b:Int}(hb:1≤b)(ha: -9223372036854775808≤a∧a≤9223372036854775807):b≠0∧inR .i64 (a.tdiv b):=by
 obtain⟨h1,h2⟩:=av6 (a:=a) hb;refine⟨by omega,?_⟩;simp only[inR];rcases(show a<0∨0≤a by omega)with h|h
 ·have:=h2 h;omega
 ·have:=h1 h;omega
end Go.Abs
namespace Go.Abs
open Go Go.RowKit
section
variable{C:Cx}{s:St}{o:Oper}{x:X}{p:Prop}
theorem av9{t:TypeId}{y z:Operand}{te:TE}{ky kz:IntKind}{n:Nat}{d:D}(ho:o.op=.makeSlice t y z)(hte:al2 C.E t=some te)(hy:s.ev C.E y=.d (.imm (.int ky (n:Int))))(hz:s.ev C.E z=.d (.imm (.int kz (n:Int))))
  (hzd:as3 te=some d)(h1z:al8 te.zero.cells.toList=true)(hzs:te.zero.cells.size=te.size)(hb:te.bytes*n≤281474976710656)(hmx:n≤9223372036854775807):VOp C s o (.d (.sl (List.replicate n d))):=by
 obtain⟨hu,hok⟩:=al3 hte;obtain⟨hdesc,i0,hi0,hsize,hbytes,hzero⟩:=hok;have hc:=as4 hzd;intro F σ w a K Q hi hr hK;have hvy:=hr y (by simp[ho,Op.operands]);have hvz:=hr z (by simp[ho,Op.operands]);rw[hy]at hvy;rw[hz]at hvz;have e1:=(Rd.imm_inv hvy).1;have e2:=(Rd.imm_inv hvz).1
 have hbz:(i0.bytes:Int)*(n:Int)≤281474976710656:=by
  have h:((i0.bytes*n:Nat):Int)≤281474976710656:=by rw[hbytes];omega
  rwa[Int.natCast_mul]at h
 have hrun0:=run_make (P:=C.E.P) w t te.t i0 te.zero hu hi0 hzero ky kz n n (gi9 n) (Int.le_refl _) hbz Oa
 have hrun:(execOp a.eval o).run C.E.P w=.ok (.value (.slice (some ⟨w.heap.size,0,none⟩) n n)) (w.alloc (.cells (madeCells te.zero.cells (n*te.size)) te.t)):=by
  simp only[gb1,hsize]at hrun0;simp[execOp,ho,e1,e2,hrun0]
 unfold Oper.wp;rw[hrun];have hx:=am2 (F:=F) (.cells (madeCells te.zero.cells (n*te.size)) te.t) hi.flt
 have he:Ext w F (w.alloc (.cells (madeCells te.zero.cells (n*te.size)) te.t)) (fun b=>F b∨b=w.heap.size):=
  ⟨hx.below,fun b h=>.inl h,fun b h=>by rcases h with h|h;exact .inl h;exact .inr Oa,fun b h=>by rcases h with h|h;exact hx.lt b h;rw[h];simp⟩
 have hz0:ao9 (w.alloc (.cells (madeCells te.zero.cells (n*te.size)) te.t)) (fun b=>F b∨b=w.heap.size) te.zero.cells.toList d.cells:=ap3 hc fun v hv=>al9 h1z v hv
 have hdl:d.cells.length=te.size:=by rw[hz0.len];simpa using hzs
 refine hK _ _ _ he ?_;have hheap:(w.alloc (.cells (madeCells te.zero.cells (n*te.size)) te.t)).heap[w.heap.size]? =some (.cells (madeCells te.zero.cells (n*te.size)).toList.toArray te.t (0,0)):=by simpa using am0
 have hlen:(List.replicate n d).length=n:=Oc
 have hget:∀(i:Nat) x,(List.replicate n d)[i]? =some x→i<n∧x=d:=by
  intro i x hx
  have hin:i<n:=by
   have:=(fy9.1 hx).1;simpa using this
  rw[List.getElem?_replicate,if_pos hin]at hx
  cases hx
  exact⟨hin,rfl⟩
 have key:Rd (w.alloc (.cells (madeCells te.zero.cells (n*te.size)) te.t)) (fun b=>F b∨b=w.heap.size) (.sl (List.replicate n d)) (.slice (some ⟨w.heap.size,0,none⟩) (List.replicate n d).length n):=by
  refine Rd.sl te.size _ ⟨w.heap.size,0,none⟩ n (fun _ j=>te.zero.cells.toList.getD j undef) (by rw[hlen];exact fz6 _) hmx (fun _=>.inr rfl) (fun x hx=>?_) (fun x hx c hcx=>?_) (fun i x j cd hx hcd=>?_) (fun i x j cd hx hcd=>?_)
  ·rw[(gh8.1 hx).2];exact hdl
  ·rw[(gh8.1 hx).2]at hcx;obtain⟨j,hj⟩:=ga9 hcx;have hlt:j<te.zero.cells.toList.length:=by rw[←hz0.len];exact(fy9.1 hj).1
   obtain⟨d',e1,e2⟩:=hz0.rd j _ (fy4 hlt);rw[hj]at e1
   cases e1
   exact e2.one_of (hz0.one _ (gf2 hlt))
  ·obtain⟨hin,rfl⟩:=hget i x hx;have hj:j<te.size:=by rw[←hdl];exact(fy9.1 hcd).1
   have hjj:j<te.zero.cells.size:=by rw[hzs];exact hj
   have hmod:(i*te.size+j) % te.zero.cells.size=j:=by rw[hzs];exact(aq9 hj).2
   rw[aa2,aj8 hheap,gc3];simp only[madeCells,Array.toList_map,Array.toList_range,fz1,gf6 (aq8 hin hj),gc1,hmod];simp[hjj]
  ·obtain⟨hin,rfl⟩:=hget i x hx;have hj:j<te.size:=by rw[←hdl];exact(fy9.1 hcd).1
   have hlt:j<te.zero.cells.toList.length:=by simpa[hzs]using hj
   obtain⟨d',e1,e2⟩:=hz0.rd j _ (fy4 hlt);rw[hcd]at e1
   cases e1
   rw[gd6,fy4 hlt];exact e2
 rw[hlen]at key;exact key
section
variable{all:Array Oper}{pu:Bool}{K:St→Prop}{rest:List Oper}{tm:List (Nat × X)}{ob:List aa5}{k:Nat}
theorem aw0{t:TypeId}{y z:Operand}{te:TE}{ky kz:IntKind}(n:Nat){d:D}(ho:o.op=.makeSlice t y z)(hg:ap8 all tm o=some true)(hdst:o.dst=some k)(hd:Nat.blt k C.N=true)(hte:al2 C.E t=some te)(hy:(⟨tm,ob⟩:St).ev C.E y=.d (.imm (.int ky (n:Int))))(hz:(⟨tm,ob⟩:St).ev C.E z=.d (.imm (.int kz (n:Int))))
  (hzd:as3 te=some d)(h1z:al8 te.zero.cells.toList=true)(hzs:te.zero.cells.size=te.size)(hb:te.bytes*n≤281474976710656)(hmx:n≤9223372036854775807)(h:SGo C all pu rest ⟨(k,.d (.sl (List.replicate n d)))::tm,ob⟩ K):
  SGo C all pu (o::rest) ⟨tm,ob⟩ K:=
 av2 hg hdst hd (av9 ho hte hy hz hzd h1z hzs hb hmx) h
end
end
end Go.Abs
