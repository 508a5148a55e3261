/- Forgetting objects: some are kept, under new numbers. Conditions: none. -/
import Derived.Test.YtpjnngfjbcjikaaDoorEng15
namespace Go.Abs
open Go Go.RowKit

def pos : List Nat → Nat → Option Nat
  | [], _ => none
  | k :: r, o => bif Nat.beq k o then some 0 else (pos r o).map (· + 1)
theorem pos_get : ∀ {ks : List Nat} {o i : Nat}, pos ks o = some i → ks[i]? = some o
  | [], o, i, h => by simp [pos] at h
  | k :: r, o, i, h => by
    simp only [pos] at h
    cases hb : Nat.beq k o with
    | true => rw [hb] at h; cases h; rw [Nat.eq_of_beq_eq_true hb]; rfl
    | false =>
      rw [hb] at h
      simp only [cond_false, Option.map_eq_some_iff] at h
      obtain ⟨j, hj, rfl⟩ := h
      simpa using pos_get hj
def renX (ks : List Nat) : X → Option X
  | .ptr o off => (pos ks o).map (.ptr · off)
  | .own o => (pos ks o).map .own
  | .pel o i off z => (pos ks o).map (.pel · i off z)
  | .d x => some (.d x)
  | .nilS => some .nilS
  | .tup l => some (.tup l)
  | .at_ x k => some (.at_ x k)
  | .mayb p => some (.mayb p)
  | .und => some .und
  | .top => some .top
def renL (ks : List Nat) : List X → Option (List X)
  | [] => some []
  | x :: r => match renX ks x with
    | some y => (renL ks r).map (y :: ·)
    | none => none
def renV (ks : List Nat) : VC → Option VC
  | .w x => match x with
    | .d d => some (.w (.d d))
    | x => (renX ks x).map .w
  | .cs l => (renL ks l).map .cs
def renO (ks : List Nat) : AObj → Option AObj
  | .var t c => (renV ks c).map (.var t)
  | .row e size xs => some (.row e size xs)
  | .dead => some .dead
def renObs (ks : List Nat) (ob : List AObj) : List Nat → Option (List AObj)
  | [] => some []
  | k :: r => match ob[k]? with
    | some x => (match renO ks x with
      | some y => (renObs ks ob r).map (y :: ·)
      | none => none)
    | none => none
def nodupB : List Nat → Bool
  | [] => true
  | k :: r => (r.all fun j => !Nat.beq k j) && nodupB r
theorem nodupB_ne : ∀ {ks : List Nat} {i j a : Nat}, nodupB ks = true → ks[i]? = some a → ks[j]? = some a → i = j
  | [], i, j, a, _, h, _ => by simp at h
  | k :: r, i, j, a, h, hi, hj => by
    simp only [nodupB, Bool.and_eq_true] at h
    have key : ∀ (m : Nat), r[m]? = some k → False := fun m hm => by
      have := List.all_eq_true.1 h.1 k (List.mem_of_getElem? hm)
      simp at this
    cases i with
    | zero =>
      simp at hi
      subst hi
      cases j with
      | zero => rfl
      | succ j => exact (key j (by simpa using hj)).elim
    | succ i =>
      cases j with
      | zero => simp at hj; subst hj; exact (key i (by simpa using hi)).elim
      | succ j =>
        have := nodupB_ne (i := i) (j := j) (a := a) h.2 (by simpa using hi) (by simpa using hj)
        omega

theorem renX_rd {w : World} {F : Nat → Prop} {σ σ' : Sg} {ks : List Nat} (hσ : ∀ (i o : Nat), ks[i]? = some o → σ'[i]? = σ[o]?) {x y : X} {v : Value} (h : renX ks x = some y) (hv : RdX w F σ x v) : RdX w F σ' y v := by
  cases x with
  | ptr o off =>
    simp only [renX, Option.map_eq_some_iff] at h
    obtain ⟨i, hi, rfl⟩ := h
    obtain ⟨b, c, n, e1, e2⟩ := hv
    exact ⟨b, c, n, by rw [hσ i o (pos_get hi)]; exact e1, e2⟩
  | own o =>
    simp only [renX, Option.map_eq_some_iff] at h
    obtain ⟨i, hi, rfl⟩ := h
    obtain ⟨b, c, n, e1, e2⟩ := hv
    exact ⟨b, c, n, by rw [hσ i o (pos_get hi)]; exact e1, e2⟩
  | pel o j off z =>
    simp only [renX, Option.map_eq_some_iff] at h
    obtain ⟨i, hi, rfl⟩ := h
    obtain ⟨b, c, n, e1, e2⟩ := hv
    exact ⟨b, c, n, by rw [hσ i o (pos_get hi)]; exact e1, e2⟩
  | d x => simp only [renX] at h; cases h; exact hv
  | nilS => simp only [renX] at h; cases h; exact hv
  | tup l => simp only [renX] at h; cases h; exact hv
  | at_ x k => simp only [renX] at h; cases h; exact hv
  | mayb p => simp only [renX] at h; cases h; exact hv
  | und => simp only [renX] at h; cases h; exact hv
  | top => simp only [renX] at h; cases h; exact hv
theorem renL_get {ks : List Nat} : ∀ {l l' : List X}, renL ks l = some l' → l'.length = l.length ∧ ∀ (i : Nat) y, l'[i]? = some y → ∃ x, l[i]? = some x ∧ renX ks x = some y
  | [], l', h => by simp only [renL] at h; cases h; exact ⟨rfl, fun i y h => by simp at h⟩
  | x :: r, l', h => by
    simp only [renL] at h
    split at h
    · rename_i y hy
      simp only [Option.map_eq_some_iff] at h
      obtain ⟨r', hr, rfl⟩ := h
      obtain ⟨e1, e2⟩ := renL_get hr
      refine ⟨by simp [e1], fun i z hz => ?_⟩
      cases i with
      | zero => simp at hz; subst hz; exact ⟨x, rfl, hy⟩
      | succ i => simpa using e2 i z (by simpa using hz)
    · cases h
theorem renV_cells {ks : List Nat} {c c' : VC} (h : renV ks c = some c') : c'.cells.length = c.cells.length ∧ ∀ (i : Nat) y, c'.cells[i]? = some y → ∃ x, c.cells[i]? = some x ∧ renX ks x = some y := by
  have hd : ∀ (d : D) (i : Nat) y, (d.cells.map X.d)[i]? = some y → ∃ x, (d.cells.map X.d)[i]? = some x ∧ renX ks x = some y := fun d i y hy => by
    refine ⟨y, hy, ?_⟩
    rw [List.getElem?_map, Option.map_eq_some_iff] at hy
    obtain ⟨c, -, rfl⟩ := hy
    rfl
  have one : ∀ x y : X, x.cells = [x] → y.cells = [y] → renX ks x = some y → (VC.w y).cells.length = (VC.w x).cells.length ∧ ∀ (i : Nat) z, (VC.w y).cells[i]? = some z → ∃ u, (VC.w x).cells[i]? = some u ∧ renX ks u = some z := by
    intro x y hx hy hr
    simp only [VC.cells, hx, hy]
    refine ⟨rfl, fun i z hz => ?_⟩
    cases i with
    | zero => simp at hz; subst hz; exact ⟨x, rfl, hr⟩
    | succ i => simp at hz
  cases c with
  | cs l =>
    simp only [renV, Option.map_eq_some_iff] at h
    obtain ⟨l', hl, rfl⟩ := h
    exact renL_get hl
  | w x =>
    cases x with
    | d d => simp only [renV] at h; cases h; exact ⟨rfl, hd d⟩
    | ptr o off =>
      simp only [renV, renX, Option.map_eq_some_iff] at h
      obtain ⟨y, ⟨i, hi, rfl⟩, rfl⟩ := h
      exact one _ _ rfl rfl (by simp only [renX, hi]; rfl)
    | own o =>
      simp only [renV, renX, Option.map_eq_some_iff] at h
      obtain ⟨y, ⟨i, hi, rfl⟩, rfl⟩ := h
      exact one _ _ rfl rfl (by simp only [renX, hi]; rfl)
    | pel o j off z =>
      simp only [renV, renX, Option.map_eq_some_iff] at h
      obtain ⟨y, ⟨i, hi, rfl⟩, rfl⟩ := h
      exact one _ _ rfl rfl (by simp only [renX, hi]; rfl)
    | nilS => simp only [renV, renX, Option.map_some] at h; cases h; exact one _ _ rfl rfl rfl
    | tup l => simp only [renV, renX, Option.map_some] at h; cases h; exact one _ _ rfl rfl rfl
    | at_ x k => simp only [renV, renX, Option.map_some] at h; cases h; exact one _ _ rfl rfl rfl
    | mayb p => simp only [renV, renX, Option.map_some] at h; cases h; exact one _ _ rfl rfl rfl
    | und => simp only [renV, renX, Option.map_some] at h; cases h; exact one _ _ rfl rfl rfl
    | top => simp only [renV, renX, Option.map_some] at h; cases h; exact one _ _ rfl rfl rfl
theorem renO_ok {w : World} {F : Nat → Prop} {σ σ' : Sg} {B : Nat} {ks : List Nat} (hσ : ∀ (i o : Nat), ks[i]? = some o → σ'[i]? = σ[o]?) {x y : AObj} {p : Nat × Nat × Nat} (h : renO ks x = some y) (hx : ObOK w F σ B x p) : ObOK w F σ' B y p := by
  obtain ⟨b, c, n⟩ := p
  cases x with
  | var t cs =>
    simp only [renO, Option.map_eq_some_iff] at h
    obtain ⟨cs', hc, rfl⟩ := h
    obtain ⟨e1, e2⟩ := renV_cells hc
    obtain ⟨vs, h1, h2, h3, h4, h5, h6⟩ := hx
    refine ⟨vs, h1, by rw [e1, h2], h3, fun i z v hz hv => ?_, h5, h6⟩
    obtain ⟨u, hu, hr⟩ := e2 i z hz
    exact renX_rd hσ hr (h4 i u v hu hv)
  | row e size xs => simp only [renO] at h; cases h; exact hx
  | dead => simp only [renO] at h; cases h; exact hx
theorem renO_live {ks : List Nat} {x y : AObj} (h : renO ks x = some y) : x.live = y.live := by
  cases x with
  | var t cs => simp only [renO, Option.map_eq_some_iff] at h; obtain ⟨cs', hc, rfl⟩ := h; rfl
  | row e size xs => simp only [renO] at h; cases h; rfl
  | dead => simp only [renO] at h; cases h; rfl
theorem renObs_get {ks : List Nat} {ob : List AObj} : ∀ {l : List Nat} {ob' : List AObj}, renObs ks ob l = some ob' → ob'.length = l.length ∧ ∀ (i : Nat) y, ob'[i]? = some y → ∃ k x, l[i]? = some k ∧ ob[k]? = some x ∧ renO ks x = some y
  | [], ob', h => by simp only [renObs] at h; cases h; exact ⟨rfl, fun i y h => by simp at h⟩
  | k :: r, ob', h => by
    simp only [renObs] at h
    split at h
    · rename_i x hx
      split at h
      · rename_i y hy
        simp only [Option.map_eq_some_iff] at h
        obtain ⟨r', hr, rfl⟩ := h
        obtain ⟨e1, e2⟩ := renObs_get hr
        refine ⟨by simp [e1], fun i z hz => ?_⟩
        cases i with
        | zero => simp at hz; subst hz; exact ⟨k, x, rfl, hx, hy⟩
        | succ i => simpa using e2 i z (by simpa using hz)
      · cases h
    · cases h
def TmRen (tm : List (Nat × X)) (ks : List Nat) : List (Nat × X) → Prop
  | [] => True
  | (k, x) :: r => renX ks (lk tm k) = some x ∧ TmRen tm ks r
theorem Le.ren {C : Cx} {tm tm' : List (Nat × X)} {ob ob' : List AObj} (ks : List Nat) (hn : nodupB ks = true) (hob : renObs ks ob ks = some ob') (ht : TmRen tm ks tm') : Le C ⟨tm, ob⟩ ⟨tm', ob'⟩ := by
  rintro a w ⟨F, σ, h1, h2, h3, hi, h4, h5, hs⟩
  obtain ⟨e1, e2⟩ := renObs_get hob
  have hlen := hi.len
  have hin : ∀ (i k : Nat), ks[i]? = some k → k < σ.length := fun i k hk => by
    have hlt : i < ob'.length := by rw [e1]; exact (List.getElem?_eq_some_iff.1 hk).1
    obtain ⟨k', x, g1, g2, -⟩ := e2 i _ (List.getElem?_eq_getElem hlt)
    rw [hk] at g1
    cases g1
    rw [hlen]
    exact (List.getElem?_eq_some_iff.1 g2).1
  have hσ : ∀ (i o : Nat), ks[i]? = some o → (ks.map fun k => σ.getD k (0, 0, 0))[i]? = σ[o]? := fun i o ho => by
    rw [List.getElem?_map, ho, Option.map_some, List.getD_eq_getElem?_getD, List.getElem?_eq_getElem (hin i o ho)]
    rfl
  have hlook : ∀ (l : List (Nat × X)) (t : Nat), TmRen tm ks l → renX ks (lk tm t) = some (lk l t) ∨ lk l t = .top := by
    intro l t
    induction l with
    | nil => intro _; exact .inr rfl
    | cons p l ih =>
      intro hp
      obtain ⟨k, x⟩ := p
      simp only [lk]
      cases hb : Nat.beq k t with
      | true =>
        obtain rfl := Nat.eq_of_beq_eq_true hb
        exact .inl hp.1
      | false => exact ih hp.2
  refine ⟨F, ks.map fun k => σ.getD k (0, 0, 0), h1, h2, h3, ⟨hi.flt, hi.glob, by simp only [List.length_map]; exact e1.symm, fun o x p hx hp => ?_, fun o o' x x' p p' hne hx hl hx' hl' hp hp' => ?_⟩, h4, h5, fun t => ?_⟩
  · obtain ⟨k, y, g1, g2, g3⟩ := e2 o x hx
    rw [hσ o k g1] at hp
    exact renO_ok hσ g3 (hi.obs k y p g2 hp)
  · obtain ⟨k, y, g1, g2, g3⟩ := e2 o x hx
    obtain ⟨k', y', g1', g2', g3'⟩ := e2 o' x' hx'
    rw [hσ o k g1] at hp
    rw [hσ o' k' g1'] at hp'
    refine hi.inj k k' y y' p p' (fun e => ?_) g2 (by rw [renO_live g3]; exact hl) g2' (by rw [renO_live g3']; exact hl') hp hp'
    subst e
    exact hne (nodupB_ne hn g1 g1')
  · rcases hlook tm' t ht with e | e
    · exact renX_rd hσ e (hs t)
    · show RdX w F _ (lk tm' t) _
      rw [e]
      trivial

/-- A row that grows out of nil. -/
def rowX : List D → X
  | [] => .nilS
  | _ :: _ => .own 0
def rowO (e : TypeId) (size : Nat) : List D → List AObj
  | [] => []
  | x :: r => [.row e size (x :: r)]
end Go.Abs
