/-
What a plain value says of a value in memory, and what of it stays as memory grows. No condition.
-/
import Derived.Test.YtbmgaebhcomjaaaAb
import Derived.Test.YtbmgaebhcomjaaaAbG
namespace Go.Proofs.Ytbmgaebhcomjaaa
set_option linter.unusedSimpArgs false
set_option linter.unusedVariables false

/-- one by one -/
def PW (R : Value → V → Prop) (us : List Value) (l : List V) : Prop :=
  us.length = l.length ∧ ∀ (i : Nat) (u : Value) (x : V), us[i]? = some u → l[i]? = some x → R u x

section
variable {R R' : Value → V → Prop}
theorem PW.nil : PW R [] [] := ⟨rfl, fun i u x h => by simp at h⟩
theorem PW.imp {us : List Value} {l : List V} (h : PW R us l) (hr : ∀ u x, R u x → R' u x) : PW R' us l := ⟨h.1, fun i u x hu hx => hr _ _ (h.2 i u x hu hx)⟩
theorem PW.impm {us : List Value} {l : List V} (h : PW R us l) (hr : ∀ u x, x ∈ l → R u x → R' u x) : PW R' us l := ⟨h.1, fun i u x hu hx => hr _ _ (List.mem_of_getElem? hx) (h.2 i u x hu hx)⟩
theorem PW.get {us : List Value} {l : List V} (h : PW R us l) {i : Nat} {x : V} (hx : l[i]? = some x) : ∃ u, us[i]? = some u ∧ R u x := by
  have hi : i < l.length := (List.getElem?_eq_some_iff.1 hx).1
  have hu : i < us.length := by rw [h.1]; exact hi
  exact ⟨us[i], List.getElem?_eq_getElem hu, h.2 i _ _ (List.getElem?_eq_getElem hu) hx⟩
theorem PW.getl {us : List Value} {l : List V} (h : PW R us l) {i : Nat} {u : Value} (hu : us[i]? = some u) : ∃ x, l[i]? = some x ∧ R u x := by
  have hi : i < us.length := (List.getElem?_eq_some_iff.1 hu).1
  have hx : i < l.length := by rw [← h.1]; exact hi
  exact ⟨l[i], List.getElem?_eq_getElem hx, h.2 i _ _ hu (List.getElem?_eq_getElem hx)⟩
theorem PW.append {us vs : List Value} {l m : List V} (h : PW R us l) (k : PW R vs m) : PW R (us ++ vs) (l ++ m) := by
  refine ⟨by simp [h.1, k.1], fun i u x hu hx => ?_⟩
  rw [List.getElem?_append] at hu hx
  rw [h.1] at hu
  split at hu
  · rename_i hi
    rw [if_pos hi] at hx
    exact h.2 i u x hu hx
  · rename_i hi
    rw [if_neg hi] at hx
    exact k.2 _ u x hu hx
theorem PW.drop {us : List Value} {l : List V} (h : PW R us l) (n : Nat) : PW R (us.drop n) (l.drop n) := by
  refine ⟨by simp [h.1], fun i u x hu hx => ?_⟩
  rw [List.getElem?_drop] at hu hx
  exact h.2 _ u x hu hx
theorem PW.take {us : List Value} {l : List V} (h : PW R us l) (n : Nat) : PW R (us.take n) (l.take n) := by
  refine ⟨by simp [h.1], fun i u x hu hx => ?_⟩
  rw [List.getElem?_take] at hu hx
  split at hu
  · rename_i hi
    rw [if_pos hi] at hx
    exact h.2 _ u x hu hx
  · cases hu
theorem PW.cons {u : Value} {x : V} {us : List Value} {l : List V} (h : R u x) (k : PW R us l) : PW R (u :: us) (x :: l) := by
  refine ⟨by simp [k.1], fun i v y hv hy => ?_⟩
  cases i with
  | zero => simp at hv hy; subst hv; subst hy; exact h
  | succ i => simp at hv hy; exact k.2 i v y hv hy
theorem PW.one {u : Value} {x : V} (h : R u x) : PW R [u] [x] := PW.cons h PW.nil
theorem PW.uncons {x : V} {us : List Value} {l : List V} (h : PW R us (x :: l)) : ∃ u us', us = u :: us' ∧ R u x ∧ PW R us' l := by
  cases us with
  | nil => simp [PW] at h
  | cons u us' =>
    refine ⟨u, us', rfl, h.2 0 u x rfl rfl, by simpa using h.1, fun i v y hv hy => h.2 (i + 1) v y (by simpa using hv) (by simpa using hy)⟩
theorem PW.nil_r {us : List Value} (h : PW R us []) : us = [] := List.eq_nil_of_length_eq_zero (by simpa using h.1)
theorem PW.consts (vs : List Value) (hr : ∀ v, R v (.s v)) : PW R vs (vs.map .s) := by
  refine ⟨by simp, fun i u x hu hx => ?_⟩
  rw [List.getElem?_map, hu] at hx
  simp at hx
  subst hx
  exact hr _
theorem PW.spl {us vs : List Value} {l m : List V} (h : PW R us l) (k : PW R vs m) (off : Nat) : PW R (us.take off ++ vs ++ us.drop (off + vs.length)) (spl l off m) := by
  unfold Proofs.Ytbmgaebhcomjaaa.spl
  rw [k.1]
  exact ((h.take off).append k).append (h.drop _)
theorem PW.set {us : List Value} {l : List V} (h : PW R us l) {i : Nat} {u : Value} {x : V} (k : R u x) : PW R (us.set i u) (l.set i x) := by
  refine ⟨by simp [h.1], fun j v y hv hy => ?_⟩
  rw [List.getElem?_set] at hv hy
  split at hv
  · rename_i hi
    rw [if_pos hi] at hy
    split at hv <;> simp at hv
    split at hy <;> simp at hy
    subst hv; subst hy; exact k
  · rename_i hi
    rw [if_neg hi] at hy
    exact h.2 j v y hv hy
end

/-- the cells behind a slice's address, in no block of one's own -/
def RdC (w : World) (own fresh : Nat → Prop) (k : Bool) (A : Option Addr) (us : List Value) : Prop :=
  us = [] ∨ ∃ g o, A = some ⟨g, o, none⟩ ∧ ¬ own g ∧ (k = true → fresh g) ∧ ∀ j u, us[j]? = some u → w.cell? ⟨g, o + j, none⟩ = some u

/-- values that hang on nothing that is still written -/
inductive RC (w : World) (own fresh : Nat → Prop) : Bool → Value → V → Prop
  | s (k : Bool) (v : Value) : RC w own fresh k v (.s v)
  | agg (k : Bool) (us : List Value) (l : List V) (hl : us.length = l.length) (he : ∀ (i : Nat) (u : Value) (x : V), us[i]? = some u → l[i]? = some x → RC w own fresh k u x) :
      RC w own fresh k (.agg us.toArray) (.agg l)
  | tup (k : Bool) (us : List Value) (l : List V) (hl : us.length = l.length) (he : ∀ (i : Nat) (u : Value) (x : V), us[i]? = some u → l[i]? = some x → RC w own fresh k u x) :
      RC w own fresh k (.tuple us.toArray) (.tup l)
  | lst (k fr : Bool) (sz : Nat) (l : List V) (A : Option Addr) (cp : Nat) (us : List Value) (hc : l.length ≤ cp) (hu : ∀ x ∈ l, x.cells.length = sz) (hl : us.length = (flat l).length)
      (he : ∀ (i : Nat) (u : Value) (x : V), us[i]? = some u → (flat l)[i]? = some x → RC w own fresh k u x) (h1 : ∀ u ∈ us, u.oneCell' = true) (hr : RdC w own fresh k A us) :
      RC w own fresh k (.slice A l.length cp) (.lst fr sz l)
  | ept (us : List Value) (l : List V) (g o : Nat) (hl : us.length = l.length) (he : ∀ (i : Nat) (u : Value) (x : V), us[i]? = some u → l[i]? = some x → RC w own fresh false u x)
      (hr : us = [] ∨ (¬ own g ∧ ∀ j u, us[j]? = some u → w.cell? ⟨g, o + j, none⟩ = some u)) : RC w own fresh false (.pointer (some ⟨g, o, none⟩)) (.ept l)
  | fn (k : Bool) (f : Nat) (us : List Value) (l : List V) (hl : us.length = l.length) (he : ∀ (i : Nat) (u : Value) (x : V), us[i]? = some u → l[i]? = some x → RC w own fresh k u x) :
      RC w own fresh k (.func (.func f) #[] us.toArray) (.fn f l)

section
variable {w w' : World} {own own' fresh fresh' : Nat → Prop} {k : Bool} {v : Value} {x : V}

theorem cell_same {w w' : World} {g o : Nat} (h : w'.heap[g]? = w.heap[g]?) : w'.cell? ⟨g, o, none⟩ = w.cell? ⟨g, o, none⟩ := by simp [World.cell?, h]

theorem RdC.mono {A : Option Addr} {us : List Value} (h : RdC w own fresh k A us) (hw : ∀ g, ¬ own g → g < w.heap.size → w'.heap[g]? = w.heap[g]? ∧ ¬ own' g) : RdC w' own' fresh k A us := by
  rcases h with h | ⟨g, o, hA, ho, hf, hc⟩
  · exact .inl h
  · cases us with
    | nil => exact .inl rfl
    | cons u us =>
      have hg : g < w.heap.size := World.block_lt_of_cell? w _ (hc 0 u rfl)
      obtain ⟨h1, h2⟩ := hw g ho hg
      exact .inr ⟨g, o, hA, h2, hf, fun j u hu => (cell_same h1).trans (hc j u hu)⟩

theorem RC.mono (h : RC w own fresh k v x) (hw : ∀ g, ¬ own g → g < w.heap.size → w'.heap[g]? = w.heap[g]? ∧ ¬ own' g) : RC w' own' fresh k v x := by
  induction h with
  | s k v => exact .s k v
  | agg k us l hl he ih => exact .agg k us l hl ih
  | tup k us l hl he ih => exact .tup k us l hl ih
  | lst k fr sz l A cp us hc hu hl he h1 hr ih => exact .lst k fr sz l A cp us hc hu hl ih h1 (hr.mono hw)
  | ept us l g o hl he hr ih =>
    refine .ept us l g o hl ih ?_
    rcases hr with hr | ⟨ho, hc⟩
    · exact .inl hr
    · cases us with
      | nil => exact .inl rfl
      | cons u us =>
        have hg : g < w.heap.size := World.block_lt_of_cell? w _ (hc 0 u rfl)
        obtain ⟨h1, h2⟩ := hw g ho hg
        exact .inr ⟨h2, fun j u hu => (cell_same h1).trans (hc j u hu)⟩
  | fn k f us l hl he ih => exact .fn k f us l hl ih

/-- what is fresh hangs on what is fresh alone -/
theorem RC.refresh (h : RC w own fresh k v x) (hk : k = true) (hf : ∀ g, ¬ own g → fresh g → ¬ own' g ∧ fresh' g) : RC w own' fresh' k v x := by
  induction h with
  | s k v => exact .s k v
  | agg k us l hl he ih => exact .agg k us l hl fun i u x hu hx => ih i u x hu hx hk
  | tup k us l hl he ih => exact .tup k us l hl fun i u x hu hx => ih i u x hu hx hk
  | lst k fr sz l A cp us hc hu hl he h1 hr ih =>
    subst hk
    refine .lst true fr sz l A cp us hc hu hl (fun i u x hu hx => ih i u x hu hx rfl) h1 ?_
    rcases hr with hr | ⟨g, o, hA, ho, hfr, hc'⟩
    · exact .inl hr
    · have := hf g ho (hfr rfl)
      exact .inr ⟨g, o, hA, this.1, fun _ => this.2, hc'⟩
  | ept => cases hk
  | fn k f us l hl he ih => exact .fn k f us l hl fun i u x hu hx => ih i u x hu hx hk

theorem RC.weak (h : RC w own fresh k v x) : RC w own fresh' false v x := by
  induction h with
  | s k v => exact .s _ v
  | agg k us l hl he ih => exact .agg _ us l hl ih
  | tup k us l hl he ih => exact .tup _ us l hl ih
  | lst k fr sz l A cp us hc hu hl he h1 hr ih =>
    refine .lst _ fr sz l A cp us hc hu hl ih h1 ?_
    rcases hr with hr | ⟨g, o, hA, ho, hfr, hc'⟩
    · exact .inl hr
    · exact .inr ⟨g, o, hA, ho, fun h => (by cases h), hc'⟩
  | ept us l g o hl he hr ih => exact .ept us l g o hl ih hr
  | fn k f us l hl he ih => exact .fn _ f us l hl ih

theorem cloL_get {k : Bool} {l : List V} {i : Nat} {x : V} (h : V.cloL k l = true) (hx : l[i]? = some x) : V.clo k x = true := by
  induction l generalizing i with
  | nil => simp at hx
  | cons y l ih =>
    simp only [V.cloL, Bool.and_eq_true] at h
    cases i with
    | zero => simp at hx; exact hx ▸ h.1
    | succ i => exact ih h.2 (by simpa using hx)

theorem unfrL_len (l : List V) : (V.unfrL l).length = l.length := by
  induction l with
  | nil => rfl
  | cons x l ih => simp [V.unfrL, ih]
theorem unfrL_get (l : List V) (i : Nat) : (V.unfrL l)[i]? = (l[i]?).map V.unfr := by
  induction l generalizing i with
  | nil => simp [V.unfrL]
  | cons x l ih => cases i <;> simp [V.unfrL, ih]
theorem unfrL_map (l : List V) : V.unfrL l = l.map V.unfr := by
  induction l with
  | nil => rfl
  | cons x l ih => simp [V.unfrL, ih]

theorem RC.unfr (h : RC w own fresh k v x) : RC w own fresh k v x.unfr := by
  induction h with
  | s k v => exact .s k v
  | agg k us l hl he ih =>
    refine .agg k us (V.unfrL l) (by rw [unfrL_len]; exact hl) fun i u x hu hx => ?_
    rw [unfrL_get] at hx
    obtain ⟨y, hy, rfl⟩ := Option.map_eq_some_iff.1 hx
    exact ih i u y hu hy
  | tup k us l hl he ih =>
    refine .tup k us (V.unfrL l) (by rw [unfrL_len]; exact hl) fun i u x hu hx => ?_
    rw [unfrL_get] at hx
    obtain ⟨y, hy, rfl⟩ := Option.map_eq_some_iff.1 hx
    exact ih i u y hu hy
  | lst k fr sz l A cp us hc hu hl he h1 hr ih => exact .lst k false sz l A cp us hc hu hl he h1 hr
  | ept us l g o hl he hr ih => exact .ept us l g o hl he hr
  | fn k f us l hl he ih =>
    refine .fn k f us (V.unfrL l) (by rw [unfrL_len]; exact hl) fun i u x hu hx => ?_
    rw [unfrL_get] at hx
    obtain ⟨y, hy, rfl⟩ := Option.map_eq_some_iff.1 hx
    exact ih i u y hu hy

theorem unfr_cells (x : V) : x.unfr.cells = V.unfrL x.cells := by
  cases x with
  | s v => cases v <;> simp [V.unfr, V.cells, V.unfrL, unfrL_map, Function.comp_def]
  | _ => simp [V.unfr, V.cells, V.unfrL]

theorem RC.cells (h : RC w own fresh k v x) : PW (RC w own fresh k) v.cells.toList x.cells := by
  cases h with
  | s _ => cases v <;> first | exact PW.one (.s k _) | exact PW.consts _ (fun v => .s k v)
  | agg _ us l hl he => exact ⟨hl, he⟩
  | tup _ us l hl he => exact PW.one (.tup k us l hl he)
  | lst _ fr sz l A cp us hc hu hl he h1 hr => exact PW.one (.lst k fr sz l A cp us hc hu hl he h1 hr)
  | ept us l g o hl he hr => exact PW.one (.ept us l g o hl he hr)
  | fn _ f us l hl he => exact PW.one (.fn k f us l hl he)
end

/-- how a function's own things stand in memory -/
structure Cx where
  w : World
  own : Nat → Prop
  fresh : Nat → Prop
  cur : Nat → Nat
  look : Nat → Nat → Option Value

inductive RV (c : Cx) : Value → V → Prop
  | s (v : Value) : RV c v (.s v)
  | lst (fr : Bool) (sz : Nat) (l : List V) (v : Value) (h : RC c.w c.own c.fresh fr v (.lst fr sz l)) : RV c v (.lst fr sz l)
  | ept (l : List V) (v : Value) (h : RC c.w c.own c.fresh false v (.ept l)) : RV c v (.ept l)
  | agg (us : List Value) (l : List V) (hl : us.length = l.length) (he : ∀ (i : Nat) (u : Value) (x : V), us[i]? = some u → l[i]? = some x → RV c u x) : RV c (.agg us.toArray) (.agg l)
  | tup (us : List Value) (l : List V) (hl : us.length = l.length) (he : ∀ (i : Nat) (u : Value) (x : V), us[i]? = some u → l[i]? = some x → RV c u x) : RV c (.tuple us.toArray) (.tup l)
  | fn (f : Nat) (us : List Value) (l : List V) (hl : us.length = l.length) (he : ∀ (i : Nat) (u : Value) (x : V), us[i]? = some u → l[i]? = some x → RV c u x) : RV c (.func (.func f) #[] us.toArray) (.fn f l)
  | sw (b ver len : Nat) (v : Value) (hs : ∃ A cp, v = .slice A len cp) (hv : ver ≤ c.cur b) (h : ∀ v0, c.look b ver = some v0 → v = v0) : RV c v (.sw b ver len)
  | sp (b ver sz off len : Nat) (v : Value) (hs : ∃ A cp, v = .slice A len cp ∧ len ≤ cp) (hv : ver ≤ c.cur b) (h : ∀ v0, c.look b ver = some v0 → PartOf sz off v0 v) : RV c v (.sp b ver sz off len)
  | ptr (b ver off : Nat) (v : Value) (hs : ∃ A, v = .pointer (some A)) (hv : ver ≤ c.cur b)
      (h : ∀ v0, c.look b ver = some v0 → ∃ g o, v0 = .pointer (some ⟨g, o, none⟩) ∧ v = .pointer (some ⟨g, o + off, none⟩)) : RV c v (.ptr b ver off)
  | rp (b ver sz i off : Nat) (v : Value) (hs : ∃ A, v = .pointer (some A)) (hv : ver ≤ c.cur b)
      (h : ∀ v0, c.look b ver = some v0 → ∃ g o n cap, v0 = .slice (some ⟨g, o, none⟩) n cap ∧ v = .pointer (some ⟨g, o + (i * sz + off), none⟩)) : RV c v (.rp b ver sz i off)
  | bp (b ver off len : Nat) (v : Value) (hs : ∃ A cp, v = .slice A len cp ∧ len ≤ cp) (hv : ver ≤ c.cur b)
      (h : ∀ v0, c.look b ver = some v0 → len = 0 ∨ ∃ g o cp, v0 = .pointer (some ⟨g, o, none⟩) ∧ v = .slice (some ⟨g, o + off, none⟩) len cp) : RV c v (.bp b ver off len)

structure Cx.le (c c' : Cx) : Prop where
  cells : ∀ g, ¬ c.own g → g < c.w.heap.size → c'.w.heap[g]? = c.w.heap[g]? ∧ ¬ c'.own g
  fresh : c'.fresh = c.fresh
  cur : ∀ b, c.cur b ≤ c'.cur b
  look : ∀ b ver v0, c'.look b ver = some v0 → ver ≤ c.cur b → c.look b ver = some v0

theorem cells_one {v : Value} (h : v.oneCell' = true) : v.cells.toList = [v] := by cases v <;> simp_all [Value.cells, Value.oneCell']

section
variable {c c' : Cx} {v : Value} {x : V}
theorem RV.mono (h : RV c v x) (hc : c.le c') : RV c' v x := by
  induction h with
  | s v => exact .s v
  | lst fr sz l v h => exact .lst fr sz l v (by rw [hc.fresh]; exact h.mono hc.cells)
  | ept l v h => exact .ept l v (by rw [hc.fresh]; exact h.mono hc.cells)
  | agg us l hl he ih => exact .agg us l hl ih
  | tup us l hl he ih => exact .tup us l hl ih
  | fn f us l hl he ih => exact .fn f us l hl ih
  | sw b ver len v h1 hv h => exact .sw b ver len v h1 (Nat.le_trans hv (hc.cur b)) fun v0 h0 => h v0 (hc.look b ver v0 h0 hv)
  | sp b ver sz off len v h1 hv h => exact .sp b ver sz off len v h1 (Nat.le_trans hv (hc.cur b)) fun v0 h0 => h v0 (hc.look b ver v0 h0 hv)
  | ptr b ver off v h1 hv h => exact .ptr b ver off v h1 (Nat.le_trans hv (hc.cur b)) fun v0 h0 => h v0 (hc.look b ver v0 h0 hv)
  | rp b ver sz i off v h1 hv h => exact .rp b ver sz i off v h1 (Nat.le_trans hv (hc.cur b)) fun v0 h0 => h v0 (hc.look b ver v0 h0 hv)
  | bp b ver off len v h1 hv h => exact .bp b ver off len v h1 (Nat.le_trans hv (hc.cur b)) fun v0 h0 => h v0 (hc.look b ver v0 h0 hv)

theorem RV.s_inv {a : Value} (h : RV c v (.s a)) : v = a := by
  cases h; rfl
theorem RV.agg_inv {l : List V} (h : RV c v (.agg l)) : ∃ us : List Value, v = .agg us.toArray ∧ PW (RV c) us l := by
  cases h with
  | agg us l hl he => exact ⟨us, rfl, hl, he⟩
theorem RV.tup_inv {l : List V} (h : RV c v (.tup l)) : ∃ us : List Value, v = .tuple us.toArray ∧ PW (RV c) us l := by
  cases h with
  | tup us l hl he => exact ⟨us, rfl, hl, he⟩
theorem RV.fn_inv {f : Nat} {l : List V} (h : RV c v (.fn f l)) : ∃ us : List Value, v = .func (.func f) #[] us.toArray ∧ PW (RV c) us l := by
  cases h with
  | fn f us l hl he => exact ⟨us, rfl, hl, he⟩
theorem RV.lst_inv {fr : Bool} {sz : Nat} {l : List V} (h : RV c v (.lst fr sz l)) : RC c.w c.own c.fresh fr v (.lst fr sz l) := by
  cases h; assumption
theorem RV.ept_inv {l : List V} (h : RV c v (.ept l)) : RC c.w c.own c.fresh false v (.ept l) := by
  cases h; assumption

/-- what is closed -/
theorem RV.clo (h : RV c v x) {k : Bool} (hx : x.clo k = true) : RC c.w c.own c.fresh k v x := by
  induction h with
  | s v => exact .s k v
  | lst fr sz l v h =>
    cases k with
    | false => exact h.weak
    | true =>
      have : fr = true := by simpa [V.clo] using hx
      subst this; exact h
  | ept l v h =>
    have : k = false := by simpa [V.clo] using hx
    subst this; exact h
  | agg us l hl he ih => exact .agg k us l hl fun i u x hu hx' => ih i u x hu hx' (cloL_get (by simpa [V.clo] using hx) hx')
  | tup us l hl he ih => exact .tup k us l hl fun i u x hu hx' => ih i u x hu hx' (cloL_get (by simpa [V.clo] using hx) hx')
  | fn f us l hl he ih => exact .fn k f us l hl fun i u x hu hx' => ih i u x hu hx' (cloL_get (by simpa [V.clo] using hx) hx')
  | sw => simp [V.clo] at hx
  | sp => simp [V.clo] at hx
  | ptr => simp [V.clo] at hx
  | rp => simp [V.clo] at hx
  | bp => simp [V.clo] at hx
theorem RC.rvt {k : Bool} (h : RC c.w c.own c.fresh k v x) (hk : k = true) : RV c v x := by
  generalize hw : c.w = w at h
  generalize ho : c.own = own at h
  generalize hf : c.fresh = fresh at h
  induction h with
  | s k v => exact .s v
  | agg k us l hl he ih => exact .agg us l hl fun i u x hu hx => ih i u x hu hx hk
  | tup k us l hl he ih => exact .tup us l hl fun i u x hu hx => ih i u x hu hx hk
  | fn k f us l hl he ih => exact .fn f us l hl fun i u x hu hx => ih i u x hu hx hk
  | lst k fr sz l A cp us hc hu hl he h1 hr ih =>
    subst hk
    refine .lst fr sz l _ ?_
    rw [hw, ho, hf]
    cases fr with
    | true => exact .lst true true sz l A cp us hc hu hl he h1 hr
    | false => exact (RC.lst true false sz l A cp us hc hu hl he h1 hr).weak
  | ept => cases hk
theorem RC.rvu {k : Bool} (h : RC c.w c.own c.fresh k v x) : RV c v x.unfr := by
  generalize hw : c.w = w at h
  generalize ho : c.own = own at h
  generalize hf : c.fresh = fresh at h
  induction h with
  | s k v => exact .s v
  | agg k us l hl he ih =>
    refine .agg us (V.unfrL l) (by rw [unfrL_len]; exact hl) fun i u x hu hx => ?_
    rw [unfrL_get] at hx
    obtain ⟨y, hy, rfl⟩ := Option.map_eq_some_iff.1 hx
    exact ih i u y hu hy
  | tup k us l hl he ih =>
    refine .tup us (V.unfrL l) (by rw [unfrL_len]; exact hl) fun i u x hu hx => ?_
    rw [unfrL_get] at hx
    obtain ⟨y, hy, rfl⟩ := Option.map_eq_some_iff.1 hx
    exact ih i u y hu hy
  | fn k f us l hl he ih =>
    refine .fn f us (V.unfrL l) (by rw [unfrL_len]; exact hl) fun i u x hu hx => ?_
    rw [unfrL_get] at hx
    obtain ⟨y, hy, rfl⟩ := Option.map_eq_some_iff.1 hx
    exact ih i u y hu hy
  | lst k fr sz l A cp us hc hu hl he h1 hr ih =>
    refine .lst false sz l _ ?_
    rw [hw, ho, hf]
    exact (RC.lst k false sz l A cp us hc hu hl he h1 hr).weak
  | ept us l g o hl he hr ih =>
    refine .ept l _ ?_
    rw [hw, ho, hf]
    exact .ept us l g o hl he hr
theorem RV.sw_inv {b ver len : Nat} (h : RV c v (.sw b ver len)) : (∃ A cp, v = .slice A len cp) ∧ ver ≤ c.cur b ∧ ∀ v0, c.look b ver = some v0 → v = v0 := by
  cases h with
  | sw _ _ _ _ h1 hv h => exact ⟨h1, hv, h⟩
theorem RV.sp_inv {b ver sz off len : Nat} (h : RV c v (.sp b ver sz off len)) : (∃ A cp, v = .slice A len cp ∧ len ≤ cp) ∧ ver ≤ c.cur b ∧ ∀ v0, c.look b ver = some v0 → PartOf sz off v0 v := by
  cases h with
  | sp _ _ _ _ _ _ h1 hv h => exact ⟨h1, hv, h⟩
theorem RV.ptr_inv {b ver off : Nat} (h : RV c v (.ptr b ver off)) : (∃ A, v = .pointer (some A)) ∧ ver ≤ c.cur b ∧ ∀ v0, c.look b ver = some v0 → ∃ g o, v0 = .pointer (some ⟨g, o, none⟩) ∧ v = .pointer (some ⟨g, o + off, none⟩) := by
  cases h with
  | ptr _ _ _ _ h1 hv h => exact ⟨h1, hv, h⟩
theorem RV.rp_inv {b ver sz i off : Nat} (h : RV c v (.rp b ver sz i off)) : (∃ A, v = .pointer (some A)) ∧ ver ≤ c.cur b ∧ ∀ v0, c.look b ver = some v0 → ∃ g o n cap, v0 = .slice (some ⟨g, o, none⟩) n cap ∧ v = .pointer (some ⟨g, o + (i * sz + off), none⟩) := by
  cases h with
  | rp _ _ _ _ _ _ h1 hv h => exact ⟨h1, hv, h⟩
theorem RV.bp_inv {b ver off len : Nat} (h : RV c v (.bp b ver off len)) : (∃ A cp, v = .slice A len cp ∧ len ≤ cp) ∧ ver ≤ c.cur b ∧ ∀ v0, c.look b ver = some v0 → len = 0 ∨ ∃ g o cp, v0 = .pointer (some ⟨g, o, none⟩) ∧ v = .slice (some ⟨g, o + off, none⟩) len cp := by
  cases h with
  | bp _ _ _ _ _ h1 hv h => exact ⟨h1, hv, h⟩
theorem RV.own_inv {sz e : Nat} {l : List V} (h : RV c v (.own sz e l)) : False := by
  cases h with

theorem RV.cells (h : RV c v x) : PW (RV c) v.cells.toList x.cells := by
  cases h with
  | s v => cases v <;> first | exact PW.one (.s _) | exact PW.consts _ (fun v => .s v)
  | lst fr sz l v h => rw [cells_one (by cases h; rfl)]; exact PW.one (.lst fr sz l v h)
  | ept l v h => rw [cells_one (by cases h; rfl)]; exact PW.one (.ept l v h)
  | agg us l hl he => exact ⟨hl, he⟩
  | tup us l hl he => exact PW.one (.tup us l hl he)
  | fn f us l hl he => exact PW.one (.fn f us l hl he)
  | sw b ver len v h1 hv h => rw [cells_one (by obtain ⟨A, cp, rfl⟩ := h1; rfl)]; exact PW.one (.sw b ver len v h1 hv h)
  | sp b ver sz off len v h1 hv h => rw [cells_one (by obtain ⟨A, cp, rfl, _⟩ := h1; rfl)]; exact PW.one (.sp b ver sz off len v h1 hv h)
  | ptr b ver off v h1 hv h => rw [cells_one (by obtain ⟨A, rfl⟩ := h1; rfl)]; exact PW.one (.ptr b ver off v h1 hv h)
  | rp b ver sz i off v h1 hv h => rw [cells_one (by obtain ⟨A, rfl⟩ := h1; rfl)]; exact PW.one (.rp b ver sz i off v h1 hv h)
  | bp b ver off len v h1 hv h => rw [cells_one (by obtain ⟨A, cp, rfl, _⟩ := h1; rfl)]; exact PW.one (.bp b ver off len v h1 hv h)

theorem RV.one (h : RV c v x) (hx : x.one = true) : v.oneCell' = true := by
  cases h with
  | s => simpa [V.one] using hx
  | lst fr sz l v h => cases h; rfl
  | ept l v h => cases h; rfl
  | agg => simp [V.one] at hx
  | tup => simp [V.one] at hx
  | fn => rfl
  | sw b ver len v h1 hv h => obtain ⟨A, cp, rfl⟩ := h1; rfl
  | sp b ver sz off len v h1 hv h => obtain ⟨A, cp, rfl, _⟩ := h1; rfl
  | ptr b ver off v h1 hv h => obtain ⟨A, rfl⟩ := h1; rfl
  | rp b ver sz i off v h1 hv h => obtain ⟨A, rfl⟩ := h1; rfl
  | bp b ver off len v h1 hv h => obtain ⟨A, cp, rfl, _⟩ := h1; rfl
end

end Go.Proofs.Ytbmgaebhcomjaaa
