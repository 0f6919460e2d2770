/-
Structs and arrays of whole numbers are equal if these are, one by one. No condition.
-/
import Derived.Test.YtbmgaebhcomjaaaAbZ
import Derived.Laws.StructEq
import Derived.ChangeKeysEq
namespace Go.Proofs.Ytbmgaebhcomjaaa
set_option linter.unusedSimpArgs false
set_option linter.unusedVariables false

def flatFs (g : TypeId → Option Nat) : Nat → List Field → Option Nat
  | k, [] => some k
  | k, f :: fs => if f.name ≠ "_" ∧ f.offset = k then (g f.type).bind fun m => flatFs g (k + m) fs else none
/-- how many numbers a type is -/
def flatT (P : Program) : Nat → TypeId → Option Nat
  | 0, _ => none
  | d + 1, t => (match P.underlying t with
    | some (.int _) => some 1
    | some (.struct fs) => if P.stoodInHeld t then none else flatFs (flatT P d) 0 fs.toList
    | some (.array n e) => (flatT P d e).map fun m => n * m
    | _ => none).bind fun m => if szOf P t = some m then some m else none
/-- the value of so many cells -/
def valOf (P : Program) (t : TypeId) (us : List Value) : Value := if isAggB P t = some true then .agg us.toArray else us.headD undef

theorem eqInts_len : ∀ {l m : List V} {r : Bool}, eqInts l m = some r → l.length = m.length := by
  intro l
  induction l with
  | nil => intro m r h; cases m with
    | nil => rfl
    | cons y m => simp [eqInts] at h
  | cons x l ih =>
    intro m r h
    cases m with
    | nil => cases x with
      | s v => cases v <;> simp [eqInts] at h
      | _ => simp [eqInts] at h
    | cons y m =>
      unfold eqInts at h
      split at h
      · rename_i h1 h2; simp at h1
      · rename_i h1 h2
        simp only [List.cons.injEq] at h1 h2
        obtain ⟨rfl, rfl⟩ := h1
        obtain ⟨rfl, rfl⟩ := h2
        split at h
        · obtain ⟨r', hr, _⟩ := Option.map_eq_some_iff.1 h
          simp [ih hr]
        · cases h
      · cases h
theorem eqInts_cons {x y : V} {l m : List V} {r : Bool} (h : eqInts (x :: l) (y :: m) = some r) : ∃ r1 r2, eqInts [x] [y] = some r1 ∧ eqInts l m = some r2 ∧ r = (r1 && r2) := by
  unfold eqInts at h
  split at h
  · rename_i h1 h2; simp at h1
  · rename_i k a x' k' b y' h1 h2
    simp only [List.cons.injEq] at h1 h2
    obtain ⟨rfl, rfl⟩ := h1
    obtain ⟨rfl, rfl⟩ := h2
    split at h
    · rename_i hk
      obtain ⟨r', hr, rfl⟩ := Option.map_eq_some_iff.1 h
      exact ⟨a == b, r', by simp [eqInts, hk], hr, rfl⟩
    · cases h
  · cases h
theorem eqInts_one {x y : V} {l m : List V} {r1 r2 : Bool} (h1 : eqInts [x] [y] = some r1) (h2 : eqInts l m = some r2) : eqInts (x :: l) (y :: m) = some (r1 && r2) := by
  unfold eqInts at h1
  split at h1
  · rename_i h3 h4; simp at h3
  · rename_i k a x' k' b y' h3 h4
    simp only [List.cons.injEq] at h3 h4
    obtain ⟨rfl, rfl⟩ := h3
    obtain ⟨rfl, rfl⟩ := h4
    split at h1
    · rename_i hk
      simp [eqInts] at h1
      subst h1
      simp [eqInts, hk, h2]
    · cases h1
  · cases h1
theorem eqInts_app : ∀ {l1 m1 l2 m2 : List V} {r : Bool}, l1.length = m1.length → eqInts (l1 ++ l2) (m1 ++ m2) = some r → ∃ r1 r2, eqInts l1 m1 = some r1 ∧ eqInts l2 m2 = some r2 ∧ r = (r1 && r2)
  | [], [], l2, m2, r, _, h => ⟨true, r, rfl, h, by simp⟩
  | [], y :: m1, l2, m2, r, hl, h => by simp at hl
  | x :: l1, [], l2, m2, r, hl, h => by simp at hl
  | x :: l1, y :: m1, l2, m2, r, hl, h => by
    obtain ⟨ra, rb, h1, h2, rfl⟩ := eqInts_cons (l := l1 ++ l2) (m := m1 ++ m2) h
    obtain ⟨rc, rd, h3, h4, rfl⟩ := eqInts_app (by simpa using hl) h2
    exact ⟨ra && rc, rd, eqInts_one h1 h3, h4, by simp [Bool.and_assoc]⟩

section
variable {P : Program}
theorem part_val {t : TypeId} {m k : Nat} {us : List Value} {w : World} (hs : szOf P t = some m) (hk : k + m ≤ us.length) (ha : isAggB P t = some true ∨ (isAggB P t = some false ∧ m = 1)) : (part t us.toArray k).run P w = .ok (valOf P t ((us.drop k).take m)) w := by
  rcases ha with ha | ⟨ha, rfl⟩
  · simp only [part, Sem.run_bind, run_isAgg' ha, Result.andThen_ok, if_true, run_sizeOf' hs, Sem.run_pure, valOf, ha]
    simp
  · have hlt : k < us.length := by omega
    have e1 : us.drop k = us[k] :: us.drop (k + 1) := List.drop_eq_getElem_cons hlt
    have e2 : us.toArray[k]? = some us[k] := by simp [hlt]
    simp only [part, Sem.run_bind, run_isAgg' ha, Result.andThen_ok, Bool.false_eq_true, if_false, valOf, ha]
    rw [e2]
    have e3 : List.take 1 (us.drop k) = [us[k]] := by rw [e1]; rfl
    simp [e3]

def aggD : TypeDesc → Bool
  | .struct _ => true
  | .array _ _ => true
  | _ => false
theorem aggB_of {t : TypeId} {d : TypeDesc} (h : P.underlying t = some d) : isAggB P t = some (aggD d) := by
  unfold isAggB
  rw [h]
  cases d <;> rfl

theorem flatT_inv {d : Nat} {t : TypeId} {m : Nat} (h : flatT P d t = some m) : szOf P t = some m ∧ (isAggB P t = some true ∨ (isAggB P t = some false ∧ m = 1)) := by
  cases d with
  | zero => simp [flatT] at h
  | succ d =>
    simp only [flatT] at h
    obtain ⟨m', h1, h2⟩ := Option.bind_eq_some_iff.1 h
    split at h2
    case isFalse => cases h2
    rename_i hs
    simp only [Option.some.injEq] at h2
    subst h2
    refine ⟨hs, ?_⟩
    split at h1
    · rename_i k hu
      simp only [Option.some.injEq] at h1
      exact .inr ⟨by rw [aggB_of hu]; rfl, h1.symm⟩
    · rename_i fs hu
      exact .inl (by rw [aggB_of hu]; rfl)
    · rename_i n e hu
      exact .inl (by rw [aggB_of hu]; rfl)
    · cases h1

theorem split_at (us : List Value) (k m : Nat) (hk : k + m ≤ us.length) : (us.drop k).map V.s = ((us.drop k).take m).map V.s ++ (us.drop (k + m)).map V.s := by
  rw [← List.map_append]
  congr 1
  rw [← List.drop_drop, List.take_append_drop]

theorem eqFields_flat {D : Nat} {g : TypeId → Option Nat} (hg : ∀ t m, g t = some m → szOf P t = some m ∧ (isAggB P t = some true ∨ (isAggB P t = some false ∧ m = 1)) ∧
      ∀ (us vs : List Value) (r : Bool) (w : World), us.length = m → vs.length = m → eqInts (us.map .s) (vs.map .s) = some r → (Op.equalIn D t (valOf P t us) (valOf P t vs)).run P w = .ok r w) (us vs : List Value) :
    ∀ (fs : List Field) (k : Nat) (r : Bool) (w : World), flatFs g k fs = some us.length → vs.length = us.length → eqInts ((us.drop k).map .s) ((vs.drop k).map .s) = some r → (Op.eqFields D us.toArray vs.toArray fs).run P w = .ok r w
  | [], k, r, w, hf, hl, he => by
    simp only [flatFs, Option.some.injEq] at hf
    subst hf
    rw [List.drop_length] at he
    rw [← hl, List.drop_length] at he
    simp [eqInts] at he
    subst he
    simp [Op.eqFields]
  | f :: fs, k, r, w, hf, hl, he => by
    simp only [flatFs] at hf
    split at hf
    case isFalse => cases hf
    rename_i hn
    obtain ⟨hn, hoff⟩ := hn
    obtain ⟨m, hm, hf2⟩ := Option.bind_eq_some_iff.1 hf
    obtain ⟨hsz, hag, heq⟩ := hg f.type m hm
    have hge : ∀ (fs : List Field) (k n : Nat), flatFs g k fs = some n → k ≤ n := by
      intro fs
      induction fs with
      | nil => intro k n h; simp [flatFs] at h; omega
      | cons f fs ih =>
        intro k n h
        simp only [flatFs] at h
        split at h
        case isFalse => cases h
        obtain ⟨m', _, h2⟩ := Option.bind_eq_some_iff.1 h
        have := ih _ _ h2
        omega
    have hkm : k + m ≤ us.length := hge fs (k + m) _ hf2
    rw [split_at us k m hkm, split_at vs k m (by omega)] at he
    obtain ⟨r1, r2, h1, h2, rfl⟩ := eqInts_app (by simp; omega) he
    have p1 := part_val (w := w) hsz hkm hag
    have p2 := part_val (us := vs) (k := k) (w := w) hsz (by omega) hag
    have q := heq ((us.drop k).take m) ((vs.drop k).take m) r1 w (by simp; omega) (by simp; omega) h1
    have ih := eqFields_flat hg us vs fs (k + m) r2 w hf2 hl h2
    simp only [Op.eqFields, if_pos hn, Sem.run_bind, hoff, p1, p2, Result.andThen_ok, q, Sem.run_ite]
    cases r1 with
    | true => simpa using ih
    | false => simp

theorem eqItems_flat {D : Nat} {e : TypeId} {m : Nat} (hsz : szOf P e = some m) (hag : isAggB P e = some true ∨ (isAggB P e = some false ∧ m = 1))
    (heq : ∀ (us vs : List Value) (r : Bool) (w : World), us.length = m → vs.length = m → eqInts (us.map .s) (vs.map .s) = some r → (Op.equalIn D e (valOf P e us) (valOf P e vs)).run P w = .ok r w) (us vs : List Value) :
    ∀ (c k : Nat) (r : Bool) (w : World), us.length = (k + c) * m → vs.length = us.length → eqInts ((us.drop (k * m)).map .s) ((vs.drop (k * m)).map .s) = some r → (Op.eqItems D e m us.toArray vs.toArray (List.range' k c)).run P w = .ok r w
  | 0, k, r, w, hl, hl2, he => by
    rw [List.drop_eq_nil_of_le (by simp at hl; omega), List.drop_eq_nil_of_le (by simp at hl; omega)] at he
    simp [eqInts] at he
    subst he
    simp [Op.eqItems]
  | c + 1, k, r, w, hl, hl2, he => by
    have hk1 : (k + 1) * m = k * m + m := by rw [Nat.add_mul]; omega
    have hkm : k * m + m ≤ us.length := by
      rw [hl, ← hk1]
      exact Nat.mul_le_mul_right m (by omega)
    rw [split_at us (k * m) m hkm, split_at vs (k * m) m (by omega)] at he
    obtain ⟨r1, r2, h1, h2, rfl⟩ := eqInts_app (by simp; omega) he
    have p1 := part_val (w := w) hsz hkm hag
    have p2 := part_val (us := vs) (k := k * m) (w := w) hsz (by omega) hag
    have q := heq ((us.drop (k * m)).take m) ((vs.drop (k * m)).take m) r1 w (by simp; omega) (by simp; omega) h1
    have ih := eqItems_flat hsz hag heq us vs c (k + 1) r2 w (by rw [hl]; congr 1; omega) hl2 (by rw [hk1]; exact h2)
    rw [List.range'_succ]
    simp only [Op.eqItems, Sem.run_bind, p1, p2, Result.andThen_ok, q, Sem.run_ite]
    cases r1 with
    | true => simpa using ih
    | false => simp

theorem eq_flat : ∀ (d D : Nat) (t : TypeId) (m : Nat), d ≤ D → flatT P d t = some m → ∀ (us vs : List Value) (r : Bool) (w : World), us.length = m → vs.length = m → eqInts (us.map .s) (vs.map .s) = some r →
    (Op.equalIn D t (valOf P t us) (valOf P t vs)).run P w = .ok r w
  | 0, D, t, m, _, h => by simp [flatT] at h
  | d + 1, 0, t, m, hd, h => by omega
  | d + 1, D + 1, t, m, hd, h => by
    intro us vs r w hu hv he
    obtain ⟨hsz, _⟩ := flatT_inv h
    simp only [flatT] at h
    obtain ⟨m', h1, h2⟩ := Option.bind_eq_some_iff.1 h
    split at h2
    case isFalse => cases h2
    simp only [Option.some.injEq] at h2
    subst h2
    have one : ∀ {us vs : List Value}, us.length = 1 → vs.length = 1 → ∃ a b, us = [a] ∧ vs = [b] := fun {us vs} h1 h2 => by
      match us, vs, h1, h2 with
      | [a], [b], _, _ => exact ⟨a, b, rfl, rfl⟩
    split at h1
    · rename_i k hun
      simp only [Option.some.injEq] at h1
      subst h1
      obtain ⟨a, b, rfl, rfl⟩ := one hu hv
      have hag := aggB_of hun
      simp only [valOf, hag, aggD]
      simp only [List.map_cons, List.map_nil] at he
      cases a with
      | int ka a => cases b with
        | int kb b =>
          simp only [eqInts] at he
          split at he
          case isFalse => cases he
          rename_i hk
          subst hk
          simp at he
          subst he
          simpa using run_equalIn_int w D t ka k a b hun
        | _ => simp [eqInts] at he
      | _ => simp [eqInts] at he
    · rename_i fs hun
      split at h1
      case isTrue => cases h1
      rename_i hstood
      have hf : P.fieldsOf t = fs := by unfold Program.fieldsOf; rw [hun]
      have hag := aggB_of hun
      simp only [valOf, hag, aggD, if_true]
      rw [run_equalIn_struct w D t us.toArray vs.toArray (by rw [hf]; exact hun) (by simpa using hstood), hf]
      exact eqFields_flat (D := D) (g := flatT P d) (fun t m h => ⟨(flatT_inv h).1, (flatT_inv h).2, eq_flat d D t m (by omega) h⟩) us vs fs.toList 0 r w (by rw [hu]; exact h1) (by rw [hu, hv]) (by simpa using he)
    · rename_i n e hun
      obtain ⟨m2, hm2, rfl⟩ := Option.map_eq_some_iff.1 h1
      have hag := aggB_of hun
      obtain ⟨hsz2, hag2⟩ := flatT_inv hm2
      obtain ⟨i, hi, hisz⟩ := szOf_info hsz2
      have hcell : P.cellsOf e = m2 := by unfold Program.cellsOf; simp [hi, hisz]
      simp only [valOf, hag, aggD, if_true]
      rw [run_equalIn_array w D us.toArray vs.toArray hun hi, hcell, List.range_eq_range']
      exact eqItems_flat (D := D) hsz2 hag2 (eq_flat d D e m2 (by omega) hm2) us vs n 0 r w (by rw [hu, Nat.zero_add]) (by rw [hu, hv]) (by simpa using he)
    · cases h1

end

/-- a struct or an array of whole numbers and truths -/
def flatEq (P : Program) (t : TypeId) : Bool := (match isAggB P t with | some b => b | none => false) && (match szOf P t, flatT P 50 t with | some a, some b => a == b | _, _ => false) && !P.eqGuardType P.depth t

theorem eqOk_flat {P : Program} {E : EqT} (h : ∀ t, E t = true → flatEq P t = true) : EqOk P E := by
  intro t ht us vs r xo yo hsz he w
  have hi := h t ht
  unfold flatEq at hi
  simp only [Bool.and_eq_true, Bool.not_eq_true'] at hi
  obtain ⟨⟨h1, h2⟩, h3⟩ := hi
  have hag : isAggB P t = some true := by
    split at h1
    · rename_i b hb; rw [hb, h1]
    · cases h1
  rw [hsz] at h2
  cases hf : flatT P 50 t with
  | none => rw [hf] at h2; simp at h2
  | some m =>
    rw [hf] at h2
    simp at h2
    subst h2
    have hl : us.length = vs.length := by simpa using eqInts_len he
    have hrun := eq_flat 50 10000 t us.length (by omega) hf us vs r w rfl hl.symm he
    simp only [valOf, hag, if_true] at hrun
    constructor
    · rw [Sem.run_bind, run_eqGuard_agg w .eql t xo yo us.toArray vs.toArray h3, Result.andThen_ok, run_eql_struct, hrun]; rfl
    · rw [Sem.run_bind, run_eqGuard_agg w .neq t xo yo us.toArray vs.toArray h3, Result.andThen_ok, run_neq_struct, hrun]; rfl

/-- no function is known -/
def orc0 : Orc := fun _ => none
theorem orc0_ok {P : Program} : ∀ g sp, orc0 g = some sp → Impl P g sp := fun g sp h => by cases h
theorem orc_upd {P : Program} {C : Orc} {f : Nat} {sp : Spec} (hC : ∀ g sp, C g = some sp → Impl P g sp) (h : Impl P f sp) : ∀ g sp', upd C f (some sp) g = some sp' → Impl P g sp' := fun g sp' hg => by
  simp only [upd] at hg
  split at hg
  · rename_i e
    subst e
    simp only [Option.some.injEq] at hg
    subst hg
    exact h
  · exact hC g sp' hg

end Go.Proofs.Ytbmgaebhcomjaaa
