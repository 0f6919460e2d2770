/-
The plain law of queues with bounds: what is in them, in order. No condition.
-/
import Derived.Test.YtgamljjoehncbaaRb
namespace Go.Proofs.Ytgamljjoehncbaa
set_option linter.unusedSimpArgs false
set_option linter.unusedVariables false

theorem place_eq {sl : List (Option Int)} {f i : Int} (h0 : 0 ≤ f) (h1 : f < sl.length) (i0 : 0 ≤ i) (i1 : i ≤ sl.length) : (placeR sl f i : Int) = if f + i < sl.length then f + i else f + i - sl.length := by
  unfold placeR
  split
  · rename_i h
    rw [Int.emod_eq_of_lt (by omega) h]; omega
  · have : (f + i) % (sl.length : Int) = f + i - sl.length := by
      rw [← Int.sub_emod_right, Int.emod_eq_of_lt (by omega) (by omega)]
    rw [this]; omega
/-- what is in a queue -/
structure Que (sl : List (Option Int)) (f n : Int) (l : List Int) : Prop where
  ok : RingOk sl f n
  len : n = l.length
  here : ∀ i w, l[i]? = some w → atR sl f (i : Nat) = some w
  free : ∀ i : Nat, l.length ≤ i → i < sl.length → atR sl f i = none
theorem Que.le {sl : List (Option Int)} {f n : Int} {l : List Int} (h : Que sl f n l) : l.length ≤ sl.length := by
  obtain ⟨_, _, _, _, _, h6⟩ := h.ok
  have := h.len
  omega
theorem Que.new {m : Nat} (h1 : 1 ≤ m) (h2 : m ≤ 64) : Que (List.replicate m none) 0 0 [] := by
  refine ⟨⟨by simpa, by simpa, by omega, by simp; omega, by omega, by simp⟩, rfl, fun i w h => by simp at h, fun i _ hi => ?_⟩
  unfold atR
  rw [List.getD_eq_getElem?_getD]
  cases hc : (List.replicate m (none : Option Int))[placeR (List.replicate m none) 0 i]? with
  | none => rfl
  | some x =>
    have := List.mem_of_getElem? hc
    rw [(List.mem_replicate.1 this).2]; rfl
theorem atR_set {sl : List (Option Int)} {f : Int} (p : Nat) (x : Option Int) (i : Int) (hp : p < sl.length) : atR (sl.set p x) f i = if placeR sl f i = p then x else atR sl f i := by
  unfold atR
  have e : placeR (sl.set p x) f i = placeR sl f i := by unfold placeR; rw [List.length_set]
  rw [e, List.getD_eq_getElem?_getD, List.getElem?_set]
  split
  · rename_i h
    rw [if_pos h.symm]
    first | rfl | (rw [if_pos (by omega)]; rfl)
  · rename_i h
    rw [if_neg (fun q => h q.symm), List.getD_eq_getElem?_getD]
theorem Que.push {sl : List (Option Int)} {f n : Int} {l : List Int} (h : Que sl f n l) (hl : l.length < sl.length) (w : Int) : Que (pushR sl f n w) f (n + 1) (l ++ [w]) := by
  obtain ⟨h1, h2, h3, h4, h5, h6⟩ := h.ok
  have hn := h.len
  have hp := place_lt h1 f n
  have pn := place_eq h3 h4 h5 h6
  have hlen : (pushR sl f n w).length = sl.length := by simp [pushR]
  refine ⟨⟨by omega, by omega, h3, by omega, by omega, by omega⟩, by simp; omega, fun i v hi => ?_, fun i h7 h8 => ?_⟩
  · unfold pushR
    rw [atR_set _ _ _ hp]
    rw [List.getElem?_append] at hi
    split at hi
    · rename_i hlt
      have pi := place_eq (sl := sl) h3 h4 (i := (i : Int)) (by omega) (by omega)
      rw [if_neg (fun e => by
        have : (placeR sl f i : Int) = placeR sl f n := by rw [e]
        rw [pi, pn] at this
        (repeat' split at this) <;> omega)]
      exact h.here i v hi
    · rename_i hge
      have hi0 : i = l.length := by
        have := (List.getElem?_eq_some_iff.1 hi).1
        simp at this; omega
      subst hi0
      simp at hi
      subst hi
      rw [← hn, if_pos rfl]
  · simp only [List.length_append, List.length_singleton] at h7
    unfold pushR
    rw [atR_set _ _ _ hp]
    have pi := place_eq (sl := sl) h3 h4 (i := (i : Int)) (by omega) (by omega)
    rw [if_neg (fun e => by
      have : (placeR sl f i : Int) = placeR sl f n := by rw [e]
      rw [pi, pn] at this
      (repeat' split at this) <;> omega)]
    exact h.free i (by omega) (by omega)
theorem Que.pop {sl : List (Option Int)} {f n : Int} {w : Int} {r : List Int} (h : Que sl f n (w :: r)) : atR sl f 0 = some w ∧ Que (sl.set (placeR sl f 0) none) (placeR sl f 1) (n - 1) r := by
  obtain ⟨h1, h2, h3, h4, h5, h6⟩ := h.ok
  have hn := h.len
  simp only [List.length_cons] at hn
  have hp := place_lt h1 f 0
  have p0 := place_eq (sl := sl) h3 h4 (i := 0) (by omega) (by omega)
  have p1 := place_eq (sl := sl) h3 h4 (i := 1) (by omega) (by omega)
  have hp1 := place_lt h1 f 1
  refine ⟨h.here 0 w rfl, ⟨by simpa, by simpa, by omega, by simp; omega, by omega, by simp; omega⟩, by omega, fun i v hi => ?_, fun i h7 h8 => ?_⟩
  · have hir := (List.getElem?_eq_some_iff.1 hi).1
    rw [atR_set _ _ _ hp]
    have pi := place_eq (sl := sl) (f := (placeR sl f 1 : Nat)) (i := (i : Int)) (by omega) (by omega) (by omega) (by omega)
    have pi2 := place_eq (sl := sl) h3 h4 (i := ((i + 1 : Nat) : Int)) (by omega) (by omega)
    have e : placeR sl (placeR sl f 1 : Nat) i = placeR sl f ((i + 1 : Nat) : Int) := by
      have : (placeR sl (placeR sl f 1 : Nat) i : Int) = placeR sl f ((i + 1 : Nat) : Int) := by
        rw [pi, pi2, p1]
        (repeat' split) <;> omega
      omega
    rw [e, if_neg (fun e => by
      have : (placeR sl f ((i + 1 : Nat) : Int) : Int) = placeR sl f 0 := by rw [e]
      rw [pi2, p0] at this
      (repeat' split at this) <;> omega)]
    have : atR sl (placeR sl f 1 : Nat) i = atR sl f ((i + 1 : Nat) : Int) := by unfold atR; rw [e]
    rw [this]
    exact h.here (i + 1) v (by simpa using hi)
  · rw [List.length_set] at h8
    rw [atR_set _ _ _ hp]
    have pi := place_eq (sl := sl) (f := (placeR sl f 1 : Nat)) (i := (i : Int)) (by omega) (by omega) (by omega) (by omega)
    have pi2 := place_eq (sl := sl) h3 h4 (i := ((i + 1 : Nat) : Int)) (by omega) (by omega)
    have e : placeR sl (placeR sl f 1 : Nat) i = placeR sl f ((i + 1 : Nat) : Int) := by
      have : (placeR sl (placeR sl f 1 : Nat) i : Int) = placeR sl f ((i + 1 : Nat) : Int) := by
        rw [pi, pi2, p1]
        (repeat' split) <;> omega
      omega
    rw [e]
    split
    · rfl
    · rename_i hne
      have hlt : i + 1 < sl.length := by
        refine Classical.byContradiction fun hc => hne ?_
        have : (placeR sl f ((i + 1 : Nat) : Int) : Int) = placeR sl f 0 := by
          rw [pi2, p0]
          (repeat' split) <;> omega
        omega
      have : atR sl (placeR sl f 1 : Nat) i = atR sl f ((i + 1 : Nat) : Int) := by unfold atR; rw [e]
      rw [this]
      exact h.free (i + 1) (by simp; omega) hlt
theorem Que.empty {sl : List (Option Int)} {f n : Int} (h : Que sl f n []) : atR sl f 0 = none := by
  obtain ⟨h1, _⟩ := h.ok
  exact h.free 0 (by simp) (by omega)
theorem Que.words {sl : List (Option Int)} {f n : Int} {l : List Int} (h : Que sl f n l) : wordsR sl f n.toNat = l := by
  have hn := h.len
  have : n.toNat = l.length := by omega
  rw [this]
  have : ∀ k, k ≤ l.length → wordsR sl f k = l.take k := by
    intro k
    induction k with
    | zero => intro _; rfl
    | succ k ih =>
      intro hk
      rw [wordsR_succ, ih (by omega), List.take_add_one]
      have q : l[k]? = some l[k] := List.getElem?_eq_getElem (by omega)
      rw [h.here k _ q, q]
  rw [this _ (Nat.le_refl _), List.take_length]

-- what the contracts answer
theorem que_new (n : Int) : ∃ sl, spRNew.fn [.s (.int .i64 n)] = some (.obx [.own 1 20 (sl.map slotV), .s (.int .i64 0), .s (.int .i64 0)]) ∧ Que sl 0 0 [] ∧ (sl.length : Int) = capN n := by
  have := capN_bd n
  refine ⟨List.replicate (capN n).toNat none, rfl, Que.new (by omega) (by omega), by simp; omega⟩
theorem que_push {sl : List (Option Int)} {f n : Int} {l : List Int} (h : Que sl f n l) (hl : l.length < sl.length) (w : Int) : ∃ sl', spRPush.fn [.obx [.own 1 20 (sl.map slotV), .s (.int .i64 f), .s (.int .i64 n)], .s (.int .u32 w)] = some (.io 0 (.s (.bool true)) (.obx [.own 1 20 (sl'.map slotV), .s (.int .i64 f), .s (.int .i64 (n + 1))])) ∧ Que sl' f (n + 1) (l ++ [w]) ∧ sl'.length = sl.length := by
  refine ⟨pushR sl f n w, ?_, h.push hl w, by simp [pushR]⟩
  rw [spRPush_v h.ok, if_pos (by rw [h.len]; omega)]; rfl
theorem que_full {sl : List (Option Int)} {f n : Int} {l : List Int} (h : Que sl f n l) (hl : ¬ l.length < sl.length) (w : Int) : spRPush.fn [.obx [.own 1 20 (sl.map slotV), .s (.int .i64 f), .s (.int .i64 n)], .s (.int .u32 w)] = some (.io 0 (.s (.bool false)) (.obx [.own 1 20 (sl.map slotV), .s (.int .i64 f), .s (.int .i64 n)])) := by
  rw [spRPush_v h.ok, if_neg (by rw [h.len]; omega)]; rfl
theorem que_pop {sl : List (Option Int)} {f n : Int} {w : Int} {r : List Int} (h : Que sl f n (w :: r)) : ∃ sl' f', spRPop.fn [.obx [.own 1 20 (sl.map slotV), .s (.int .i64 f), .s (.int .i64 n)]] = some (.io 0 (.tup [.s (.int .u32 w), .s (.bool true)]) (.obx [.own 1 20 (sl'.map slotV), .s (.int .i64 f'), .s (.int .i64 (n - 1))])) ∧ Que sl' f' (n - 1) r ∧ sl'.length = sl.length := by
  obtain ⟨h1, h2⟩ := h.pop
  refine ⟨_, _, ?_, h2, by simp⟩
  rw [spRPop_v h.ok, h1]; rfl
theorem que_none {sl : List (Option Int)} {f n : Int} (h : Que sl f n []) : spRPop.fn [.obx [.own 1 20 (sl.map slotV), .s (.int .i64 f), .s (.int .i64 n)]] = some (.io 0 (.tup [.s (.int .u32 0), .s (.bool false)]) (.obx [.own 1 20 (sl.map slotV), .s (.int .i64 f), .s (.int .i64 n)])) := by
  rw [spRPop_v h.ok, h.empty]; rfl
theorem que_room {sl : List (Option Int)} {f n : Int} {l : List Int} (h : Que sl f n l) : spRRoom.fn [.ept [.lst false 1 (sl.map slotV), .s (.int .i64 f), .s (.int .i64 n)]] = some (.s (.int .i64 (sl.length - l.length))) := by
  rw [spRRoom_v h.ok, h.len]
theorem que_all {sl : List (Option Int)} {f n : Int} {l : List Int} (h : Que sl f n l) : spRAll.fn [.ept [.lst false 1 (sl.map slotV), .s (.int .i64 f), .s (.int .i64 n)]] = some (ownOr 22 (l.map uv)) := by
  rw [spRAll_v h.ok, h.words]
theorem ownOr_nil (e : Nat) : ownOr e [] = .s (.slice none 0 0) := rfl
theorem ownOr_ne {e : Nat} {l : List Int} (h : l ≠ []) : ownOr e (l.map uv) = .own 1 e (l.map uv) := by
  cases l with
  | nil => exact absurd rfl h
  | cons a b => rfl
theorem same_v {a : List Int} (ha : a.length ≤ 1000) {x y : V} (hx : lOf 1 x = some (a.map uv)) (hy : lOf 1 y = some (a.map uv)) : spSameW.fn [x, y] = some (.s (.bool true)) := by
  rw [spSameW_v (by omega) (by omega) hx hy]
  simp
end Go.Proofs.Ytgamljjoehncbaa
