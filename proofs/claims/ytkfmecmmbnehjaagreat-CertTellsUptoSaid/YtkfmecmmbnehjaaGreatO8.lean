/-
The owners with the fewest on A: owner.Of by the plain reckoning. No condition.
-/
import Derived.Test.YtkfmecmmbnehjaaGreatO7
namespace Go.Proofs.YtkfmecmmbnehjaaGreat
set_option linter.unusedSimpArgs false
set_option linter.unusedVariables false

theorem eqInts_iv : ∀ {a b : List Int}, a.length = b.length → eqInts (a.map iv) (b.map iv) = some (a == b)
  | [], [], _ => rfl
  | [], _ :: _, h => by cases h
  | _ :: _, [], h => by cases h
  | x :: a, y :: b, h => by
    have := eqInts_iv (a := a) (b := b) (by simpa using h)
    simp only [List.map_cons, iv, eqInts, if_true]
    show (eqInts (a.map iv) (b.map iv)).map _ = _
    rw [this]; rfl

def startO : List Int := [0, 2, 2, 2, 2, 2, 2, 2, 2, 2, 2, 2, 2, 2, 2, 2]
def zeroO : List Int := [0, 0, 0, 0, 0, 0, 0, 0, 0, 0, 0, 0, 0, 0, 0, 0]
def initO : Nat → List Int
  | 0 => zeroO
  | n + 1 => (initO n).set (n + 1) 2
def passO (c : List Ins) (o : List Int) : List Int := c.foldl (fun o i => giveO i o) o
def iterO (c : List Ins) : Nat → List Int
  | 0 => startO
  | n + 1 => passO c (iterO c n)
def ofO (p : Prg) : List Int := if rightP p = true then iterO p.code 17 else zeroO

theorem pass_len (c : List Ins) (o : List Int) : (passO c o).length = o.length := by
  unfold passO
  induction c generalizing o with
  | nil => rfl
  | cons i c ih => rw [List.foldl_cons, ih, give_len]
theorem iter_len (c : List Ins) (n : Nat) : (iterO c n).length = 16 := by
  induction n with
  | zero => rfl
  | succ n ih => rw [iterO, pass_len, ih]
theorem init_len (n : Nat) : (initO n).length = 16 := by
  induction n with
  | zero => rfl
  | succ n ih => rw [initO, List.length_set, ih]
theorem of_len (p : Prg) : (ofO p).length = 16 := by
  unfold ofO
  split
  · exact iter_len _ _
  · rfl

/-- owners on the way: none at 0, the others on A or E -/
structure OkO (o : List Int) : Prop where
  len : o.length = 16
  zero : oAt o 0 = 0
  side : ∀ j : Nat, 1 ≤ j → j < 16 → oAt o j = 1 ∨ oAt o j = 2
/-- some that were on E are on A -/
structure Dn (o' o : List Int) : Prop where
  len : o'.length = o.length
  at_ : ∀ j : Nat, oAt o' j = oAt o j ∨ (oAt o j = 2 ∧ oAt o' j = 1)
theorem Dn.refl (o : List Int) : Dn o o := ⟨rfl, fun _ => .inl rfl⟩
theorem Dn.trans {a b c : List Int} (h : Dn a b) (k : Dn b c) : Dn a c := ⟨h.len.trans k.len, fun j => by
  rcases h.at_ j with h1 | ⟨h1, h2⟩ <;> rcases k.at_ j with h3 | ⟨h3, h4⟩
  · exact .inl (h1.trans h3)
  · exact .inr ⟨h3, h1.trans h4⟩
  · exact .inr ⟨h3 ▸ h1, h2⟩
  · rw [h4] at h1; omega⟩
theorem oAt_set {o : List Int} {k : Nat} (hk : k < o.length) (v : Int) (j : Nat) : oAt (o.set k v) j = if j = k then v else oAt o j := by
  simp only [oAt, Int.toNat_natCast, List.getD_eq_getElem?_getD, List.getElem?_set]
  by_cases h : k = j
  · subst h; simp [hk]
  · rw [if_neg h, if_neg (fun e => h e.symm)]
theorem OkO.set1 {o : List Int} (h : OkO o) {k : Nat} (h1 : 1 ≤ k) (h2 : k < 16) : OkO (o.set k 1) ∧ Dn (o.set k 1) o := by
  have hl := h.len
  refine ⟨⟨by rw [List.length_set]; exact h.len, ?_, fun j hj hj2 => ?_⟩, ⟨by rw [List.length_set], fun j => ?_⟩⟩
  · have := oAt_set (o := o) (k := k) (by omega) 1 0
    rw [show ((0 : Nat) : Int) = 0 from rfl] at this
    rw [this, if_neg (by omega)]; exact h.zero
  · rw [oAt_set (by omega)]
    split
    · exact .inl rfl
    · exact h.side j hj hj2
  · rw [oAt_set (by omega)]
    split
    · rename_i e
      subst e
      rcases h.side j h1 h2 with e | e
      · exact .inl e.symm
      · exact .inr ⟨e, rfl⟩
    · exact .inl rfl
theorem fold_ok (l : List Int) (hl : ∀ r ∈ l, 1 ≤ r ∧ r < 16) {o : List Int} (h : OkO o) : OkO (l.foldl (fun o r => o.set r.toNat 1) o) ∧ Dn (l.foldl (fun o r => o.set r.toNat 1) o) o := by
  induction l generalizing o with
  | nil => exact ⟨h, .refl o⟩
  | cons r l ih =>
    have hr := hl r (by simp)
    obtain ⟨h1, h2⟩ := h.set1 (k := r.toNat) (by omega) (by omega)
    obtain ⟨h3, h4⟩ := ih (fun x hx => hl x (by simp [hx])) h1
    exact ⟨h3, h4.trans h2⟩
theorem give_ok {i : Ins} (hi : rightB i = true) {o : List Int} (h : OkO o) : OkO (giveO i o) ∧ Dn (giveO i o) o := by
  have hf := right_fit hi
  have := hf.a0; have := hf.a1
  unfold giveO
  split
  · split
    · exact ⟨h, .refl o⟩
    · rename_i h0
      simp only [beq_iff_eq] at h0
      exact h.set1 (by omega) (by omega)
  · split
    · exact fold_ok _ (fun r hr => reads_bd hr) h
    · exact ⟨h, .refl o⟩
theorem pass_ok {c : List Ins} (hc : c.all rightB = true) {o : List Int} (h : OkO o) : OkO (passO c o) ∧ Dn (passO c o) o := by
  unfold passO
  induction c generalizing o with
  | nil => exact ⟨h, .refl o⟩
  | cons i c ih =>
    simp only [List.all_cons, Bool.and_eq_true] at hc
    obtain ⟨h1, h2⟩ := give_ok hc.1 h
    obtain ⟨h3, h4⟩ := ih hc.2 h1
    exact ⟨h3, h4.trans h2⟩
theorem start_ok : OkO startO := by
  refine ⟨rfl, rfl, fun j h1 h2 => ?_⟩
  have : j = 1 ∨ j = 2 ∨ j = 3 ∨ j = 4 ∨ j = 5 ∨ j = 6 ∨ j = 7 ∨ j = 8 ∨ j = 9 ∨ j = 10 ∨ j = 11 ∨ j = 12 ∨ j = 13 ∨ j = 14 ∨ j = 15 := by omega
  rcases this with rfl | rfl | rfl | rfl | rfl | rfl | rfl | rfl | rfl | rfl | rfl | rfl | rfl | rfl | rfl <;> exact .inr rfl
theorem iter_ok {c : List Ins} (hc : c.all rightB = true) (n : Nat) : OkO (iterO c n) := by
  induction n with
  | zero => exact start_ok
  | succ n ih => exact (pass_ok hc ih).1

/-- how many are on E -/
def cnt2 (o : List Int) : Nat := (List.range 16).countP fun (j : Nat) => oAt o j == 2
theorem countP_lt {α : Type} {p q : α → Bool} {l : List α} (h : ∀ x ∈ l, p x = true → q x = true) {a : α} (ha : a ∈ l) (hq : q a = true) (hp : p a = false) : l.countP p < l.countP q := by
  induction l with
  | nil => cases ha
  | cons b l ih =>
    have hle : l.countP p ≤ l.countP q := List.countP_mono_left fun x hx => h x (by simp [hx])
    rw [List.countP_cons, List.countP_cons]
    rcases List.mem_cons.1 ha with rfl | ha
    · rw [hq, hp]; simp; omega
    · have := ih (fun x hx => h x (by simp [hx])) ha
      have hb := h b (by simp)
      cases hpb : p b
      · simp; split <;> omega
      · rw [hb hpb]; simp; omega
theorem oAt_ext {a b : List Int} (h1 : a.length = b.length) (h : ∀ j : Nat, oAt a j = oAt b j) : a = b := by
  apply List.ext_getElem h1
  intro j hj hj2
  have := h j
  simpa [oAt, List.getD_eq_getElem?_getD, List.getElem?_eq_getElem hj, List.getElem?_eq_getElem hj2] using this
theorem Dn.cnt {a b : List Int} (h : Dn a b) (hb : OkO b) (hne : a ≠ b) : cnt2 a < cnt2 b := by
  have hj : ∃ j : Nat, oAt a j ≠ oAt b j := by
    apply Classical.byContradiction
    intro hn
    exact hne (oAt_ext h.len fun j => Classical.byContradiction fun hj => hn ⟨j, hj⟩)
  obtain ⟨j, hj⟩ := hj
  rcases h.at_ j with e | ⟨e1, e2⟩
  · exact absurd e hj
  · have hj16 : j < 16 := by
      rcases Nat.lt_or_ge j 16 with h | h
      · exact h
      · exfalso
        have hl := hb.len
        simp only [oAt, Int.toNat_natCast, List.getD_eq_getElem?_getD] at e1
        rw [List.getElem?_eq_none (by omega)] at e1
        simp at e1
    refine countP_lt (a := j) (fun x _ hx => ?_) (by simp [hj16]) (by simp [e1]) (by simp [e2])
    simp only [beq_iff_eq] at hx ⊢
    rcases h.at_ x with e | ⟨e, _⟩
    · rw [← e]; exact hx
    · exact e
theorem iter_stable {c : List Ins} (hc : c.all rightB = true) : ∀ n : Nat, cnt2 (iterO c n) + n ≤ 15 ∨ passO c (iterO c n) = iterO c n
  | 0 => .inl (by show cnt2 startO + 0 ≤ 15; decide)
  | n + 1 => by
    rcases iter_stable hc n with h | h
    · by_cases e : passO c (iterO c n) = iterO c n
      · right; rw [iterO, e, e]
      · left
        have := (pass_ok hc (iter_ok hc n)).2.cnt (iter_ok hc n) e
        rw [iterO]; omega
    · right; rw [iterO, h, h]
/-- owners that may be left as they are: all rounds leave them there -/
theorem iter17_fix {c : List Ins} (hc : c.all rightB = true) : passO c (iterO c 17) = iterO c 17 := by
  have h := iter_stable hc 17
  rcases h with h | h
  · omega
  · exact h

end Go.Proofs.YtkfmecmmbnehjaaGreat
