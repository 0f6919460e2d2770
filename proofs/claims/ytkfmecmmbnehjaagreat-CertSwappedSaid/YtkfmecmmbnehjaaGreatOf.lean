/-
The laws of chapter 11: Owners, with, OwnerLeast. No condition.
-/
import Derived.Test.YtkfmecmmbnehjaaGreatOd
import Derived.Test.YtkfmecmmbnehjaaGreatOe
namespace Go.Proofs.YtkfmecmmbnehjaaGreat
set_option linter.unusedSimpArgs false
set_option linter.unusedVariables false

def bitB (pick : Int) (k : Nat) : Bool := bits .and .i64 (pick.fdiv (2 ^ k)) 1 == 1
def ownS (pick : Int) : Nat → List Int
  | 0 => zeroO
  | n + 1 => (ownS pick n).set (n + 1) (if bitB pick (n + 1) = true then 1 else 2)
theorem ownS_len (pick : Int) (n : Nat) : (ownS pick n).length = 16 := by
  induction n with
  | zero => rfl
  | succ n ih => rw [ownS, List.length_set, ih]
def spOwners : Spec := ⟨[], fun xs => match xs with
  | [.s (.int .i64 pick)] => some (.agg ((ownS pick 15).map iv))
  | _ => none⟩
def ownersI (pick : Int) (s : S) : Prop := s.env 0 = .s (.int .i64 pick) ∧ s.env 2 = .ptr 2 1 0 ∧ s.st 2 = ⟨1, .box (zeroO.map iv)⟩ ∧ s.env 3 = .ptr 3 1 0 ∧
  ∃ k : Nat, s.env 4 = .s (.int .i64 (k + 1 : Nat)) ∧ k ≤ 15 ∧ s.st 3 = ⟨1, .box ((ownS pick k).map iv)⟩
set_option maxHeartbeats 2000000 in
theorem owners_impl : Impl Tryz.prog 19 spOwners := by
  refine impl_walk mixed cLaw2_ok eqT_ok Tryz.func19 rfl Tryz.ntmps19 (by kernel_rfl) ?_
  intro xs r h
  unfold spOwners at h
  simp only at h
  (try split at h) <;> try (cases (show none = some r from h); done)
  rename_i pick
  cases h
  refine ⟨by simp, ?_⟩
  simp only [go_sem, seval, eq_self, reduceCtorEq]
  repeat' ((first | (refine AG_of ?_ ?_ <;> intro h) | (refine AB_of ?_ ?_ <;> intro h) | (refine A_draw_of [] [] (by kernel_rfl) ?_ <;> have h := mark)) <;> simp only [go_sem, seval, eq_self, reduceCtorEq, h])
  refine A_loop (ownersI pick) (fun s => 17 - (numOf (s.env 4)).toNat) ?_ ?_
  · exact ⟨by simp [upd, init, V.unfr], by simp [upd], by simp [upd]; rfl, by simp [upd], 0, by simp [upd], by omega, by simp [upd]; rfl⟩
  intro s hs
  obtain ⟨e0, e2, t2, e3, k, e4, hk, t3⟩ := hs
  have hl := ownS_len pick k
  rcases Nat.lt_or_ge k 15 with hlt | hge
  · have g0 : decide (((k + 1 : Nat) : Int) < 16) = true := by simp; omega
    have z0 := Int.natCast_nonneg (k + 1)
    have z1 : ((k + 1 : Nat) : Int) < 16 := by omega
    have z2 : ¬ (((k + 1 : Nat) : Int) < 0) := by omega
    have n2 : IntKind.i64.wrap (((k + 1 : Nat) : Int) + 1) = (k + 1 + 1 : Nat) := by rw [w_i64 (by omega) (by omega)]; omega
    have n3 : IntKind.u64.wrap ((k + 1 : Nat) : Int) = (k + 1 : Nat) := by rw [IntKind.wrap_u64]; omega
    have h64 : k + 1 ≤ 64 := by omega
    have hs1 := spl_iv (o := ownS pick k) (k := k + 1) (by omega) 2
    have hs2 := spl_iv (o := (ownS pick k).set (k + 1) 2) (k := k + 1) (by rw [List.length_set]; omega) 1
    have hle : k + 1 + 1 ≤ 16 := by omega
    have hbe : (bits .and .i64 (pick.fdiv (2 ^ (k + 1))) 1 == 1) = bitB pick (k + 1) := rfl
    have hsn : ownS pick (k + 1) = (ownS pick k).set (k + 1) (if bitB pick (k + 1) = true then 1 else 2) := rfl
    have hss : ((ownS pick k).set (k + 1) 2).set (k + 1) 1 = (ownS pick k).set (k + 1) 1 := List.set_set _
    rw [hss] at hs2
    cases hb : bitB pick (k + 1)
    · rw [hb] at hbe hsn
      simp only [Bool.false_eq_true, if_false] at hsn
      rw [← hsn] at hs1
      simp only [go_sem, seval, eq_self, reduceCtorEq, e0, e2, t2, e3, e4, t3, g0, z0, z1, z2, n2, n3, h64, hs1, hl, hle, hbe, List.length_map, Int.toNat_natCast, Nat.mul_one, Nat.zero_add]
      repeat' ((first | (refine AG_of ?_ ?_ <;> intro h) | (refine AB_of ?_ ?_ <;> intro h) | (refine A_draw_of [] [] (by kernel_rfl) ?_ <;> have h := mark)) <;> simp only [go_sem, seval, eq_self, reduceCtorEq, e0, e2, t2, e3, e4, t3, g0, z0, z1, z2, n2, n3, h64, hs1, hl, hle, hbe, List.length_map, Int.toNat_natCast, Nat.mul_one, Nat.zero_add, h])
      exact ⟨⟨by simp [upd, e0], by simp [upd, e2], by simp [upd, t2], by simp [upd, e3], k + 1, by simp [upd], by omega, by simp [upd]⟩, by simp [upd, numOf, e4]; omega⟩
    · rw [hb] at hbe hsn
      simp only [if_true] at hsn
      rw [← hsn] at hs2
      simp only [go_sem, seval, eq_self, reduceCtorEq, e0, e2, t2, e3, e4, t3, g0, z0, z1, z2, n2, n3, h64, hs1, hs2, hl, hle, hbe, List.length_map, List.length_set, Int.toNat_natCast, Nat.mul_one, Nat.zero_add]
      repeat' ((first | (refine AG_of ?_ ?_ <;> intro h) | (refine AB_of ?_ ?_ <;> intro h) | (refine A_draw_of [] [] (by kernel_rfl) ?_ <;> have h := mark)) <;> simp only [go_sem, seval, eq_self, reduceCtorEq, e0, e2, t2, e3, e4, t3, g0, z0, z1, z2, n2, n3, h64, hs1, hs2, hl, hle, hbe, List.length_map, List.length_set, Int.toNat_natCast, Nat.mul_one, Nat.zero_add, h])
      exact ⟨⟨by simp [upd, e0], by simp [upd, e2], by simp [upd, t2], by simp [upd, e3], k + 1, by simp [upd], by omega, by simp [upd]⟩, by simp [upd, numOf, e4]; omega⟩
  · have hk15 : k = 15 := by omega
    subst hk15
    have hto := take_iv hl
    have hzd : List.drop 16 (List.map iv zeroO) = [] := rfl
    have hz16 : zeroO.length = 16 := rfl
    simp only [go_sem, seval, eq_self, reduceCtorEq, e0, e2, t2, e3, e4, t3, hto, hl, hzd, hz16, List.length_map]
    repeat' ((first | (refine AG_of ?_ ?_ <;> intro h) | (refine AB_of ?_ ?_ <;> intro h) | (refine A_draw_of [] [] (by kernel_rfl) ?_ <;> have h := mark)) <;> simp only [go_sem, seval, eq_self, reduceCtorEq, e0, e2, t2, e3, e4, t3, hto, hl, hzd, hz16, List.length_map, h])
    all_goals (first | refine fin_ret ?_ | refine fin_normal ?_)
    all_goals simp only [resOf, Tryz.results19, Tryz.ntmps19, go_sem, seval, eq_self, reduceCtorEq, e2, hto, hl, List.length_map]

theorem spOwners_mv : spOwners.mv = [] := rfl
theorem spOwners_fn (n : Int) : spOwners.fn [.s (.int .i64 n)] = some (.agg ((ownS n 15).map iv)) := rfl
end Go.Proofs.YtkfmecmmbnehjaaGreat
