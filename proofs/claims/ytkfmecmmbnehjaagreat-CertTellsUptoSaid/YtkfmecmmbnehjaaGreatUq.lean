/-
A block has no more cells than what is read of it has parts. No condition.
-/
import Derived.Test.YtkfmecmmbnehjaaGreatUh
import Derived.Test.YtkfmecmmbnehjaaGreatUl
import Derived.Test.YtkfmecmmbnehjaaGreatRows
import Derived.ChangeArms
/-
The reference's Counts, only, some, last by the plain reckoning. No condition.
-/
namespace Go.Proofs.YtkfmecmmbnehjaaGreat
set_option linter.unusedSimpArgs false
set_option linter.unusedVariables false

theorem drop_get {L : List Int} {j : Nat} {v : Int} (h : L[j]? = some v) : (L.map iv).drop j = .s (.int .i64 v) :: (L.map iv).drop (j + 1) := by
  have hj := (List.getElem?_eq_some_iff.1 h).1
  have hjl : j < (L.map iv).length := by rw [List.length_map]; exact hj
  rw [List.drop_eq_getElem_cons hjl]
  congr 1
  have : (L.map iv)[j]? = some (iv v) := by rw [List.getElem?_map, h]; rfl
  exact (List.getElem?_eq_some_iff.1 this).2
theorem spl_set {L : List Int} {j : Nat} (h : j < L.length) (v : Int) : spl (L.map iv) j [.s (.int .i64 v)] = (L.set j v).map iv := by
  have h1 : L.set j v = L.take j ++ v :: L.drop (j + 1) := by
    rw [List.set_eq_take_append_cons_drop, if_pos h]
  rw [h1, List.map_append, List.map_cons, List.map_take, List.map_drop]
  simp only [spl, List.length_singleton, List.append_assoc, List.singleton_append, iv]
def rcBox (b : SB) : Blk := ⟨1, .box [.s (.int .i64 b.from_), .s (.int .i64 b.to_), .s (.int .i64 b.next), .s (.int .i64 b.taken), .lst false 9 (b.a.map Cell.v), .lst false 9 (b.e.map Cell.v)]⟩
def rc1 (b : SB) (s : S) : Prop := s.env 1 = .ptr 1 1 0 ∧ s.st 1 = rcBox b ∧ s.env 2 = .ptr 2 1 0 ∧ s.st 2 = ⟨1, .box ((List.replicate 24 (0 : Int)).map iv)⟩ ∧ s.env 3 = .ptr 3 1 0 ∧
  ∃ k : Nat, s.env 4 = .s (.int .i64 k) ∧ k ≤ b.a.length ∧ s.st 3 = ⟨1, .box ((cntL (b.a.take k) ++ List.replicate 12 (0 : Int)).map iv)⟩
def rc2 (b : SB) (s : S) : Prop := s.env 1 = .ptr 1 1 0 ∧ s.st 1 = rcBox b ∧ s.env 2 = .ptr 2 1 0 ∧ s.st 2 = ⟨1, .box ((List.replicate 24 (0 : Int)).map iv)⟩ ∧ s.env 3 = .ptr 3 1 0 ∧
  ∃ k : Nat, s.env 5 = .s (.int .i64 k) ∧ k ≤ b.e.length ∧ s.st 3 = ⟨1, .box ((cntL b.a ++ cntL (b.e.take k)).map iv)⟩
set_option maxRecDepth 8000 in
set_option maxHeartbeats 16000000 in
theorem rcounts_impl : Impl Tryz.prog 11 spCounts := by
  refine impl_walk2 mixed orc0_ok eqT_ok Tryz.func11 rfl Tryz.ntmps11 (by kernel_rfl) ?_
  intro xs r h
  unfold spCounts at h
  simp only at h
  (try split at h) <;> try (cases (show none = some r from h); done)
  rename_i x
  obtain ⟨b, hb, h4⟩ := Option.bind_eq_some_iff.1 h
  clear h
  split at h4
  case isFalse => cases h4
  rename_i hfit
  cases h4
  obtain ⟨fa, fe⟩ := sbFit_iff hfit
  refine ⟨_, (SeesL.cons (sbOf_sees hb) .nil).args, by simp [SB.v], ?_⟩
  obtain ⟨f1, t1, nx, tk, A, E⟩ := b
  simp only at fa fe
  simp only [go_sem, seval, eq_self, reduceCtorEq, SB.v, List.length_map]
  repeat' ((first | (refine AG_of ?_ ?_ <;> intro h) | (refine AB_of ?_ ?_ <;> intro h) | (refine A_draw_of [] [] (by kernel_rfl) ?_ <;> have h := mark)) <;> simp only [go_sem, seval, eq_self, reduceCtorEq, SB.v, List.length_map, h])
  refine A_loop (rc1 ⟨f1, t1, nx, tk, A, E⟩) (fun s => A.length - (numOf (s.env 4)).toNat) ?_ ?_
  · exact ⟨by simp [upd], by simp [upd, rcBox, V.unfr, V.unfrL, V.cells], by simp [upd], by simp [upd, iv, List.replicate], by simp [upd], 0, by simp [upd], by omega, by simp [upd, cntL_nil, iv, List.replicate]⟩
  intro s hs
  obtain ⟨e1, b1, e2, b2, e3, k, ek, hk, b3⟩ := hs
  simp only at hk b3
  rcases Nat.lt_or_ge k A.length with hlt | hge
  · obtain ⟨c, q⟩ : ∃ i, A[k]? = some i := ⟨A[k], List.getElem?_eq_getElem hlt⟩
    have g0 : decide ((k : Int) < A.length) = true := by simp; omega
    have z0 := Int.natCast_nonneg k
    have n2 : IntKind.i64.wrap ((k : Int) + 1) = (k + 1 : Nat) := by rw [w_i64 (by omega) (by omega)]; omega
    have htk : A.take (k + 1) = A.take k ++ [c] := by rw [List.take_add_one, q]; rfl
    by_cases hin : 1 ≤ c.kind ∧ c.kind ≤ 12
    · obtain ⟨j, hj⟩ : ∃ j : Nat, c.kind = ((j + 1 : Nat) : Int) := ⟨(c.kind - 1).toNat, by omega⟩
      have hj12 : j < 12 := by omega
      have g1 : decide (1 ≤ ((j + 1 : Nat) : Int)) = true := by simp; omega
      have g2 : decide (((j + 1 : Nat) : Int) ≤ 12) = true := by simp; omega
      have w1 : IntKind.i64.wrap (((j + 1 : Nat) : Int) - 1) = (j : Nat) := by rw [w_i64 (by omega) (by omega)]; omega
      have zj := Int.natCast_nonneg j
      have hj12i : (j : Int) < 12 := by omega
      have hat := cntL_at (A.take k) hj12
      have hcl := cntK_le (A.take k) ((j + 1 : Nat) : Int)
      have hkl : (A.take k).length ≤ k := by rw [List.length_take]; omega
      have w2 : IntKind.i64.wrap (((cntK (A.take k) ((j + 1 : Nat) : Int) : Nat) : Int) + 1) = ((cntK (A.take k) ((j + 1 : Nat) : Int) + 1 : Nat) : Int) := by rw [w_i64 (by omega) (by omega)]; omega
      have hset := cntL_in (A.take k) hj12 hj
      have hcn := cntL_len (A.take k)
      have hcn24 : (cntL (A.take k) ++ List.replicate 12 (0 : Int)).length = 24 := by simp [cntL_len]
      obtain ⟨cc, hcc⟩ : ∃ cc, cntK (A.take k) ((j + 1 : Nat) : Int) = cc := ⟨_, rfl⟩
      rw [hcc] at hat hset w2
      have hatl : (cntL (A.take k) ++ List.replicate 12 (0 : Int))[j]? = some (cc : Int) := by rw [List.getElem?_append_left (by omega)]; exact hat
      have hsetl : cntL (A.take (k + 1)) ++ List.replicate 12 (0 : Int) = (cntL (A.take k) ++ List.replicate 12 (0 : Int)).set j ((cc + 1 : Nat) : Int) := by rw [htk, hset, List.set_append_left _ _ (by omega)]
      obtain ⟨L, hL⟩ : ∃ L, cntL (A.take k) ++ List.replicate 12 (0 : Int) = L := ⟨_, rfl⟩
      rw [hL] at hatl hsetl hcn24 b3
      have hdr := drop_get hatl
      have hspl := spl_set (L := L) (j := j) (by omega) ((cc + 1 : Nat) : Int)
      have hcv : c.v = .agg [.s (.int .i64 (j + 1 : Nat)), .s (.int .i64 c.ins.op), .s (.int .i64 c.ins.d), .s (.int .i64 c.ins.a), .s (.int .i64 c.ins.b), .s (.int .i64 c.ins.imm), .s (.int .i64 c.reg), .s (.int .i64 c.pc), .s (.int .i64 c.off)] := by rw [← hj]; rfl
      have hfit : j + 1 ≤ 24 := by omega
      simp only [go_sem, seval, eq_self, reduceCtorEq, e1, b1, e2, b2, e3, ek, b3, g0, z0, q, hcv, g1, g2, w1, zj, hj12i, hdr, w2, hspl, hfit, hcn24, n2, rcBox, Nat.mul_one, Nat.one_mul, Nat.zero_mul, Nat.zero_add, Int.toNat_natCast, List.getElem?_map, List.length_map]
      repeat' ((first | (refine AG_of ?_ ?_ <;> intro h) | (refine AB_of ?_ ?_ <;> intro h) | (refine A_draw_of [] [] (by kernel_rfl) ?_ <;> have h := mark)) <;> simp only [go_sem, seval, eq_self, reduceCtorEq, e1, b1, e2, b2, e3, ek, b3, g0, z0, q, hcv, g1, g2, w1, zj, hj12i, hdr, w2, hspl, hfit, hcn24, n2, rcBox, Nat.mul_one, Nat.one_mul, Nat.zero_mul, Nat.zero_add, Int.toNat_natCast, List.getElem?_map, List.length_map, h])
      exact ⟨⟨by simp [upd, e1], by simp [upd, b1, rcBox], by simp [upd, e2], by simp [upd, b2], by simp [upd, e3], k + 1, by simp [upd], by simp; omega, by rw [show cntL (List.take (k + 1) A) ++ List.replicate 12 (0 : Int) = L.set j ((cc + 1 : Nat) : Int) from hsetl, ← hspl]; simp [upd, spl]⟩, by simp [upd, numOf, ek]; omega⟩
    · have hout := cntL_out (A.take k) hin
      rw [← htk] at hout
      rw [← hout] at b3
      cases g1 : decide (1 ≤ c.kind)
      ·
        simp only [go_sem, seval, eq_self, reduceCtorEq, e1, b1, e2, b2, e3, ek, b3, g0, z0, q, Cell.v, g1, n2, rcBox, Int.toNat_natCast, List.getElem?_map, List.length_map]
        repeat' ((first | (refine AG_of ?_ ?_ <;> intro h) | (refine AB_of ?_ ?_ <;> intro h) | (refine A_draw_of [] [] (by kernel_rfl) ?_ <;> have h := mark)) <;> simp only [go_sem, seval, eq_self, reduceCtorEq, e1, b1, e2, b2, e3, ek, b3, g0, z0, q, Cell.v, g1, n2, rcBox, Int.toNat_natCast, List.getElem?_map, List.length_map, h])
        exact ⟨⟨by simp [upd, e1], by simp [upd, b1, rcBox, Cell.v], by simp [upd, e2], by simp [upd, b2], by simp [upd, e3], k + 1, by simp [upd], by simp; omega, by simp [upd, b3]⟩, by simp [upd, numOf, ek]; omega⟩
      · have g2 : decide (c.kind ≤ 12) = false := by simp at g1 ⊢; omega
        simp only [go_sem, seval, eq_self, reduceCtorEq, e1, b1, e2, b2, e3, ek, b3, g0, z0, q, Cell.v, g1, g2, n2, rcBox, Int.toNat_natCast, List.getElem?_map, List.length_map]
        repeat' ((first | (refine AG_of ?_ ?_ <;> intro h) | (refine AB_of ?_ ?_ <;> intro h) | (refine A_draw_of [] [] (by kernel_rfl) ?_ <;> have h := mark)) <;> simp only [go_sem, seval, eq_self, reduceCtorEq, e1, b1, e2, b2, e3, ek, b3, g0, z0, q, Cell.v, g1, g2, n2, rcBox, Int.toNat_natCast, List.getElem?_map, List.length_map, h])
        exact ⟨⟨by simp [upd, e1], by simp [upd, b1, rcBox, Cell.v], by simp [upd, e2], by simp [upd, b2], by simp [upd, e3], k + 1, by simp [upd], by simp; omega, by simp [upd, b3]⟩, by simp [upd, numOf, ek]; omega⟩
  have hkl : k = A.length := by omega
  have g0 : decide ((k : Int) < A.length) = false := by simp; omega
  rw [hkl, List.take_length] at b3
  simp only [go_sem, seval, eq_self, reduceCtorEq, e1, b1, e2, b2, e3, ek, g0, rcBox, List.length_map]
  repeat' ((first | (refine AG_of ?_ ?_ <;> intro h) | (refine AB_of ?_ ?_ <;> intro h) | (refine A_draw_of [] [] (by kernel_rfl) ?_ <;> have h := mark)) <;> simp only [go_sem, seval, eq_self, reduceCtorEq, e1, b1, e2, b2, e3, ek, g0, rcBox, List.length_map, h])
  refine A_loop (rc2 ⟨f1, t1, nx, tk, A, E⟩) (fun s => E.length - (numOf (s.env 5)).toNat) ?_ ?_
  · exact ⟨by simp [upd, e1], by simp [upd, b1, rcBox], by simp [upd, e2], by simp [upd, b2], by simp [upd, e3], 0, by simp [upd], by omega, by simp [upd, b3, cntL_nil]⟩
  clear e1 b1 e2 b2 e3 ek b3 g0 hkl hge hk
  clear k s
  intro s hs
  obtain ⟨e1, b1, e2, b2, e3, k, ek, hk, b3⟩ := hs
  simp only at hk b3
  rcases Nat.lt_or_ge k E.length with hlt | hge
  · obtain ⟨c, q⟩ : ∃ i, E[k]? = some i := ⟨E[k], List.getElem?_eq_getElem hlt⟩
    have g0 : decide ((k : Int) < E.length) = true := by simp; omega
    have z0 := Int.natCast_nonneg k
    have n2 : IntKind.i64.wrap ((k : Int) + 1) = (k + 1 : Nat) := by rw [w_i64 (by omega) (by omega)]; omega
    have htk : E.take (k + 1) = E.take k ++ [c] := by rw [List.take_add_one, q]; rfl
    by_cases hin : 1 ≤ c.kind ∧ c.kind ≤ 12
    · obtain ⟨j, hj⟩ : ∃ j : Nat, c.kind = ((j + 1 : Nat) : Int) := ⟨(c.kind - 1).toNat, by omega⟩
      have hj12 : j < 12 := by omega
      have g1 : decide (1 ≤ ((j + 1 : Nat) : Int)) = true := by simp; omega
      have g2 : decide (((j + 1 : Nat) : Int) ≤ 12) = true := by simp; omega
      have w1 : IntKind.i64.wrap (((j + 1 : Nat) : Int) - 1) = (j : Nat) := by rw [w_i64 (by omega) (by omega)]; omega
      have zj := Int.natCast_nonneg j
      have hj12i : (j : Int) < 12 := by omega
      have hat := cntL_at (E.take k) hj12
      have hcl := cntK_le (E.take k) ((j + 1 : Nat) : Int)
      have hkl : (E.take k).length ≤ k := by rw [List.length_take]; omega
      have w2 : IntKind.i64.wrap (((cntK (E.take k) ((j + 1 : Nat) : Int) : Nat) : Int) + 1) = ((cntK (E.take k) ((j + 1 : Nat) : Int) + 1 : Nat) : Int) := by rw [w_i64 (by omega) (by omega)]; omega
      have hset := cntL_in (E.take k) hj12 hj
      have hcn := cntL_len (E.take k)
      have hcn24 : (cntL A ++ cntL (E.take k)).length = 24 := by simp [cntL_len]
      obtain ⟨cc, hcc⟩ : ∃ cc, cntK (E.take k) ((j + 1 : Nat) : Int) = cc := ⟨_, rfl⟩
      rw [hcc] at hat hset w2
      have hatl : (cntL A ++ cntL (E.take k))[12 + j]? = some (cc : Int) := by rw [List.getElem?_append_right (by rw [cntL_len]; omega), cntL_len, show 12 + j - 12 = j by omega]; exact hat
      have hsetl : cntL A ++ cntL (E.take (k + 1)) = (cntL A ++ cntL (E.take k)).set (12 + j) ((cc + 1 : Nat) : Int) := by rw [htk, hset, List.set_append_right _ _ (by rw [cntL_len]; omega), cntL_len, show 12 + j - 12 = j by omega]
      obtain ⟨L, hL⟩ : ∃ L, cntL A ++ cntL (E.take k) = L := ⟨_, rfl⟩
      rw [hL] at hatl hsetl hcn24 b3
      have hdr := drop_get hatl
      have hspl := spl_set (L := L) (j := (12 + j)) (by omega) ((cc + 1 : Nat) : Int)
      have hcv : c.v = .agg [.s (.int .i64 (j + 1 : Nat)), .s (.int .i64 c.ins.op), .s (.int .i64 c.ins.d), .s (.int .i64 c.ins.a), .s (.int .i64 c.ins.b), .s (.int .i64 c.ins.imm), .s (.int .i64 c.reg), .s (.int .i64 c.pc), .s (.int .i64 c.off)] := by rw [← hj]; rfl
      have hfit : (12 + j) + 1 ≤ 24 := by omega
      simp only [go_sem, seval, eq_self, reduceCtorEq, e1, b1, e2, b2, e3, ek, b3, g0, z0, q, hcv, g1, g2, w1, zj, hj12i, hdr, w2, hspl, hfit, hcn24, n2, rcBox, Nat.mul_one, Nat.one_mul, Nat.zero_mul, Nat.zero_add, Int.toNat_natCast, List.getElem?_map, List.length_map]
      repeat' ((first | (refine AG_of ?_ ?_ <;> intro h) | (refine AB_of ?_ ?_ <;> intro h) | (refine A_draw_of [] [] (by kernel_rfl) ?_ <;> have h := mark)) <;> simp only [go_sem, seval, eq_self, reduceCtorEq, e1, b1, e2, b2, e3, ek, b3, g0, z0, q, hcv, g1, g2, w1, zj, hj12i, hdr, w2, hspl, hfit, hcn24, n2, rcBox, Nat.mul_one, Nat.one_mul, Nat.zero_mul, Nat.zero_add, Int.toNat_natCast, List.getElem?_map, List.length_map, h])
      exact ⟨⟨by simp [upd, e1], by simp [upd, b1, rcBox], by simp [upd, e2], by simp [upd, b2], by simp [upd, e3], k + 1, by simp [upd], by simp; omega, by rw [show cntL A ++ cntL (List.take (k + 1) E) = L.set (12 + j) ((cc + 1 : Nat) : Int) from hsetl, ← hspl]; simp [upd, spl]⟩, by simp [upd, numOf, ek]; omega⟩
    · have hout := cntL_out (E.take k) hin
      rw [← htk] at hout
      rw [← hout] at b3
      cases g1 : decide (1 ≤ c.kind)
      ·
        simp only [go_sem, seval, eq_self, reduceCtorEq, e1, b1, e2, b2, e3, ek, b3, g0, z0, q, Cell.v, g1, n2, rcBox, Int.toNat_natCast, List.getElem?_map, List.length_map]
        repeat' ((first | (refine AG_of ?_ ?_ <;> intro h) | (refine AB_of ?_ ?_ <;> intro h) | (refine A_draw_of [] [] (by kernel_rfl) ?_ <;> have h := mark)) <;> simp only [go_sem, seval, eq_self, reduceCtorEq, e1, b1, e2, b2, e3, ek, b3, g0, z0, q, Cell.v, g1, n2, rcBox, Int.toNat_natCast, List.getElem?_map, List.length_map, h])
        exact ⟨⟨by simp [upd, e1], by simp [upd, b1, rcBox, Cell.v], by simp [upd, e2], by simp [upd, b2], by simp [upd, e3], k + 1, by simp [upd], by simp; omega, by simp [upd, b3]⟩, by simp [upd, numOf, ek]; omega⟩
      · have g2 : decide (c.kind ≤ 12) = false := by simp at g1 ⊢; omega
        simp only [go_sem, seval, eq_self, reduceCtorEq, e1, b1, e2, b2, e3, ek, b3, g0, z0, q, Cell.v, g1, g2, n2, rcBox, Int.toNat_natCast, List.getElem?_map, List.length_map]
        repeat' ((first | (refine AG_of ?_ ?_ <;> intro h) | (refine AB_of ?_ ?_ <;> intro h) | (refine A_draw_of [] [] (by kernel_rfl) ?_ <;> have h := mark)) <;> simp only [go_sem, seval, eq_self, reduceCtorEq, e1, b1, e2, b2, e3, ek, b3, g0, z0, q, Cell.v, g1, g2, n2, rcBox, Int.toNat_natCast, List.getElem?_map, List.length_map, h])
        exact ⟨⟨by simp [upd, e1], by simp [upd, b1, rcBox, Cell.v], by simp [upd, e2], by simp [upd, b2], by simp [upd, e3], k + 1, by simp [upd], by simp; omega, by simp [upd, b3]⟩, by simp [upd, numOf, ek]; omega⟩
  have hkl : k = E.length := by omega
  have g0 : decide ((k : Int) < E.length) = false := by simp; omega
  rw [hkl, List.take_length] at b3
  have hcn : (cntL A ++ cntL E).length = 24 := by rw [List.length_append, cntL_len, cntL_len]
  obtain ⟨L, hL⟩ : ∃ L, cntL A ++ cntL E = L := ⟨_, rfl⟩
  rw [hL] at hcn b3
  rw [hL]
  have ht : (L.map iv).take 24 = L.map iv := List.take_of_length_le (by rw [List.length_map]; omega)
  have hd := List.drop_eq_nil_of_le (show ((List.replicate 24 (0 : Int)).map iv).length ≤ 24 by simp)
  simp only [go_sem, seval, eq_self, reduceCtorEq, e1, b1, e2, b2, e3, ek, b3, g0, ht, hcn, rcBox, List.length_replicate, List.length_map]
  repeat' ((first | (refine AG_of ?_ ?_ <;> intro h) | (refine AB_of ?_ ?_ <;> intro h) | (refine A_draw_of [] [] (by kernel_rfl) ?_ <;> have h := mark)) <;> simp only [go_sem, seval, eq_self, reduceCtorEq, e1, b1, e2, b2, e3, ek, b3, g0, ht, hcn, rcBox, List.length_replicate, List.length_map, h])
  all_goals (first | refine fin_ret ?_ | refine fin_normal ?_)
  all_goals simp only [resOf, Tryz.results11, Tryz.ntmps11, go_sem, seval, eq_self, reduceCtorEq, e2, ht, hcn, hd, List.length_replicate, List.length_map]
  all_goals rfl

def cV1 : Orc := upd (upd orc0 45 (some spCtl)) 46 (some spIndexI)
theorem cV1_ok : ∀ g sp, cV1 g = some sp → Impl Tryz.prog g sp := orc_upd (orc_upd orc0_ok rctl_impl) find_impl
theorem cV1_at : cV1 45 = some spCtl ∧ cV1 46 = some spIndexI := ⟨rfl, rfl⟩
def onlyI (a : List Cell) (m : List Int) (s : S) : Prop := s.env 0 = .lst false 9 (a.map Cell.v) ∧ s.env 1 = .lst false 1 (m.map iv) ∧
  ∃ k : Nat, s.env 5 = .s (.int .i64 k) ∧ k ≤ a.length ∧ ∀ i, i < k → ∀ c, a[i]? = some c → kOk a.length m i c = true
set_option maxHeartbeats 4000000 in
theorem only_impl : Impl Tryz.prog 28 spKinds := by
  refine impl_walk2 mixed cV1_ok eqT_ok Tryz.func28 rfl Tryz.ntmps28 (by kernel_rfl) ?_
  intro xs r h
  unfold spKinds at h
  simp only at h
  (try split at h) <;> try (cases (show none = some r from h); done)
  rename_i x y
  obtain ⟨l, hl, h3⟩ := Option.bind_eq_some_iff.1 h
  obtain ⟨a, ha, h4⟩ := Option.bind_eq_some_iff.1 h3
  obtain ⟨q, hq, h5⟩ := Option.bind_eq_some_iff.1 h4
  obtain ⟨m, hm, h6⟩ := Option.bind_eq_some_iff.1 h5
  clear h h3 h4 h5
  have e1 := mapM_eq (fun _ _ => cellOf_eq) ha
  have e2 := mapM_eq (fun _ _ => i64Of_eq) hm
  subst e1
  subst e2
  split at h6
  case isFalse => cases h6
  rename_i hh
  obtain ⟨hla, hlm⟩ := hh
  cases h6
  refine ⟨_, (SeesL.cons (lOf_sees hl) (.cons (lOf_sees hq) .nil)).args, by simp, ?_⟩
  simp only [go_sem, seval, eq_self, reduceCtorEq, List.length_map]
  repeat' ((first | (refine AG_of ?_ ?_ <;> intro h) | (refine AB_of ?_ ?_ <;> intro h) | (refine A_draw_of [] [] (by kernel_rfl) ?_ <;> have h := mark)) <;> simp only [go_sem, seval, eq_self, reduceCtorEq, List.length_map, h])
  refine A_loop (onlyI a m) (fun s => a.length - (numOf (s.env 5)).toNat) ?_ ?_
  · exact ⟨by simp [upd, init, V.unfr], by simp [upd, init, V.unfr], 0, by simp [upd], by omega, fun i hi => by omega⟩
  intro s hs
  obtain ⟨e0, e1, k, ek, hk, hok⟩ := hs
  rcases Nat.lt_or_ge k a.length with hlt | hge
  · obtain ⟨c, q⟩ : ∃ i, a[k]? = some i := ⟨a[k], List.getElem?_eq_getElem hlt⟩
    have g0 : decide ((k : Int) < a.length) = true := by simp; omega
    have z0 := Int.natCast_nonneg k
    have n2 : IntKind.i64.wrap ((k : Int) + 1) = (k + 1 : Nat) := by rw [w_i64 (by omega) (by omega)]; omega
    have hC := spIndexI_v (c := m) hlm c.kind false
    have next : kOk a.length m k c = true → ∀ i, i < k + 1 → ∀ c, a[i]? = some c → kOk a.length m i c = true := fun hkk i hi c' hc' => by
      by_cases hik : i = k
      · subst hik
        rw [q] at hc'
        cases hc'
        exact hkk
      · exact hok i (by omega) c' hc'
    cases hc : ctlB c.kind
    · have hC2 := spCtl_fn c.kind
      rw [hc] at hC2
      obtain ⟨dd, hdd⟩ : ∃ d, idxL c.kind m 0 = d := ⟨_, rfl⟩
      rw [hdd] at hC
      by_cases hin : dd < 0
      · have gd : decide (dd < 0) = true := by simp; omega
        rw [kindsB_no q (by unfold kOk; rw [hc, hdd]; simp; omega)]
        simp only [go_sem, seval, eq_self, reduceCtorEq, e0, e1, ek, g0, z0, q, n2, cV1_at, spCtl_mv, hC2, spIndexI_mv, hC, gd, Cell.v, Int.toNat_natCast, List.getElem?_map, List.length_map]
        repeat' ((first | (refine AG_of ?_ ?_ <;> intro h) | (refine AB_of ?_ ?_ <;> intro h) | (refine A_draw_of [] [] (by kernel_rfl) ?_ <;> have h := mark)) <;> simp only [go_sem, seval, eq_self, reduceCtorEq, e0, e1, ek, g0, z0, q, n2, cV1_at, spCtl_mv, hC2, spIndexI_mv, hC, gd, Cell.v, Int.toNat_natCast, List.getElem?_map, List.length_map, h])
        all_goals (first | refine fin_ret ?_ | refine fin_normal ?_)
        all_goals simp only [resOf, Tryz.results28, Tryz.ntmps28, go_sem, seval, eq_self, reduceCtorEq]
      · have gd : decide (dd < 0) = false := by simp; omega
        simp only [go_sem, seval, eq_self, reduceCtorEq, e0, e1, ek, g0, z0, q, n2, cV1_at, spCtl_mv, hC2, spIndexI_mv, hC, gd, Cell.v, Int.toNat_natCast, List.getElem?_map, List.length_map]
        repeat' ((first | (refine AG_of ?_ ?_ <;> intro h) | (refine AB_of ?_ ?_ <;> intro h) | (refine A_draw_of [] [] (by kernel_rfl) ?_ <;> have h := mark)) <;> simp only [go_sem, seval, eq_self, reduceCtorEq, e0, e1, ek, g0, z0, q, n2, cV1_at, spCtl_mv, hC2, spIndexI_mv, hC, gd, Cell.v, Int.toNat_natCast, List.getElem?_map, List.length_map, h])
        exact ⟨⟨by simp [upd, e0, Cell.v], by simp [upd, e1], k + 1, by simp [upd], by omega, next (by unfold kOk; rw [hc, hdd]; simp; omega)⟩, by simp [upd, numOf, ek]; omega⟩
    · have hC2 := spCtl_fn c.kind
      rw [hc] at hC2
      by_cases hin : k + 1 < a.length
      · have gd : decide (((k + 1 : Nat) : Int) < (a.length : Int)) = true := by simp; omega
        rw [kindsB_no q (by unfold kOk; rw [hc, if_pos rfl]; simp; omega)]
        simp only [go_sem, seval, eq_self, reduceCtorEq, e0, e1, ek, g0, z0, q, n2, gd, cV1_at, spCtl_mv, hC2, Cell.v, Int.toNat_natCast, List.getElem?_map, List.length_map]
        repeat' ((first | (refine AG_of ?_ ?_ <;> intro h) | (refine AB_of ?_ ?_ <;> intro h) | (refine A_draw_of [] [] (by kernel_rfl) ?_ <;> have h := mark)) <;> simp only [go_sem, seval, eq_self, reduceCtorEq, e0, e1, ek, g0, z0, q, n2, gd, cV1_at, spCtl_mv, hC2, Cell.v, Int.toNat_natCast, List.getElem?_map, List.length_map, h])
        all_goals (first | refine fin_ret ?_ | refine fin_normal ?_)
        all_goals simp only [resOf, Tryz.results28, Tryz.ntmps28, go_sem, seval, eq_self, reduceCtorEq]
      · have gd : decide (((k + 1 : Nat) : Int) < (a.length : Int)) = false := by simp; omega
        simp only [go_sem, seval, eq_self, reduceCtorEq, e0, e1, ek, g0, z0, q, n2, gd, cV1_at, spCtl_mv, hC2, Cell.v, Int.toNat_natCast, List.getElem?_map, List.length_map]
        repeat' ((first | (refine AG_of ?_ ?_ <;> intro h) | (refine AB_of ?_ ?_ <;> intro h) | (refine A_draw_of [] [] (by kernel_rfl) ?_ <;> have h := mark)) <;> simp only [go_sem, seval, eq_self, reduceCtorEq, e0, e1, ek, g0, z0, q, n2, gd, cV1_at, spCtl_mv, hC2, Cell.v, Int.toNat_natCast, List.getElem?_map, List.length_map, h])
        exact ⟨⟨by simp [upd, e0, Cell.v], by simp [upd, e1], k + 1, by simp [upd], by omega, next (by unfold kOk; rw [hc, if_pos rfl]; simp; omega)⟩, by simp [upd, numOf, ek]; omega⟩
  · have hkl : k = a.length := by omega
    have g0 : decide ((k : Int) < a.length) = false := by simp; omega
    rw [kindsB_yes (fun i hi c hc => hok i (by omega) c hc)]
    simp only [go_sem, seval, eq_self, reduceCtorEq, e0, e1, ek, g0, List.length_map]
    repeat' ((first | (refine AG_of ?_ ?_ <;> intro h) | (refine AB_of ?_ ?_ <;> intro h) | (refine A_draw_of [] [] (by kernel_rfl) ?_ <;> have h := mark)) <;> simp only [go_sem, seval, eq_self, reduceCtorEq, e0, e1, ek, g0, List.length_map, h])
    all_goals (first | refine fin_ret ?_ | refine fin_normal ?_)
    all_goals simp only [resOf, Tryz.results28, Tryz.ntmps28, go_sem, seval, eq_self, reduceCtorEq]

/-- a row of cells that grows from nothing at a place -/
def RowC (x : V) (b : Nat) (k : Blk) (l : List Cell) : Prop :=
  (l = [] ∧ x = .s (.slice none 0 0)) ∨ (l ≠ [] ∧ ∃ v, x = .sw b v l.length ∧ k = ⟨v, .row 9 51 (l.map Cell.v)⟩)
theorem RowC.same {x x' : V} {b : Nat} {k k' : Blk} {l : List Cell} (h : RowC x b k l) (hx : x' = x) (hk : k' = k) : RowC x' b k' l := by rw [hx, hk]; exact h
def spSomeR : Spec := ⟨[], fun xs => match xs with
  | [x, .s (.int .i64 k)] => (lOf 9 x).bind fun l => (l.mapM cellOf).bind fun a => if a.length * 72 ≤ 140737488355328 then some (if ofK k a = [] then .s (.slice none 0 0) else .own 9 51 ((ofK k a).map Cell.v)) else none
  | _ => none⟩
def someI (a : List Cell) (v : Int) (s : S) : Prop := s.env 0 = .lst false 9 (a.map Cell.v) ∧ s.env 1 = .s (.int .i64 v) ∧ ∃ k : Nat, s.env 6 = .s (.int .i64 k) ∧ k ≤ a.length ∧ RowC (s.env 5) 26 (s.st 26) (ofK v (a.take k))
set_option maxHeartbeats 4000000 in
theorem someR_impl : Impl Tryz.prog 29 spSomeR := by
  refine impl_walk2 mixed orc0_ok eqT_ok Tryz.func29 rfl Tryz.ntmps29 (by kernel_rfl) ?_
  intro xs r h
  unfold spSomeR at h
  simp only at h
  (try split at h) <;> try (cases (show none = some r from h); done)
  rename_i x v
  obtain ⟨l, hl, h3⟩ := Option.bind_eq_some_iff.1 h
  obtain ⟨a, ha, h4⟩ := Option.bind_eq_some_iff.1 h3
  clear h h3
  have e1 := mapM_eq (fun _ _ => cellOf_eq) ha
  subst e1
  split at h4
  case isFalse => cases h4
  rename_i hla
  cases h4
  refine ⟨_, (SeesL.cons (lOf_sees hl) .same).args, by simp, ?_⟩
  simp only [go_sem, seval, eq_self, reduceCtorEq, List.length_map]
  repeat' ((first | (refine AG_of ?_ ?_ <;> intro h) | (refine AB_of ?_ ?_ <;> intro h) | (refine A_draw_of [] [] (by kernel_rfl) ?_ <;> have h := mark)) <;> simp only [go_sem, seval, eq_self, reduceCtorEq, List.length_map, h])
  refine A_loop (someI a v) (fun s => a.length - (numOf (s.env 6)).toNat) ?_ ?_
  · exact ⟨by simp [upd, init, V.unfr], by simp [upd, init, V.unfr], 0, by simp [upd], by omega, .inl ⟨rfl, by simp [upd]⟩⟩
  intro s hs
  obtain ⟨e0, e1, k, ek, hk, hr⟩ := hs
  rcases Nat.lt_or_ge k a.length with hlt | hge
  · obtain ⟨c, q⟩ : ∃ i, a[k]? = some i := ⟨a[k], List.getElem?_eq_getElem hlt⟩
    have g0 : decide ((k : Int) < a.length) = true := by simp; omega
    have z0 := Int.natCast_nonneg k
    have n2 : IntKind.i64.wrap ((k : Int) + 1) = (k + 1 : Nat) := by rw [w_i64 (by omega) (by omega)]; omega
    have htk : a.take (k + 1) = a.take k ++ [c] := by rw [List.take_add_one, q]; rfl
    have hsn := ofK_snoc v (a.take k) c
    rw [← htk] at hsn
    have hol := ofK_len v (a.take k)
    have hkl : (a.take k).length ≤ k := by rw [List.length_take]; omega
    obtain ⟨O, hO⟩ : ∃ O, ofK v (a.take k) = O := ⟨_, rfl⟩
    rw [hO] at hsn hr hol
    cases hb : (c.kind == v)
    · rw [if_neg (by simpa using hb)] at hsn
      simp only [go_sem, seval, eq_self, reduceCtorEq, e0, e1, ek, g0, z0, n2, q, hb, Cell.v, Int.toNat_natCast, List.getElem?_map, List.length_map]
      repeat' ((first | (refine AG_of ?_ ?_ <;> intro h) | (refine AB_of ?_ ?_ <;> intro h) | (refine A_draw_of [] [] (by kernel_rfl) ?_ <;> have h := mark)) <;> simp only [go_sem, seval, eq_self, reduceCtorEq, e0, e1, ek, g0, z0, n2, q, hb, Cell.v, Int.toNat_natCast, List.getElem?_map, List.length_map, h])
      exact ⟨⟨by simp [upd, e0, Cell.v], by simp [upd, e1], k + 1, by simp [upd], by omega, by rw [hsn]; exact hr.same (by simp [upd]) (by simp [upd])⟩, by simp [upd, numOf, ek]; omega⟩
    · rw [if_pos (by simpa using hb)] at hsn
      rcases hr with ⟨hl0, hx⟩ | ⟨hl0, u, hx, hbb⟩
      ·
        simp only [go_sem, seval, eq_self, reduceCtorEq, e0, e1, ek, g0, z0, n2, q, hb, hx, Cell.v, Int.toNat_natCast, List.getElem?_map, List.length_map]
        repeat' ((first | (refine AG_of ?_ ?_ <;> intro h) | (refine AB_of ?_ ?_ <;> intro h) | (refine A_draw_of [] [] (by kernel_rfl) ?_ <;> have h := mark)) <;> simp only [go_sem, seval, eq_self, reduceCtorEq, e0, e1, ek, g0, z0, n2, q, hb, hx, Cell.v, Int.toNat_natCast, List.getElem?_map, List.length_map, h])
        exact ⟨⟨by simp [upd, e0, Cell.v], by simp [upd, e1], k + 1, by simp [upd], by omega, by rw [hsn, hl0]; exact .inr ⟨by simp, (s.st 26).ver + 1, by simp [upd], by simp [upd, Cell.v]⟩⟩, by simp [upd, numOf, ek]; omega⟩
      · have fl : (O.length + 1) * 72 ≤ 140737488355328 := by omega
        simp only [go_sem, seval, eq_self, reduceCtorEq, e0, e1, ek, g0, z0, n2, q, hb, hx, hbb, fl, Cell.v, Int.toNat_natCast, List.getElem?_map, List.length_map]
        repeat' ((first | (refine AG_of ?_ ?_ <;> intro h) | (refine AB_of ?_ ?_ <;> intro h) | (refine A_draw_of [] [] (by kernel_rfl) ?_ <;> have h := mark)) <;> simp only [go_sem, seval, eq_self, reduceCtorEq, e0, e1, ek, g0, z0, n2, q, hb, hx, hbb, fl, Cell.v, Int.toNat_natCast, List.getElem?_map, List.length_map, h])
        exact ⟨⟨by simp [upd, e0, Cell.v], by simp [upd, e1], k + 1, by simp [upd], by omega, by rw [hsn]; exact .inr ⟨by simp, u + 1, by simp [upd], by simp [upd, Cell.v]⟩⟩, by simp [upd, numOf, ek]; omega⟩
  · have hkl : k = a.length := by omega
    have g0 : decide ((k : Int) < a.length) = false := by simp; omega
    rw [hkl, List.take_length] at hr
    obtain ⟨O, hO⟩ : ∃ O, ofK v a = O := ⟨_, rfl⟩
    rw [hO] at hr ⊢
    rcases hr with ⟨hl0, hx⟩ | ⟨hl0, u, hx, hbb⟩
    · rw [if_pos hl0]
      simp only [go_sem, seval, eq_self, reduceCtorEq, e0, e1, ek, g0, hx, List.length_map]
      repeat' ((first | (refine AG_of ?_ ?_ <;> intro h) | (refine AB_of ?_ ?_ <;> intro h) | (refine A_draw_of [] [] (by kernel_rfl) ?_ <;> have h := mark)) <;> simp only [go_sem, seval, eq_self, reduceCtorEq, e0, e1, ek, g0, hx, List.length_map, h])
      all_goals (first | refine fin_ret ?_ | refine fin_normal ?_)
      all_goals simp only [resOf, Tryz.results29, Tryz.ntmps29, go_sem, seval, eq_self, reduceCtorEq, hx]
    · rw [if_neg hl0]
      simp only [go_sem, seval, eq_self, reduceCtorEq, e0, e1, ek, g0, hx, List.length_map]
      repeat' ((first | (refine AG_of ?_ ?_ <;> intro h) | (refine AB_of ?_ ?_ <;> intro h) | (refine A_draw_of [] [] (by kernel_rfl) ?_ <;> have h := mark)) <;> simp only [go_sem, seval, eq_self, reduceCtorEq, e0, e1, ek, g0, hx, List.length_map, h])
      all_goals (first | refine fin_ret ?_ | refine fin_normal ?_)
      all_goals simp only [resOf, Tryz.results29, Tryz.ntmps29, go_sem, seval, eq_self, reduceCtorEq, hx, hbb]
set_option maxHeartbeats 4000000 in
theorem lastR_impl : Impl Tryz.prog 30 spLast := by
  refine impl_walk2 mixed cV1_ok eqT_ok Tryz.func30 rfl Tryz.ntmps30 (by kernel_rfl) ?_
  intro xs r h
  unfold spLast at h
  simp only at h
  (try split at h) <;> try (cases (show none = some r from h); done)
  rename_i x
  obtain ⟨l, hl, h3⟩ := Option.bind_eq_some_iff.1 h
  obtain ⟨a, ha, h4⟩ := Option.bind_eq_some_iff.1 h3
  clear h h3
  have e1 := mapM_eq (fun _ _ => cellOf_eq) ha
  subst e1
  split at h4
  case isFalse => cases h4
  rename_i hla
  cases h4
  refine ⟨_, (SeesL.cons (lOf_sees hl) .nil).args, by simp, ?_⟩
  rcases Nat.eq_zero_or_pos a.length with h0 | h0
  · have : a = [] := List.eq_nil_of_length_eq_zero h0
    subst this
    simp only [go_sem, seval, eq_self, reduceCtorEq, List.length_map, List.length_nil, List.map_nil]
    repeat' ((first | (refine AG_of ?_ ?_ <;> intro h) | (refine AB_of ?_ ?_ <;> intro h) | (refine A_draw_of [] [] (by kernel_rfl) ?_ <;> have h := mark)) <;> simp only [go_sem, seval, eq_self, reduceCtorEq, List.length_map, List.length_nil, List.map_nil, h])
    all_goals (first | refine fin_ret ?_ | refine fin_normal ?_)
    all_goals simp only [resOf, Tryz.results30, Tryz.ntmps30, go_sem, seval, eq_self, reduceCtorEq]
    all_goals rfl
  · obtain ⟨E, hE⟩ : ∃ E : Nat, a.length = E + 1 := ⟨a.length - 1, by omega⟩
    obtain ⟨c, q⟩ : ∃ c, a[E]? = some c := ⟨a[E]'(by omega), List.getElem?_eq_getElem (by omega)⟩
    have hlast : a.getLast? = some c := by rw [List.getLast?_eq_getElem?, show a.length - 1 = E by omega]; exact q
    have wE : IntKind.i64.wrap ((a.length : Int) - 1) = (E : Nat) := by rw [w_i64 (by omega) (by omega)]; omega
    have g0 : ((a.length : Int) == 0) = false := by rw [beq_eq_false_iff_ne]; omega
    have zE := Int.natCast_nonneg E
    have hC := spCtl_fn c.kind
    unfold lastK
    rw [hlast]
    simp only
    cases hc : ctlB c.kind
    · rw [hc] at hC
      rw [if_neg (by simp)]
      simp only [go_sem, seval, eq_self, reduceCtorEq, g0, wE, zE, q, cV1_at, spCtl_mv, hC, Cell.v, Int.toNat_natCast, List.getElem?_map, List.length_map]
      repeat' ((first | (refine AG_of ?_ ?_ <;> intro h) | (refine AB_of ?_ ?_ <;> intro h) | (refine A_draw_of [] [] (by kernel_rfl) ?_ <;> have h := mark)) <;> simp only [go_sem, seval, eq_self, reduceCtorEq, g0, wE, zE, q, cV1_at, spCtl_mv, hC, Cell.v, Int.toNat_natCast, List.getElem?_map, List.length_map, h])
      all_goals (first | refine fin_ret ?_ | refine fin_normal ?_)
      all_goals simp only [resOf, Tryz.results30, Tryz.ntmps30, go_sem, seval, eq_self, reduceCtorEq]
    · rw [hc] at hC
      rw [if_pos rfl]
      simp only [go_sem, seval, eq_self, reduceCtorEq, g0, wE, zE, q, cV1_at, spCtl_mv, hC, Cell.v, Int.toNat_natCast, List.getElem?_map, List.length_map]
      repeat' ((first | (refine AG_of ?_ ?_ <;> intro h) | (refine AB_of ?_ ?_ <;> intro h) | (refine A_draw_of [] [] (by kernel_rfl) ?_ <;> have h := mark)) <;> simp only [go_sem, seval, eq_self, reduceCtorEq, g0, wE, zE, q, cV1_at, spCtl_mv, hC, Cell.v, Int.toNat_natCast, List.getElem?_map, List.length_map, h])
      all_goals (first | refine fin_ret ?_ | refine fin_normal ?_)
      all_goals simp only [resOf, Tryz.results30, Tryz.ntmps30, go_sem, seval, eq_self, reduceCtorEq]

end Go.Proofs.YtkfmecmmbnehjaaGreat
/-
The reference's Balanced, RightSplit, most, Most by the plain reckoning. No condition.
-/
namespace Go.Proofs.YtkfmecmmbnehjaaGreat
set_option linter.unusedSimpArgs false
set_option linter.unusedVariables false

def spSomeL : Spec := ⟨spSomeR.mv, fun xs => (spSomeR.fn xs).map (asLst0 9)⟩
theorem spSomeL_mv : spSomeL.mv = [] := rfl
theorem spSomeL_v {a : List Cell} (h : a.length * 72 ≤ 140737488355328) (b : Bool) (k : Int) : spSomeL.fn [.lst b 9 (a.map Cell.v), .s (.int .i64 k)] = some (.lst true 9 ((ofK k a).map Cell.v)) := by
  have h1 : lOf 9 (.lst b 9 (a.map Cell.v)) = some (a.map Cell.v) := rfl
  simp only [spSomeL, spSomeR, h1, Option.bind_some, mapM_of cellOf_v]
  rw [if_pos h]
  simp only [Option.map_some]
  split
  · rename_i h2
    rw [h2]; rfl
  · simp [asLst0]
def cV2 : Orc := upd (upd (upd (upd (upd cV1 28 (some spKinds)) 29 (some spSomeL)) 30 (some spLast)) 18 (some spSpW)) 33 (some spSameS)
theorem cV2_ok : ∀ g sp, cV2 g = some sp → Impl Tryz.prog g sp := orc_upd (orc_upd (orc_upd (orc_upd (orc_upd cV1_ok only_impl) (impl_lst0 9 someR_impl)) lastR_impl) rspw_impl) rsameS_impl
theorem cV2_at : cV2 28 = some spKinds ∧ cV2 29 = some spSomeL ∧ cV2 30 = some spLast ∧ cV2 18 = some spSpW ∧ cV2 33 = some spSameS := ⟨rfl, rfl, rfl, rfl, rfl⟩
theorem sameIns_eq (c d : Cell) : (c.ins.op == d.ins.op && (c.ins.d == d.ins.d && (c.ins.a == d.ins.a && (c.ins.b == d.ins.b && c.ins.imm == d.ins.imm)))) = sameIns c d := by simp [sameIns]
def rbI1 (b : SB) (X Y U W : List Cell) (s : S) : Prop := s.env 1 = .ptr 1 1 0 ∧ s.st 1 = rcBox b ∧ s.env 3 = .lst true 9 (X.map Cell.v) ∧ s.env 4 = .lst true 9 (Y.map Cell.v) ∧ s.env 5 = .lst true 9 (U.map Cell.v) ∧ s.env 6 = .lst true 9 (W.map Cell.v) ∧
  ∃ k : Nat, s.env 7 = .s (.int .i64 k) ∧ k ≤ X.length ∧ allP sameReg X Y = allP sameReg (X.drop k) (Y.drop k)
def rbI2 (b : SB) (U W : List Cell) (s : S) : Prop := s.env 1 = .ptr 1 1 0 ∧ s.st 1 = rcBox b ∧ s.env 5 = .lst true 9 (U.map Cell.v) ∧ s.env 6 = .lst true 9 (W.map Cell.v) ∧
  ∃ k : Nat, s.env 8 = .s (.int .i64 k) ∧ k ≤ U.length ∧ allP sameIns U W = allP sameIns (U.drop k) (W.drop k)
set_option maxRecDepth 8000 in
set_option maxHeartbeats 16000000 in
theorem rbal_impl : Impl Tryz.prog 13 spBal := by
  refine impl_walk2 mixed cV2_ok eqT_ok Tryz.func13 rfl Tryz.ntmps13 (by kernel_rfl) ?_
  intro xs r h
  unfold spBal at h
  simp only at h
  (try split at h) <;> try (cases (show none = some r from h); done)
  rename_i x
  obtain ⟨b, hb, h4⟩ := Option.bind_eq_some_iff.1 h
  clear h
  split at h4
  case isFalse => cases h4
  rename_i hlit
  cases h4
  unfold sbLit at hlit
  simp only [Bool.and_eq_true, decide_eq_true_eq] at hlit
  obtain ⟨la, le⟩ := hlit
  refine ⟨_, (SeesL.cons (sbOf_sees hb) .nil).args, by simp [SB.v], ?_⟩
  obtain ⟨f1, t1, nx, tk, A, E⟩ := b
  simp only at la le
  have hK1 := spKinds_v (a := A) (m := [1, 2, 3, 4, 5]) (by omega) (by decide) false false
  have hK2 := spKinds_v (a := E) (m := [1, 6, 7, 8]) (by omega) (by decide) false false
  simp only [List.map_cons, List.map_nil, iv] at hK1 hK2
  have hLA := spLast_v (a := A) (by omega) false
  have hLE := spLast_v (a := E) (by omega) false
  have s5 := spSomeL_v la false 5
  have s6 := spSomeL_v le false 6
  have s3 := spSomeL_v la false 3
  have s7 := spSomeL_v le false 7
  have s4 := spSomeL_v la false 4
  have s8 := spSomeL_v le false 8
  have k5 := ofK_len 5 A
  have k3 := ofK_len 3 A
  cases c1 : kindsB A [1, 2, 3, 4, 5]
  · rw [show balB ⟨f1, t1, nx, tk, A, E⟩ = false by unfold balB; simp only [c1, Bool.false_and]]
    rw [c1] at hK1
    simp only [go_sem, seval, eq_self, reduceCtorEq, SB.v, cV2_at, spKinds_mv, hK1]
    repeat' ((first | (refine AG_of ?_ ?_ <;> intro h) | (refine AB_of ?_ ?_ <;> intro h) | (refine A_draw_of [] [] (by kernel_rfl) ?_ <;> have h := mark)) <;> simp only [go_sem, seval, eq_self, reduceCtorEq, SB.v, cV2_at, spKinds_mv, hK1, h])
    all_goals (first | refine fin_ret ?_ | refine fin_normal ?_)
    all_goals simp only [resOf, Tryz.results13, Tryz.ntmps13, go_sem, seval, eq_self, reduceCtorEq]
  rw [c1] at hK1
  cases c2 : kindsB E [1, 6, 7, 8]
  · rw [show balB ⟨f1, t1, nx, tk, A, E⟩ = false by unfold balB; simp only [c2, Bool.and_false, Bool.false_and]]
    rw [c2] at hK2
    simp only [go_sem, seval, eq_self, reduceCtorEq, SB.v, cV2_at, spKinds_mv, hK1, hK2]
    repeat' ((first | (refine AG_of ?_ ?_ <;> intro h) | (refine AB_of ?_ ?_ <;> intro h) | (refine A_draw_of [] [] (by kernel_rfl) ?_ <;> have h := mark)) <;> simp only [go_sem, seval, eq_self, reduceCtorEq, SB.v, cV2_at, spKinds_mv, hK1, hK2, h])
    all_goals (first | refine fin_ret ?_ | refine fin_normal ?_)
    all_goals simp only [resOf, Tryz.results13, Tryz.ntmps13, go_sem, seval, eq_self, reduceCtorEq]
  rw [c2] at hK2
  have hbal : balB ⟨f1, t1, nx, tk, A, E⟩ = (endsB A E && allP sameReg (ofK 5 A) (ofK 6 E) && allP sameIns (ofK 3 A) (ofK 7 E) && ((ofK 4 A).length == (ofK 8 E).length)) := by
    unfold balB; simp only [c1, c2, Bool.true_and]
  rw [hbal]
  clear hbal
  obtain ⟨X, hX⟩ : ∃ X, ofK 5 A = X := ⟨_, rfl⟩
  obtain ⟨Y, hY⟩ : ∃ X, ofK 6 E = X := ⟨_, rfl⟩
  obtain ⟨U, hU⟩ : ∃ X, ofK 3 A = X := ⟨_, rfl⟩
  obtain ⟨W, hW⟩ : ∃ X, ofK 7 E = X := ⟨_, rfl⟩
  obtain ⟨Z4, hZ4⟩ : ∃ X, ofK 4 A = X := ⟨_, rfl⟩
  obtain ⟨Z8, hZ8⟩ : ∃ X, ofK 8 E = X := ⟨_, rfl⟩
  rw [hX] at s5 k5 ⊢
  rw [hY] at s6 ⊢
  rw [hU] at s3 k3 ⊢
  rw [hW] at s7 ⊢
  rw [hZ4] at s4 ⊢
  rw [hZ8] at s8 ⊢
  by_cases hxy : X.length = Y.length
  case neg =>
    have g1 : ((X.length : Int) != (Y.length : Int)) = true := by simp; omega
    rw [allP_len (P := sameReg) hxy, Bool.and_false, Bool.false_and, Bool.false_and]
    simp only [go_sem, seval, eq_self, reduceCtorEq, SB.v, cV2_at, spKinds_mv, hK1, hK2, spSomeL_mv, s3, s4, s5, s6, s7, s8, g1, List.length_map]
    repeat' ((first | (refine AG_of ?_ ?_ <;> intro h) | (refine AB_of ?_ ?_ <;> intro h) | (refine A_draw_of [] [] (by kernel_rfl) ?_ <;> have h := mark)) <;> simp only [go_sem, seval, eq_self, reduceCtorEq, SB.v, cV2_at, spKinds_mv, hK1, hK2, spSomeL_mv, s3, s4, s5, s6, s7, s8, g1, List.length_map, h])
    all_goals (first | refine fin_ret ?_ | refine fin_normal ?_)
    all_goals simp only [resOf, Tryz.results13, Tryz.ntmps13, go_sem, seval, eq_self, reduceCtorEq]
  have g1 : ((X.length : Int) != (Y.length : Int)) = false := by simp; omega
  by_cases huw : U.length = W.length
  case neg =>
    have g2 : ((U.length : Int) != (W.length : Int)) = true := by simp; omega
    rw [allP_len (P := sameIns) huw, Bool.and_false, Bool.false_and]
    simp only [go_sem, seval, eq_self, reduceCtorEq, SB.v, cV2_at, spKinds_mv, hK1, hK2, spSomeL_mv, s3, s4, s5, s6, s7, s8, g1, g2, List.length_map]
    repeat' ((first | (refine AG_of ?_ ?_ <;> intro h) | (refine AB_of ?_ ?_ <;> intro h) | (refine A_draw_of [] [] (by kernel_rfl) ?_ <;> have h := mark)) <;> simp only [go_sem, seval, eq_self, reduceCtorEq, SB.v, cV2_at, spKinds_mv, hK1, hK2, spSomeL_mv, s3, s4, s5, s6, s7, s8, g1, g2, List.length_map, h])
    all_goals (first | refine fin_ret ?_ | refine fin_normal ?_)
    all_goals simp only [resOf, Tryz.results13, Tryz.ntmps13, go_sem, seval, eq_self, reduceCtorEq]
  have g2 : ((U.length : Int) != (W.length : Int)) = false := by simp; omega
  by_cases hz : Z4.length = Z8.length
  case neg =>
    have g3 : ((Z4.length : Int) != (Z8.length : Int)) = true := by simp; omega
    rw [show (Z4.length == Z8.length) = false by rw [beq_eq_false_iff_ne]; exact hz, Bool.and_false]
    simp only [go_sem, seval, eq_self, reduceCtorEq, SB.v, cV2_at, spKinds_mv, hK1, hK2, spSomeL_mv, s3, s4, s5, s6, s7, s8, g1, g2, g3, List.length_map]
    repeat' ((first | (refine AG_of ?_ ?_ <;> intro h) | (refine AB_of ?_ ?_ <;> intro h) | (refine A_draw_of [] [] (by kernel_rfl) ?_ <;> have h := mark)) <;> simp only [go_sem, seval, eq_self, reduceCtorEq, SB.v, cV2_at, spKinds_mv, hK1, hK2, spSomeL_mv, s3, s4, s5, s6, s7, s8, g1, g2, g3, List.length_map, h])
    all_goals (first | refine fin_ret ?_ | refine fin_normal ?_)
    all_goals simp only [resOf, Tryz.results13, Tryz.ntmps13, go_sem, seval, eq_self, reduceCtorEq]
  have g3 : ((Z4.length : Int) != (Z8.length : Int)) = false := by simp; omega
  rw [show (Z4.length == Z8.length) = true by rw [beq_iff_eq]; exact hz, Bool.and_true]
  simp only [go_sem, seval, eq_self, reduceCtorEq, SB.v, cV2_at, spKinds_mv, hK1, hK2, spSomeL_mv, s3, s4, s5, s6, s7, s8, g1, g2, g3, List.length_map]
  repeat' ((first | (refine AG_of ?_ ?_ <;> intro h) | (refine AB_of ?_ ?_ <;> intro h) | (refine A_draw_of [] [] (by kernel_rfl) ?_ <;> have h := mark)) <;> simp only [go_sem, seval, eq_self, reduceCtorEq, SB.v, cV2_at, spKinds_mv, hK1, hK2, spSomeL_mv, s3, s4, s5, s6, s7, s8, g1, g2, g3, List.length_map, h])
  refine A_loop (rbI1 ⟨f1, t1, nx, tk, A, E⟩ X Y U W) (fun s => X.length - (numOf (s.env 7)).toNat) ?_ ?_
  · exact ⟨by simp [upd], by simp [upd, rcBox, V.unfr, V.unfrL, V.cells], by simp [upd], by simp [upd], by simp [upd], by simp [upd], 0, by simp [upd], by omega, rfl⟩
  intro s hs
  obtain ⟨e1, b1, e3, e4, e5, e6, k, ek, hk, hall⟩ := hs
  rcases Nat.lt_or_ge k X.length with hlt | hge
  · obtain ⟨u, q⟩ : ∃ i, X[k]? = some i := ⟨X[k], List.getElem?_eq_getElem hlt⟩
    obtain ⟨v, q'⟩ : ∃ i, Y[k]? = some i := ⟨Y[k]'(by omega), List.getElem?_eq_getElem (by omega)⟩
    have hda : X.drop k = u :: X.drop (k + 1) := by
      rw [List.drop_eq_getElem_cons hlt]
      congr 1
      exact (List.getElem?_eq_some_iff.1 q).2
    have hdb : Y.drop k = v :: Y.drop (k + 1) := by
      rw [List.drop_eq_getElem_cons (by omega)]
      congr 1
      exact (List.getElem?_eq_some_iff.1 q').2
    rw [hda, hdb, allP] at hall
    have f0 : decide ((k : Int) < X.length) = true := by simp; omega
    have z0 := Int.natCast_nonneg k
    have n2 : IntKind.i64.wrap ((k : Int) + 1) = (k + 1 : Nat) := by rw [w_i64 (by omega) (by omega)]; omega
    cases hq : sameReg u v
    · have hq2 : (u.reg != v.reg) = true := by unfold sameReg at hq; simpa using hq
      rw [hq, Bool.false_and] at hall
      rw [hall, Bool.and_false, Bool.false_and]
      simp only [go_sem, seval, eq_self, reduceCtorEq, e1, b1, e3, e4, e5, e6, ek, q, q', f0, z0, n2, hq2, rcBox, Cell.v, Int.toNat_natCast, List.getElem?_map, List.length_map]
      repeat' ((first | (refine AG_of ?_ ?_ <;> intro h) | (refine AB_of ?_ ?_ <;> intro h) | (refine A_draw_of [] [] (by kernel_rfl) ?_ <;> have h := mark)) <;> simp only [go_sem, seval, eq_self, reduceCtorEq, e1, b1, e3, e4, e5, e6, ek, q, q', f0, z0, n2, hq2, rcBox, Cell.v, Int.toNat_natCast, List.getElem?_map, List.length_map, h])
      all_goals (first | refine fin_ret ?_ | refine fin_normal ?_)
      all_goals simp only [resOf, Tryz.results13, Tryz.ntmps13, go_sem, seval, eq_self, reduceCtorEq]
    · have hq2 : (u.reg != v.reg) = false := by unfold sameReg at hq; simpa using hq
      rw [hq, Bool.true_and] at hall
      simp only [go_sem, seval, eq_self, reduceCtorEq, e1, b1, e3, e4, e5, e6, ek, q, q', f0, z0, n2, hq2, rcBox, Cell.v, Int.toNat_natCast, List.getElem?_map, List.length_map]
      repeat' ((first | (refine AG_of ?_ ?_ <;> intro h) | (refine AB_of ?_ ?_ <;> intro h) | (refine A_draw_of [] [] (by kernel_rfl) ?_ <;> have h := mark)) <;> simp only [go_sem, seval, eq_self, reduceCtorEq, e1, b1, e3, e4, e5, e6, ek, q, q', f0, z0, n2, hq2, rcBox, Cell.v, Int.toNat_natCast, List.getElem?_map, List.length_map, h])
      exact ⟨⟨by simp [upd, e1], by simp [upd, b1, rcBox, Cell.v], by simp [upd, e3, Cell.v], by simp [upd, e4, Cell.v], by simp [upd, e5, Cell.v], by simp [upd, e6, Cell.v], k + 1, by simp [upd], by omega, hall⟩, by simp [upd, numOf, ek]; omega⟩
  have hkl : k = X.length := by omega
  have f0 : decide ((k : Int) < X.length) = false := by simp; omega
  rw [hkl, List.drop_length, hxy, List.drop_length] at hall
  rw [hall, show allP sameReg [] [] = true from rfl, Bool.and_true]
  simp only [go_sem, seval, eq_self, reduceCtorEq, e1, b1, e3, e4, e5, e6, ek, f0, rcBox, List.length_map]
  repeat' ((first | (refine AG_of ?_ ?_ <;> intro h) | (refine AB_of ?_ ?_ <;> intro h) | (refine A_draw_of [] [] (by kernel_rfl) ?_ <;> have h := mark)) <;> simp only [go_sem, seval, eq_self, reduceCtorEq, e1, b1, e3, e4, e5, e6, ek, f0, rcBox, List.length_map, h])
  refine A_loop (rbI2 ⟨f1, t1, nx, tk, A, E⟩ U W) (fun s => U.length - (numOf (s.env 8)).toNat) ?_ ?_
  · exact ⟨by simp [upd, e1], by simp [upd, b1, rcBox], by simp [upd, e5], by simp [upd, e6], 0, by simp [upd], by omega, rfl⟩
  clear e1 b1 e3 e4 e5 e6 ek hall f0 hkl hge hk
  clear k s
  intro s hs
  obtain ⟨e1, b1, e5, e6, k, ek, hk, hall⟩ := hs
  rcases Nat.lt_or_ge k U.length with hlt | hge
  · obtain ⟨u, q⟩ : ∃ i, U[k]? = some i := ⟨U[k], List.getElem?_eq_getElem hlt⟩
    obtain ⟨v, q'⟩ : ∃ i, W[k]? = some i := ⟨W[k]'(by omega), List.getElem?_eq_getElem (by omega)⟩
    have hda : U.drop k = u :: U.drop (k + 1) := by
      rw [List.drop_eq_getElem_cons hlt]
      congr 1
      exact (List.getElem?_eq_some_iff.1 q).2
    have hdb : W.drop k = v :: W.drop (k + 1) := by
      rw [List.drop_eq_getElem_cons (by omega)]
      congr 1
      exact (List.getElem?_eq_some_iff.1 q').2
    rw [hda, hdb, allP] at hall
    have f0 : decide ((k : Int) < U.length) = true := by simp; omega
    have z0 := Int.natCast_nonneg k
    have n2 : IntKind.i64.wrap ((k : Int) + 1) = (k + 1 : Nat) := by rw [w_i64 (by omega) (by omega)]; omega
    have hq2 := sameIns_eq u v
    cases hq : sameIns u v
    · rw [hq] at hq2
      rw [hq, Bool.false_and] at hall
      rw [hall, Bool.and_false]
      simp only [go_sem, seval, eq_self, reduceCtorEq, e1, b1, e5, e6, ek, q, q', f0, z0, n2, hq2, rcBox, Cell.v, Int.toNat_natCast, List.getElem?_map, List.length_map]
      repeat' ((first | (refine AG_of ?_ ?_ <;> intro h) | (refine AB_of ?_ ?_ <;> intro h) | (refine A_draw_of [] [] (by kernel_rfl) ?_ <;> have h := mark)) <;> simp only [go_sem, seval, eq_self, reduceCtorEq, e1, b1, e5, e6, ek, q, q', f0, z0, n2, hq2, rcBox, Cell.v, Int.toNat_natCast, List.getElem?_map, List.length_map, h])
      all_goals (first | refine fin_ret ?_ | refine fin_normal ?_)
      all_goals simp only [resOf, Tryz.results13, Tryz.ntmps13, go_sem, seval, eq_self, reduceCtorEq]
    · rw [hq] at hq2
      rw [hq, Bool.true_and] at hall
      simp only [go_sem, seval, eq_self, reduceCtorEq, e1, b1, e5, e6, ek, q, q', f0, z0, n2, hq2, rcBox, Cell.v, Int.toNat_natCast, List.getElem?_map, List.length_map]
      repeat' ((first | (refine AG_of ?_ ?_ <;> intro h) | (refine AB_of ?_ ?_ <;> intro h) | (refine A_draw_of [] [] (by kernel_rfl) ?_ <;> have h := mark)) <;> simp only [go_sem, seval, eq_self, reduceCtorEq, e1, b1, e5, e6, ek, q, q', f0, z0, n2, hq2, rcBox, Cell.v, Int.toNat_natCast, List.getElem?_map, List.length_map, h])
      exact ⟨⟨by simp [upd, e1], by simp [upd, b1, rcBox, Cell.v], by simp [upd, e5, Cell.v], by simp [upd, e6, Cell.v], k + 1, by simp [upd], by omega, hall⟩, by simp [upd, numOf, ek]; omega⟩
  have hkl : k = U.length := by omega
  have f0 : decide ((k : Int) < U.length) = false := by simp; omega
  rw [hkl, List.drop_length, huw, List.drop_length] at hall
  rw [hall, show allP sameIns [] [] = true from rfl, Bool.and_true]
  unfold endsB
  obtain ⟨x, hx⟩ : ∃ x, lastK A = x := ⟨_, rfl⟩
  obtain ⟨y, hy⟩ : ∃ y, lastK E = y := ⟨_, rfl⟩
  rw [hx] at hLA ⊢
  rw [hy] at hLE ⊢
  by_cases h9 : x = 9
  · rw [if_pos h9]
    have g4 : (x == 9) = true := by simp [h9]
    simp only [go_sem, seval, eq_self, reduceCtorEq, e1, b1, e5, e6, ek, f0, cV2_at, spLast_mv, hLA, hLE, g4, rcBox, List.length_map]
    repeat' ((first | (refine AG_of ?_ ?_ <;> intro h) | (refine AB_of ?_ ?_ <;> intro h) | (refine A_draw_of [] [] (by kernel_rfl) ?_ <;> have h := mark)) <;> simp only [go_sem, seval, eq_self, reduceCtorEq, e1, b1, e5, e6, ek, f0, cV2_at, spLast_mv, hLA, hLE, g4, rcBox, List.length_map, h])
    all_goals (first | refine fin_ret ?_ | refine fin_normal ?_)
    all_goals simp only [resOf, Tryz.results13, Tryz.ntmps13, go_sem, seval, eq_self, reduceCtorEq]
  · rw [if_neg h9]
    have g4 : (x == 9) = false := by simp [h9]
    by_cases h10 : x = 10
    · rw [if_pos h10]
      have g5 : (x == 10) = true := by simp [h10]
      simp only [go_sem, seval, eq_self, reduceCtorEq, e1, b1, e5, e6, ek, f0, cV2_at, spLast_mv, hLA, hLE, g4, g5, rcBox, List.length_map]
      repeat' ((first | (refine AG_of ?_ ?_ <;> intro h) | (refine AB_of ?_ ?_ <;> intro h) | (refine A_draw_of [] [] (by kernel_rfl) ?_ <;> have h := mark)) <;> simp only [go_sem, seval, eq_self, reduceCtorEq, e1, b1, e5, e6, ek, f0, cV2_at, spLast_mv, hLA, hLE, g4, g5, rcBox, List.length_map, h])
      all_goals (first | refine fin_ret ?_ | refine fin_normal ?_)
      all_goals simp only [resOf, Tryz.results13, Tryz.ntmps13, go_sem, seval, eq_self, reduceCtorEq]
    · rw [if_neg h10]
      have g5 : (x == 10) = false := by simp [h10]
      simp only [go_sem, seval, eq_self, reduceCtorEq, e1, b1, e5, e6, ek, f0, cV2_at, spLast_mv, hLA, hLE, g4, g5, rcBox, List.length_map]
      repeat' ((first | (refine AG_of ?_ ?_ <;> intro h) | (refine AB_of ?_ ?_ <;> intro h) | (refine A_draw_of [] [] (by kernel_rfl) ?_ <;> have h := mark)) <;> simp only [go_sem, seval, eq_self, reduceCtorEq, e1, b1, e5, e6, ek, f0, cV2_at, spLast_mv, hLA, hLE, g4, g5, rcBox, List.length_map, h])
      all_goals (first | refine fin_ret ?_ | refine fin_normal ?_)
      all_goals simp only [resOf, Tryz.results13, Tryz.ntmps13, go_sem, seval, eq_self, reduceCtorEq]
set_option maxRecDepth 8000 in
set_option maxHeartbeats 4000000 in
theorem rrightS_impl : Impl Tryz.prog 15 spRightS := by
  refine impl_walk2 mixed cV2_ok eqT_ok Tryz.func15 rfl Tryz.ntmps15 (by kernel_rfl) ?_
  intro xs r h
  unfold spRightS at h
  simp only at h
  (try split at h) <;> try (cases (show none = some r from h); done)
  rename_i x y
  obtain ⟨p, hp, h3⟩ := Option.bind_eq_some_iff.1 h
  obtain ⟨s, hy, h4⟩ := Option.bind_eq_some_iff.1 h3
  clear h h3
  split at h4
  case isFalse => cases h4
  rename_i hfit
  cases h4
  obtain ⟨sa, ol⟩ := splOf_sees hy
  refine ⟨_, (SeesL.cons (prgOf_sees hp) (.cons sa .nil)).args, by simp [Spl.v], ?_⟩
  have hW := spSpW_v ol p
  have too := take_iv ol
  simp only [Prg.v] at hW
  unfold rightS
  cases c1 : closedB p s.o
  · rw [swV_no c1] at hW
    simp only [noS, z16, List.replicate] at hW
    simp only [go_sem, seval, eq_self, reduceCtorEq, Prg.v, Spl.v, cV2_at, spSpW_mv, hW, too, ol, z16, List.replicate, List.length_map]
    repeat' ((first | (refine AG_of ?_ ?_ <;> intro h) | (refine AB_of ?_ ?_ <;> intro h) | (refine A_draw_of [] [] (by kernel_rfl) ?_ <;> have h := mark)) <;> simp only [go_sem, seval, eq_self, reduceCtorEq, Prg.v, Spl.v, cV2_at, spSpW_mv, hW, too, ol, z16, List.replicate, List.length_map, h])
    all_goals (first | refine fin_ret ?_ | refine fin_normal ?_)
    all_goals simp only [resOf, Tryz.results15, Tryz.ntmps15, go_sem, seval, eq_self, reduceCtorEq]
    all_goals rfl
  · rw [swV_ok c1] at hW
    have hr := closed_right c1
    have hS := spSameS_v (splOf_v false (splitL p s.o) ol) (splOf_v false s.bl ol) (splitL_fit hr s.o) hfit
    have hd : decide ((⟨splitL p s.o, s.o⟩ : Spl) = ⟨s.bl, s.o⟩) = decide (s.bl = splitL p s.o) := by
      rw [decide_eq_decide, spl_ext]
      simp only [true_and, and_true]
      exact eq_comm
    rw [hd] at hS
    simp only [go_sem, seval, eq_self, reduceCtorEq, Prg.v, Spl.v, cV2_at, spSpW_mv, hW, spSameS_mv, hS, too, ol, z16, List.replicate, List.length_map]
    repeat' ((first | (refine AG_of ?_ ?_ <;> intro h) | (refine AB_of ?_ ?_ <;> intro h) | (refine A_draw_of [] [] (by kernel_rfl) ?_ <;> have h := mark)) <;> simp only [go_sem, seval, eq_self, reduceCtorEq, Prg.v, Spl.v, cV2_at, spSpW_mv, hW, spSameS_mv, hS, too, ol, z16, List.replicate, List.length_map, h])
    all_goals (first | refine fin_ret ?_ | refine fin_normal ?_)
    all_goals simp only [resOf, Tryz.results15, Tryz.ntmps15, go_sem, seval, eq_self, reduceCtorEq]
    all_goals rfl

/-- the most of some numbers -/
def topF (g : Cell → Int) (m : List Cell) (t : Int) : Int := m.foldl (fun t c => if g c > t then g c else t) t
theorem topF_lub (g : Cell → Int) : ∀ (m : List Cell) (t : Int), t ≤ topF g m t ∧ (∀ c ∈ m, g c ≤ topF g m t) ∧ (topF g m t = t ∨ ∃ c ∈ m, topF g m t = g c)
  | [], t => by
    refine ⟨Int.le_refl _, ?_, Or.inl rfl⟩
    intro c h
    cases h
  | c :: m, t => by
    have e : topF g (c :: m) t = topF g m (if g c > t then g c else t) := rfl
    rw [e]
    by_cases hgt : g c > t
    · rw [if_pos hgt]
      obtain ⟨h1, h2, h3⟩ := topF_lub g m (g c)
      refine ⟨by omega, fun d hd => ?_, ?_⟩
      · rcases List.mem_cons.1 hd with rfl | hd
        · exact h1
        · exact h2 d hd
      · rcases h3 with h3 | ⟨d, hd, h3⟩
        · exact Or.inr ⟨c, by simp, h3⟩
        · exact Or.inr ⟨d, by simp [hd], h3⟩
    · rw [if_neg hgt]
      obtain ⟨h1, h2, h3⟩ := topF_lub g m t
      refine ⟨h1, fun d hd => ?_, ?_⟩
      · rcases List.mem_cons.1 hd with rfl | hd
        · omega
        · exact h2 d hd
      · rcases h3 with h3 | ⟨d, hd, h3⟩
        · exact Or.inl h3
        · exact Or.inr ⟨d, by simp [hd], h3⟩
theorem topF_snoc (g : Cell → Int) (m : List Cell) (c : Cell) (t : Int) : topF g (m ++ [c]) t = if g c > topF g m t then g c else topF g m t := by
  unfold topF
  rw [List.foldl_append]; rfl
def topL (l : List Cell) : Int := topF (fun c => (cntO l c.off : Int)) l 0
theorem most_lub (n : Int) : ∀ l : List Cell, n ≤ mostL l n ∧ (∀ c ∈ l, (cntO l c.off : Int) ≤ mostL l n) ∧ (mostL l n = n ∨ ∃ c ∈ l, mostL l n = (cntO l c.off : Int)) := by
  intro l
  rw [← List.reverse_reverse l]
  generalize l.reverse = r
  induction r with
  | nil => exact ⟨Int.le_refl _, fun c h => by simp at h, .inl rfl⟩
  | cons c r ih =>
    rw [List.reverse_cons]
    obtain ⟨R, hR⟩ : ∃ R, r.reverse = R := ⟨_, rfl⟩
    rw [hR] at ih ⊢
    obtain ⟨h1, h2, h3⟩ := ih
    have e : mostL (R ++ [c]) n = if (cntO R c.off : Int) + 1 > mostL R n then (cntO R c.off : Int) + 1 else mostL R n := by
      unfold mostL
      rw [foldM_snoc]
      show (if (foldM R n).1 c.off + 1 > (foldM R n).2 then (foldM R n).1 c.off + 1 else (foldM R n).2) = _
      rw [foldM_cnt]
    have hc : cntO (R ++ [c]) c.off = cntO R c.off + 1 := by rw [cntO_app, cntO_one, if_pos rfl]
    rw [e]
    refine ⟨by split <;> omega, fun d hd => ?_, ?_⟩
    · by_cases hdc : d.off = c.off
      · rw [hdc, hc]
        split <;> omega
      · rw [cntO_app, cntO_one, if_neg (fun h => hdc h.symm)]
        have hdR : d ∈ R := by
          rcases List.mem_append.1 hd with h | h
          · exact h
          · simp at h; rw [h] at hdc; exact absurd rfl hdc
        have := h2 d hdR
        split <;> omega
    · split
      · exact .inr ⟨c, by simp, by rw [hc]; omega⟩
      · rename_i hle
        rcases h3 with h3 | ⟨d, hd, h3⟩
        · exact .inl h3
        · refine .inr ⟨d, by simp [hd], ?_⟩
          have hdc : d.off ≠ c.off := fun h => by
            rw [h] at h3
            omega
          rw [cntO_app, cntO_one, if_neg (fun h => hdc h.symm)]
          omega
theorem mostL_top {n : Int} (hn : 0 ≤ n) (l : List Cell) : mostL l n = if topL l > n then topL l else n := by
  obtain ⟨a1, a2, a3⟩ := most_lub n l
  obtain ⟨b1, b2, b3⟩ := topF_lub (fun c => (cntO l c.off : Int)) l 0
  have e : topF (fun c => (cntO l c.off : Int)) l 0 = topL l := rfl
  rw [e] at b1 b2 b3
  have h1 : topL l ≤ mostL l n := by
    rcases b3 with h | ⟨c, hc, h⟩
    · omega
    · rw [h]; exact a2 c hc
  have h2 : mostL l n = n ∨ mostL l n ≤ topL l := by
    rcases a3 with h | ⟨c, hc, h⟩
    · exact .inl h
    · right; rw [h]; exact b2 c hc
  split
  · omega
  · omega
theorem mostL_nn {n : Int} (hn : 0 ≤ n) (l : List Cell) : 0 ≤ mostL l n := by have := (most_lub n l).1; omega
def spTop : Spec := ⟨[], fun xs => match xs with
  | [x] => (lOf 9 x).bind fun l => (l.mapM cellOf).bind fun a => if a.length ≤ 9223372036854775807 then some (.s (.int .i64 (topL a))) else none
  | _ => none⟩
theorem spTop_mv : spTop.mv = [] := rfl
theorem spTop_v {a : List Cell} (h : a.length ≤ 9223372036854775807) (k : Bool) : spTop.fn [.lst k 9 (a.map Cell.v)] = some (.s (.int .i64 (topL a))) := by
  have h1 : lOf 9 (.lst k 9 (a.map Cell.v)) = some (a.map Cell.v) := rfl
  simp only [spTop, h1, Option.bind_some, mapM_of cellOf_v]
  rw [if_pos h]
def tpI (a : List Cell) (s : S) : Prop := s.env 0 = .lst false 9 (a.map Cell.v) ∧ ∃ k : Nat, s.env 4 = .s (.int .i64 k) ∧ k ≤ a.length ∧ s.env 3 = .s (.int .i64 (topF (fun c => (cntO a c.off : Int)) (a.take k) 0))
def tpJ (a : List Cell) (k : Nat) (d : Cell) (t : Int) (s : S) : Prop := s.env 0 = .lst false 9 (a.map Cell.v) ∧ s.env 4 = .s (.int .i64 k) ∧ s.env 3 = .s (.int .i64 t) ∧
  ∃ j : Nat, s.env 6 = .s (.int .i64 j) ∧ j ≤ a.length ∧ s.env 5 = .s (.int .i64 (cntO (a.take j) d.off : Int))
set_option maxHeartbeats 4000000 in
theorem top_impl : Impl Tryz.prog 34 spTop := by
  refine impl_walk2 mixed orc0_ok eqT_ok Tryz.func34 rfl Tryz.ntmps34 (by kernel_rfl) ?_
  intro xs r h
  unfold spTop at h
  simp only at h
  (try split at h) <;> try (cases (show none = some r from h); done)
  rename_i x
  obtain ⟨l, hl, h3⟩ := Option.bind_eq_some_iff.1 h
  obtain ⟨a, ha, h4⟩ := Option.bind_eq_some_iff.1 h3
  clear h h3
  have e1 := mapM_eq (fun _ _ => cellOf_eq) ha
  subst e1
  split at h4
  case isFalse => cases h4
  rename_i hla
  cases h4
  refine ⟨_, (SeesL.cons (lOf_sees hl) .nil).args, by simp, ?_⟩
  simp only [go_sem, seval, eq_self, reduceCtorEq, List.length_map]
  repeat' ((first | (refine AG_of ?_ ?_ <;> intro h) | (refine AB_of ?_ ?_ <;> intro h) | (refine A_draw_of [] [] (by kernel_rfl) ?_ <;> have h := mark)) <;> simp only [go_sem, seval, eq_self, reduceCtorEq, List.length_map, h])
  refine A_loop (tpI a) (fun s => a.length - (numOf (s.env 4)).toNat) ?_ ?_
  · exact ⟨by simp [upd, init, V.unfr], 0, by simp [upd], by omega, by simp [upd, topF]⟩
  intro s hs
  obtain ⟨e0, k, e4, hk, e3⟩ := hs
  rcases Nat.lt_or_ge k a.length with hlt | hge
  · obtain ⟨d, q⟩ : ∃ i, a[k]? = some i := ⟨a[k], List.getElem?_eq_getElem hlt⟩
    have g0 : decide ((k : Int) < a.length) = true := by simp; omega
    have z0 := Int.natCast_nonneg k
    have n2 : IntKind.i64.wrap ((k : Int) + 1) = (k + 1 : Nat) := by rw [w_i64 (by omega) (by omega)]; omega
    have htk : a.take (k + 1) = a.take k ++ [d] := by rw [List.take_add_one, q]; rfl
    have hsn := topF_snoc (fun c => (cntO a c.off : Int)) (a.take k) d 0
    rw [← htk] at hsn
    obtain ⟨t, ht⟩ : ∃ t, topF (fun c => (cntO a c.off : Int)) (a.take k) 0 = t := ⟨_, rfl⟩
    rw [ht] at e3 hsn
    simp only [go_sem, seval, eq_self, reduceCtorEq, e0, e4, e3, g0, z0, q, Int.toNat_natCast, List.getElem?_map, List.length_map]
    repeat' ((first | (refine AG_of ?_ ?_ <;> intro h) | (refine AB_of ?_ ?_ <;> intro h) | (refine A_draw_of [] [] (by kernel_rfl) ?_ <;> have h := mark)) <;> simp only [go_sem, seval, eq_self, reduceCtorEq, e0, e4, e3, g0, z0, q, Int.toNat_natCast, List.getElem?_map, List.length_map, h])
    refine A_loop (tpJ a k d t) (fun s => a.length - (numOf (s.env 6)).toNat) ?_ ?_
    · exact ⟨by simp [upd, e0], by simp [upd, e4], by simp [upd, e3], 0, by simp [upd], by omega, by simp [upd, cntO]⟩
    have e4O := e4
    clear e0 e4 e3
    intro s2 hs
    obtain ⟨e0, e4, e3, j, e6, hj, e5⟩ := hs
    rcases Nat.lt_or_ge j a.length with hjl | hjl
    · obtain ⟨c, qc⟩ : ∃ i, a[j]? = some i := ⟨a[j], List.getElem?_eq_getElem hjl⟩
      have g1 : decide ((j : Int) < a.length) = true := by simp; omega
      have zj := Int.natCast_nonneg j
      have n3 : IntKind.i64.wrap ((j : Int) + 1) = (j + 1 : Nat) := by rw [w_i64 (by omega) (by omega)]; omega
      have htj : a.take (j + 1) = a.take j ++ [c] := by rw [List.take_add_one, qc]; rfl
      have hcs : cntO (a.take (j + 1)) d.off = cntO (a.take j) d.off + if c.off = d.off then 1 else 0 := by rw [htj, cntO_app, cntO_one]
      have hcl := cntO_le (a.take j) d.off
      have hjl2 : (a.take j).length ≤ j := by rw [List.length_take]; omega
      obtain ⟨cc, hcc⟩ : ∃ cc, cntO (a.take j) d.off = cc := ⟨_, rfl⟩
      rw [hcc] at hcs hcl e5
      have n4 : IntKind.i64.wrap ((cc : Int) + 1) = ((cc + 1 : Nat) : Int) := by rw [w_i64 (by omega) (by omega)]; omega
      cases hb : (c.off == d.off)
      · rw [if_neg (by simpa using hb), Nat.add_zero] at hcs
        simp only [go_sem, seval, eq_self, reduceCtorEq, e0, e4, e3, e6, e5, g1, z0, zj, q, qc, hb, n3, Cell.v, Int.toNat_natCast, List.getElem?_map, List.length_map]
        repeat' ((first | (refine AG_of ?_ ?_ <;> intro h) | (refine AB_of ?_ ?_ <;> intro h) | (refine A_draw_of [] [] (by kernel_rfl) ?_ <;> have h := mark)) <;> simp only [go_sem, seval, eq_self, reduceCtorEq, e0, e4, e3, e6, e5, g1, z0, zj, q, qc, hb, n3, Cell.v, Int.toNat_natCast, List.getElem?_map, List.length_map, h])
        exact ⟨⟨by simp [upd, e0, Cell.v], by simp [upd, e4], by simp [upd, e3], j + 1, by simp [upd], by omega, by rw [hcs]; simp [upd, e5]⟩, by simp [upd, numOf, e6]; omega⟩
      · rw [if_pos (by simpa using hb)] at hcs
        simp only [go_sem, seval, eq_self, reduceCtorEq, e0, e4, e3, e6, e5, g1, z0, zj, q, qc, hb, n3, n4, Cell.v, Int.toNat_natCast, List.getElem?_map, List.length_map]
        repeat' ((first | (refine AG_of ?_ ?_ <;> intro h) | (refine AB_of ?_ ?_ <;> intro h) | (refine A_draw_of [] [] (by kernel_rfl) ?_ <;> have h := mark)) <;> simp only [go_sem, seval, eq_self, reduceCtorEq, e0, e4, e3, e6, e5, g1, z0, zj, q, qc, hb, n3, n4, Cell.v, Int.toNat_natCast, List.getElem?_map, List.length_map, h])
        exact ⟨⟨by simp [upd, e0, Cell.v], by simp [upd, e4], by simp [upd, e3], j + 1, by simp [upd], by omega, by rw [hcs]; simp [upd]⟩, by simp [upd, numOf, e6]; omega⟩
    · have hjk : j = a.length := by omega
      have g1 : decide ((j : Int) < a.length) = false := by simp; omega
      rw [hjk, List.take_length] at e5
      obtain ⟨cc, hcc⟩ : ∃ cc, cntO a d.off = cc := ⟨_, rfl⟩
      rw [hcc] at e5 hsn
      by_cases hgt : (cc : Int) > t
      · have gg : decide (t < (cc : Int)) = true := by simp; omega
        rw [if_pos hgt] at hsn
        simp only [go_sem, seval, eq_self, reduceCtorEq, e0, e4, e3, e6, e5, g1, gg, n2, List.length_map]
        repeat' ((first | (refine AG_of ?_ ?_ <;> intro h) | (refine AB_of ?_ ?_ <;> intro h) | (refine A_draw_of [] [] (by kernel_rfl) ?_ <;> have h := mark)) <;> simp only [go_sem, seval, eq_self, reduceCtorEq, e0, e4, e3, e6, e5, g1, gg, n2, List.length_map, h])
        exact ⟨⟨by simp [upd, e0], k + 1, by simp [upd], by omega, by rw [hsn]; simp [upd, e5]⟩, by simp [upd, numOf, e4O]; omega⟩
      · have gg : decide (t < (cc : Int)) = false := by simp; omega
        rw [if_neg hgt] at hsn
        simp only [go_sem, seval, eq_self, reduceCtorEq, e0, e4, e3, e6, e5, g1, gg, n2, List.length_map]
        repeat' ((first | (refine AG_of ?_ ?_ <;> intro h) | (refine AB_of ?_ ?_ <;> intro h) | (refine A_draw_of [] [] (by kernel_rfl) ?_ <;> have h := mark)) <;> simp only [go_sem, seval, eq_self, reduceCtorEq, e0, e4, e3, e6, e5, g1, gg, n2, List.length_map, h])
        exact ⟨⟨by simp [upd, e0], k + 1, by simp [upd], by omega, by rw [hsn]; simp [upd, e3]⟩, by simp [upd, numOf, e4O]; omega⟩
  · have hkl : k = a.length := by omega
    have g0 : decide ((k : Int) < a.length) = false := by simp; omega
    rw [hkl, List.take_length] at e3
    have e3' : s.env 3 = .s (.int .i64 (topL a)) := e3
    simp only [go_sem, seval, eq_self, reduceCtorEq, e0, e4, e3', g0, List.length_map]
    repeat' ((first | (refine AG_of ?_ ?_ <;> intro h) | (refine AB_of ?_ ?_ <;> intro h) | (refine A_draw_of [] [] (by kernel_rfl) ?_ <;> have h := mark)) <;> simp only [go_sem, seval, eq_self, reduceCtorEq, e0, e4, e3', g0, List.length_map, h])
    all_goals (first | refine fin_ret ?_ | refine fin_normal ?_)
    all_goals simp only [resOf, Tryz.results34, Tryz.ntmps34, go_sem, seval, eq_self, reduceCtorEq, e3']
def spMost2 : Spec := ⟨[], fun xs => match xs with
  | [x] => (splOf x).bind fun s => if sbsFit s.bl = true then some (.s (.int .i64 (mostS s))) else none
  | _ => none⟩
theorem spMost2_mv : spMost2.mv = [] := rfl
theorem spMost2_v {y : V} {s : Spl} (hy : splOf y = some s) (h : sbsFit s.bl = true) : spMost2.fn [y] = some (.s (.int .i64 (mostS s))) := by
  simp only [spMost2, hy, Option.bind_some]
  rw [if_pos h]
def cV3 : Orc := upd orc0 34 (some spTop)
theorem cV3_ok : ∀ g sp, cV3 g = some sp → Impl Tryz.prog g sp := orc_upd orc0_ok top_impl
theorem cV3_at : cV3 34 = some spTop := rfl
def rmI (s0 : Spl) (s : S) : Prop := s.env 1 = .ptr 1 1 0 ∧ s.st 1 = ⟨1, .box (.lst false 6 (s0.bl.map SB.v) :: s0.o.map iv)⟩ ∧ ∃ k : Nat, s.env 4 = .s (.int .i64 k) ∧ k ≤ s0.bl.length ∧ s.env 3 = .s (.int .i64 ((s0.bl.take k).foldl mostB 0)) ∧ 0 ≤ (s0.bl.take k).foldl mostB 0
set_option maxRecDepth 8000 in
set_option maxHeartbeats 8000000 in
theorem rmost_impl : Impl Tryz.prog 17 spMost2 := by
  refine impl_walk2 mixed cV3_ok eqT_ok Tryz.func17 rfl Tryz.ntmps17 (by kernel_rfl) ?_
  intro xs r h
  unfold spMost2 at h
  simp only at h
  (try split at h) <;> try (cases (show none = some r from h); done)
  rename_i x
  obtain ⟨s0, hy, h4⟩ := Option.bind_eq_some_iff.1 h
  clear h
  split at h4
  case isFalse => cases h4
  rename_i hfit
  cases h4
  obtain ⟨sa, ol⟩ := splOf_sees hy
  refine ⟨_, (SeesL.cons sa .nil).args, by simp [Spl.v], ?_⟩
  obtain ⟨hbl, hbf⟩ := sbsFit_iff hfit
  have too := take_iv ol
  simp only [go_sem, seval, eq_self, reduceCtorEq, Spl.v, too, ol, List.length_map]
  repeat' ((first | (refine AG_of ?_ ?_ <;> intro h) | (refine AB_of ?_ ?_ <;> intro h) | (refine A_draw_of [] [] (by kernel_rfl) ?_ <;> have h := mark)) <;> simp only [go_sem, seval, eq_self, reduceCtorEq, Spl.v, too, ol, List.length_map, h])
  refine A_loop (rmI s0) (fun s => s0.bl.length - (numOf (s.env 4)).toNat) ?_ ?_
  · exact ⟨by simp [upd], by simp [upd, V.unfr, V.cells, unfrL_iv, V.unfrL], 0, by simp [upd], by omega, by simp [upd], by simp⟩
  intro s hs
  obtain ⟨e1, b1, k, e4, hk, e3, hnn⟩ := hs
  rcases Nat.lt_or_ge k s0.bl.length with hlt | hge
  · obtain ⟨b, q⟩ : ∃ b, s0.bl[k]? = some b := ⟨s0.bl[k], List.getElem?_eq_getElem hlt⟩
    obtain ⟨fa, fe⟩ := sbFit_iff (hbf b (List.mem_of_getElem? q))
    have g0 : decide ((k : Int) < (s0.bl.length : Int)) = true := by simp; omega
    have z0 := Int.natCast_nonneg k
    have n2 : IntKind.i64.wrap ((k : Int) + 1) = (k + 1 : Nat) := by rw [w_i64 (by omega) (by omega)]; omega
    have htk : (s0.bl.take (k + 1)).foldl mostB 0 = mostB ((s0.bl.take k).foldl mostB 0) b := by
      rw [List.take_add_one, q, List.foldl_append]; rfl
    obtain ⟨n, hn⟩ : ∃ n, (s0.bl.take k).foldl mostB 0 = n := ⟨_, rfl⟩
    rw [hn] at htk e3 hnn
    have hA := spTop_v fa false
    have hE := spTop_v fe false
    have m1 := mostL_top hnn b.a
    have m1n := mostL_nn hnn b.a
    have m2 := mostL_top m1n b.e
    have m2n := mostL_nn m1n b.e
    have hmb : mostB n b = mostL b.e (mostL b.a n) := rfl
    rw [hmb] at htk
    obtain ⟨f1, t1, nx, tk, A, E⟩ := b
    simp only at hA hE m1 m1n m2 m2n htk
    obtain ⟨x, hx⟩ : ∃ x, topL A = x := ⟨_, rfl⟩
    obtain ⟨y, hy2⟩ : ∃ x, topL E = x := ⟨_, rfl⟩
    rw [hx] at hA m1
    rw [hy2] at hE m2
    by_cases c1 : x > n
    · have gx : decide (n < x) = true := by simp; omega
      rw [if_pos c1] at m1
      rw [m1] at m2 htk m2n
      by_cases c2 : y > x
      · have gy : decide (x < y) = true := by simp; omega
        rw [if_pos c2] at m2
        rw [m2] at htk m2n
        simp only [go_sem, seval, eq_self, reduceCtorEq, e1, b1, e4, e3, g0, z0, q, n2, gx, gy, cV3_at, spTop_mv, hA, hE, SB.v, Int.toNat_natCast, List.getElem?_map, List.length_map]
        repeat' ((first | (refine AG_of ?_ ?_ <;> intro h) | (refine AB_of ?_ ?_ <;> intro h) | (refine A_draw_of [] [] (by kernel_rfl) ?_ <;> have h := mark)) <;> simp only [go_sem, seval, eq_self, reduceCtorEq, e1, b1, e4, e3, g0, z0, q, n2, gx, gy, cV3_at, spTop_mv, hA, hE, SB.v, Int.toNat_natCast, List.getElem?_map, List.length_map, h])
        exact ⟨⟨by simp [upd, e1], by simp [upd, b1, SB.v], k + 1, by simp [upd], by omega, by rw [htk]; simp [upd], by rw [htk]; exact m2n⟩, by simp [upd, numOf, e4]; omega⟩
      · have gy : decide (x < y) = false := by simp; omega
        rw [if_neg c2] at m2
        rw [m2] at htk m2n
        simp only [go_sem, seval, eq_self, reduceCtorEq, e1, b1, e4, e3, g0, z0, q, n2, gx, gy, cV3_at, spTop_mv, hA, hE, SB.v, Int.toNat_natCast, List.getElem?_map, List.length_map]
        repeat' ((first | (refine AG_of ?_ ?_ <;> intro h) | (refine AB_of ?_ ?_ <;> intro h) | (refine A_draw_of [] [] (by kernel_rfl) ?_ <;> have h := mark)) <;> simp only [go_sem, seval, eq_self, reduceCtorEq, e1, b1, e4, e3, g0, z0, q, n2, gx, gy, cV3_at, spTop_mv, hA, hE, SB.v, Int.toNat_natCast, List.getElem?_map, List.length_map, h])
        exact ⟨⟨by simp [upd, e1], by simp [upd, b1, SB.v], k + 1, by simp [upd], by omega, by rw [htk]; simp [upd], by rw [htk]; exact m2n⟩, by simp [upd, numOf, e4]; omega⟩
    · have gx : decide (n < x) = false := by simp; omega
      rw [if_neg c1] at m1
      rw [m1] at m2 htk m2n
      by_cases c2 : y > n
      · have gy : decide (n < y) = true := by simp; omega
        rw [if_pos c2] at m2
        rw [m2] at htk m2n
        simp only [go_sem, seval, eq_self, reduceCtorEq, e1, b1, e4, e3, g0, z0, q, n2, gx, gy, cV3_at, spTop_mv, hA, hE, SB.v, Int.toNat_natCast, List.getElem?_map, List.length_map]
        repeat' ((first | (refine AG_of ?_ ?_ <;> intro h) | (refine AB_of ?_ ?_ <;> intro h) | (refine A_draw_of [] [] (by kernel_rfl) ?_ <;> have h := mark)) <;> simp only [go_sem, seval, eq_self, reduceCtorEq, e1, b1, e4, e3, g0, z0, q, n2, gx, gy, cV3_at, spTop_mv, hA, hE, SB.v, Int.toNat_natCast, List.getElem?_map, List.length_map, h])
        exact ⟨⟨by simp [upd, e1], by simp [upd, b1, SB.v], k + 1, by simp [upd], by omega, by rw [htk]; simp [upd], by rw [htk]; exact m2n⟩, by simp [upd, numOf, e4]; omega⟩
      · have gy : decide (n < y) = false := by simp; omega
        rw [if_neg c2] at m2
        rw [m2] at htk m2n
        simp only [go_sem, seval, eq_self, reduceCtorEq, e1, b1, e4, e3, g0, z0, q, n2, gx, gy, cV3_at, spTop_mv, hA, hE, SB.v, Int.toNat_natCast, List.getElem?_map, List.length_map]
        repeat' ((first | (refine AG_of ?_ ?_ <;> intro h) | (refine AB_of ?_ ?_ <;> intro h) | (refine A_draw_of [] [] (by kernel_rfl) ?_ <;> have h := mark)) <;> simp only [go_sem, seval, eq_self, reduceCtorEq, e1, b1, e4, e3, g0, z0, q, n2, gx, gy, cV3_at, spTop_mv, hA, hE, SB.v, Int.toNat_natCast, List.getElem?_map, List.length_map, h])
        exact ⟨⟨by simp [upd, e1], by simp [upd, b1, SB.v], k + 1, by simp [upd], by omega, by rw [htk]; simp [upd, e3], by rw [htk]; exact m2n⟩, by simp [upd, numOf, e4]; omega⟩
  · have hkl : k = s0.bl.length := by omega
    have g0 : decide ((k : Int) < (s0.bl.length : Int)) = false := by simp; omega
    rw [hkl, List.take_length] at e3
    have e3' : s.env 3 = .s (.int .i64 (mostS s0)) := e3
    simp only [go_sem, seval, eq_self, reduceCtorEq, e1, b1, e4, e3', g0, List.length_map]
    repeat' ((first | (refine AG_of ?_ ?_ <;> intro h) | (refine AB_of ?_ ?_ <;> intro h) | (refine A_draw_of [] [] (by kernel_rfl) ?_ <;> have h := mark)) <;> simp only [go_sem, seval, eq_self, reduceCtorEq, e1, b1, e4, e3', g0, List.length_map, h])
    all_goals (first | refine fin_ret ?_ | refine fin_normal ?_)
    all_goals simp only [resOf, Tryz.results17, Tryz.ntmps17, go_sem, seval, eq_self, reduceCtorEq, e3']

end Go.Proofs.YtkfmecmmbnehjaaGreat
/-
CertTells by the plain reckoning, for blocks of which the cells fit in memory, and what comes in. No condition.
-/
namespace Go.Proofs.YtkfmecmmbnehjaaGreat
set_option linter.unusedSimpArgs false
set_option linter.unusedVariables false

theorem eqInts_self : ∀ l : List Int, eqInts (l.map iv) (l.map iv) = some true
  | [] => rfl
  | a :: l => by
    have ih := eqInts_self l
    simp [eqInts, iv, ih]
def cUd : Orc := upd (upd (upd (upd (upd cUb 11 (some spCounts)) 13 (some spBal)) 15 (some spRightS)) 17 (some spMost2)) 9 (some spFew13)
theorem cUd_ok : ∀ g sp, cUd g = some sp → Impl Tryz.prog g sp := orc_upd (orc_upd (orc_upd (orc_upd (orc_upd cUb_ok rcounts_impl) rbal_impl) rrightS_impl) rmost_impl) few13_impl
theorem cUd_at : cUd 7 = some spTrue ∧ cUd 8 = some spFew ∧ cUd 9 = some spFew13 ∧ cUd 14 = some spRightS ∧ cUd 12 = some spBal ∧ cUd 10 = some spCounts ∧ cUd 16 = some spMost ∧ cUd 11 = some spCounts ∧ cUd 13 = some spBal ∧ cUd 15 = some spRightS ∧ cUd 17 = some spMost2 := ⟨rfl, rfl, rfl, rfl, rfl, rfl, rfl, rfl, rfl, rfl, rfl⟩
def spCTe : Spec := ⟨[], fun xs => match xs with
  | [x, y, z] => (sbOf x).bind fun b => (prgOf y).bind fun _ => (splOf z).bind fun s => if sbLit b = true ∧ sbsFit s.bl = true ∧ s.bl.all offOk = true then some (.s (.bool true)) else none
  | _ => none⟩
set_option maxRecDepth 8000 in
set_option maxHeartbeats 16000000 in
theorem cte_impl : Impl Tryz.prog 3 spCTe := by
  refine impl_walk2 mixed cUd_ok eqT_ok Tryz.func3 rfl Tryz.ntmps3 (by kernel_rfl) ?_
  intro xs r h
  unfold spCTe at h
  simp only at h
  (try split at h) <;> try (cases (show none = some r from h); done)
  rename_i x y z
  obtain ⟨b, hb, h3⟩ := Option.bind_eq_some_iff.1 h
  obtain ⟨p, hp, h4⟩ := Option.bind_eq_some_iff.1 h3
  obtain ⟨s, hs, h5⟩ := Option.bind_eq_some_iff.1 h4
  clear h h3 h4
  split at h5
  case isFalse => cases h5
  rename_i hh
  obtain ⟨hlit, hfit, hoff⟩ := hh
  cases h5
  obtain ⟨sa, ol⟩ := splOf_sees hs
  refine ⟨_, (SeesL.cons (sbOf_sees hb) (.cons (prgOf_sees hp) (.cons sa .nil))).args, by simp [SB.v, Spl.v], ?_⟩
  clear hb hs sa
  have too := take_iv ol
  have hlit2 := hlit
  unfold sbLit at hlit2
  simp only [Bool.and_eq_true, decide_eq_true_eq] at hlit2
  obtain ⟨la, le⟩ := hlit2
  have hbf : sbFit b = true := by unfold sbFit; simp only [Bool.and_eq_true, decide_eq_true_eq]; omega
  have hF := few_v p
  have hFs := spFew13_v ol hfit
  have hFb := spFew13_v (s := ⟨[b], zeroO⟩) rfl (by unfold sbsFit; simp [hbf])
  have hC := spCounts_v hbf
  have hB := spBal_v hlit
  have hR := spRightS_v (splOf_v false s.bl ol) hfit p
  have hM := spMost_v (splOf_v false s.bl ol) hfit hoff
  have hM2 := spMost2_v (splOf_v false s.bl ol) hfit
  have hcl : (cntL b.a ++ cntL b.e).length = 24 := by rw [List.length_append, cntL_len, cntL_len]
  obtain ⟨C, hCe⟩ : ∃ C, cntL b.a ++ cntL b.e = C := ⟨_, rfl⟩
  obtain ⟨mo, hmo⟩ : ∃ m, mostS s = m := ⟨_, rfl⟩
  obtain ⟨r, hr⟩ : ∃ r, rightS p s = r := ⟨_, rfl⟩
  obtain ⟨bb, hbb⟩ : ∃ r, balB b = r := ⟨_, rfl⟩
  rw [hCe] at hC hcl
  have hm1 : mostS ⟨s.bl, s.o⟩ = mo := hmo
  have hr1 : rightS p ⟨s.bl, s.o⟩ = r := hr
  rw [hm1] at hM hM2
  rw [hr1] at hR
  rw [hbb] at hB
  obtain ⟨f1, hf1⟩ : ∃ f, few13 s = f := ⟨_, rfl⟩
  obtain ⟨f2, hf2⟩ : ∃ f, few13 ⟨[b], zeroO⟩ = f := ⟨_, rfl⟩
  rw [hf1] at hFs
  rw [hf2] at hFb
  have heq := eqInts_self C
  simp only [Prg.v, SB.v, Spl.v, zeroO, List.map_cons, List.map_nil, List.replicate, iv] at hF hFs hFb hC hB hR hM hM2
  obtain ⟨g1, g2, g3, g4, A, E⟩ := b
  simp only at la le hFb hC hB
  have hscA := scal_cell A
  have hscE := scal_cell E
  cases c1 : fewB p
  · rw [c1] at hF
    simp only [go_sem, seval, eq_self, reduceCtorEq, Prg.v, SB.v, Spl.v, too, ol, cUd_at, spTrue_mv, spTrue_fn, spFew_mv, hF, List.length_map]
    repeat' ((first | (refine AG_of ?_ ?_ <;> intro h) | (refine AB_of ?_ ?_ <;> intro h) | (refine A_draw_of [] [] (by kernel_rfl) ?_ <;> have h := mark)) <;> simp only [go_sem, seval, eq_self, reduceCtorEq, Prg.v, SB.v, Spl.v, too, ol, cUd_at, spTrue_mv, spTrue_fn, spFew_mv, hF, List.length_map, h])
    all_goals (first | refine fin_ret ?_ | refine fin_normal ?_)
    all_goals simp only [resOf, Tryz.results3, Tryz.ntmps3, go_sem, seval, eq_self, reduceCtorEq]
  rw [c1] at hF
  cases f1
  ·
    simp only [go_sem, seval, eq_self, reduceCtorEq, Prg.v, SB.v, Spl.v, too, ol, cUd_at, spTrue_mv, spTrue_fn, spFew_mv, hF, spFew13_mv, hFs, List.length_map]
    repeat' ((first | (refine AG_of ?_ ?_ <;> intro h) | (refine AB_of ?_ ?_ <;> intro h) | (refine A_draw_of [] [] (by kernel_rfl) ?_ <;> have h := mark)) <;> simp only [go_sem, seval, eq_self, reduceCtorEq, Prg.v, SB.v, Spl.v, too, ol, cUd_at, spTrue_mv, spTrue_fn, spFew_mv, hF, spFew13_mv, hFs, List.length_map, h])
    all_goals (first | refine fin_ret ?_ | refine fin_normal ?_)
    all_goals simp only [resOf, Tryz.results3, Tryz.ntmps3, go_sem, seval, eq_self, reduceCtorEq]
  cases f2
  ·
    simp only [go_sem, seval, eq_self, reduceCtorEq, Prg.v, SB.v, Spl.v, too, ol, cUd_at, spTrue_mv, spTrue_fn, spFew_mv, hF, spFew13_mv, hFs, hFb, hscA, hscE, z16, List.replicate, List.length_map]
    repeat' ((first | (refine AG_of ?_ ?_ <;> intro h) | (refine AB_of ?_ ?_ <;> intro h) | (refine A_draw_of [] [] (by kernel_rfl) ?_ <;> have h := mark)) <;> simp only [go_sem, seval, eq_self, reduceCtorEq, Prg.v, SB.v, Spl.v, too, ol, cUd_at, spTrue_mv, spTrue_fn, spFew_mv, hF, spFew13_mv, hFs, hFb, hscA, hscE, z16, List.replicate, List.length_map, h])
    all_goals (first | refine fin_ret ?_ | refine fin_normal ?_)
    all_goals simp only [resOf, Tryz.results3, Tryz.ntmps3, go_sem, seval, eq_self, reduceCtorEq]
  simp only [go_sem, seval, eq_self, reduceCtorEq, Prg.v, SB.v, Spl.v, too, ol, cUd_at, spTrue_mv, spTrue_fn, spFew_mv, hF, spFew13_mv, hFs, hFb, hscA, hscE, spCounts_mv, hC, spBal_mv, hB, spRightS_mv, hR, spMost_mv, hM, spMost2_mv, hM2, heq, hcl, eqT_37, beq_self_eq_true, z16, List.replicate, List.length_map]
  repeat' ((first | (refine AG_of ?_ ?_ <;> intro h) | (refine AB_of ?_ ?_ <;> intro h) | (refine A_draw_of [] [] (by kernel_rfl) ?_ <;> have h := mark)) <;> simp only [go_sem, seval, eq_self, reduceCtorEq, Prg.v, SB.v, Spl.v, too, ol, cUd_at, spTrue_mv, spTrue_fn, spFew_mv, hF, spFew13_mv, hFs, hFb, hscA, hscE, spCounts_mv, hC, spBal_mv, hB, spRightS_mv, hR, spMost_mv, hM, spMost2_mv, hM2, heq, hcl, eqT_37, beq_self_eq_true, z16, List.replicate, List.length_map, h])
  all_goals (first | refine fin_ret ?_ | refine fin_normal ?_)
  all_goals simp only [resOf, Tryz.results3, Tryz.ntmps3, go_sem, seval, eq_self, reduceCtorEq]

theorem cell_ty2 (x : V) (h : TyV Tryz.prog 51 x.cells) (ha : FormV Tryz.prog 51 x) : ∃ c, cellOf x = some c ∧ wfI c.off = true := by
  obtain ⟨ls, e, hl, hf⟩ := h.struct_inv Tryz.underlying51
  match ls, hl with
  | [c0, c1, c2, c3, c4], _ =>
    obtain ⟨n0, rfl, _⟩ := ty_i64 (hf 0 _ _ rfl rfl)
    obtain ⟨i, hi, _⟩ := ty_ins (hf 1 _ _ rfl rfl)
    obtain ⟨n2, rfl, _⟩ := ty_i64 (hf 2 _ _ rfl rfl)
    obtain ⟨n3, rfl, _⟩ := ty_i64 (hf 3 _ _ rfl rfl)
    obtain ⟨n4, rfl, w1, w2⟩ := ty_i64 (hf 4 _ _ rfl rfl)
    simp only [Ins.v, V.agg.injEq] at hi
    subst hi
    have hx := ha.1 isAgg_51
    rw [e] at hx
    exact ⟨⟨n0, i, n2, n3, n4⟩, by rw [hx]; rfl, by unfold wfI; simp only [Bool.and_eq_true, decide_eq_true_eq]; omega⟩
theorem blk_ty2 (x : V) (h : TyV Tryz.prog 24 x.cells) (ha : FormV Tryz.prog 24 x) : ∃ b, sbOf x = some b ∧ sbFit b = true ∧ offOk b = true := by
  obtain ⟨ls, e, hl, hf⟩ := h.struct_inv Tryz.underlying24
  match ls, hl with
  | [c0, c1, c2, c3, c4, c5], _ =>
    obtain ⟨n0, rfl, _⟩ := ty_i64 (hf 0 _ _ rfl rfl)
    obtain ⟨n1, rfl, _⟩ := ty_i64 (hf 1 _ _ rfl rfl)
    obtain ⟨n2, rfl, _⟩ := ty_i64 (hf 2 _ _ rfl rfl)
    obtain ⟨n3, rfl, _⟩ := ty_i64 (hf 3 _ _ rfl rfl)
    obtain ⟨y4, m4, a, rfl, h1, h2, h3, h4⟩ := ty_list (sz := 9) Tryz.underlying22 (by kernel_rfl) cell_ty2 (hf 4 _ _ rfl rfl)
    obtain ⟨y5, m5, b, rfl, h6, h7, h8, h9⟩ := ty_list (sz := 9) Tryz.underlying22 (by kernel_rfl) cell_ty2 (hf 5 _ _ rfl rfl)
    have hx := ha.1 isAgg_24
    rw [e] at hx
    subst hx
    refine ⟨⟨n0, n1, n2, n3, a, b⟩, ?_, by unfold sbFit; simp only [Bool.and_eq_true, decide_eq_true_eq]; exact ⟨h4, h9⟩, by unfold offOk; simp only [Bool.and_eq_true, List.all_eq_true]; exact ⟨h3, h8⟩⟩
    simp only [List.flatten_cons, List.flatten_nil, List.cons_append, List.nil_append, sbOf, h1, h2, h6, h7, Option.bind_some]
theorem ty_spl2 (x : V) (h : TyV Tryz.prog 32 x.cells) (ha : FormV Tryz.prog 32 x) : ∃ s, splOf x = some s ∧ sbsFit s.bl = true ∧ s.bl.all offOk = true := by
  obtain ⟨ls, e, hl, hf⟩ := h.struct_inv Tryz.underlying32
  match ls, hl with
  | [c0, c1], _ =>
    obtain ⟨y0, m0, b, rfl, h1, h2, h3, h4⟩ := ty_list (sz := 6) Tryz.underlying29 (by kernel_rfl) blk_ty2 (hf 0 _ _ rfl rfl)
    obtain ⟨o, rfl, hol⟩ := own_cells (hf 1 _ _ rfl rfl)
    have hx := ha.1 isAgg_32
    rw [e] at hx
    subst hx
    refine ⟨⟨b, o⟩, ?_, by unfold sbsFit; simp only [Bool.and_eq_true, decide_eq_true_eq, List.all_eq_true]; exact ⟨h4, fun c hc => (h3 c hc).1⟩, by rw [List.all_eq_true]; exact fun c hc => (h3 c hc).2⟩
    have ho : ownOf (.agg (o.map iv)) = some o := ownOf_v hol
    simp only [List.flatten_cons, List.flatten_nil, List.cons_append, List.nil_append, List.append_nil, splOf, sbsOf, h1, h2, ho, Option.bind_some]
theorem cte_ok {x y z : V} (hb : ∃ b, sbOf x = some b ∧ b.a.length ≤ 1048576 ∧ b.e.length ≤ 1048576) (h : ∃ p, prgOf y = some p ∧ p.data.all byte = true ∧ (∀ i ∈ p.code, WfI i) ∧ p.code.length ≤ maxLen ∧ p.data.length ≤ maxLen) (hs : ∃ s, splOf z = some s ∧ sbsFit s.bl = true ∧ s.bl.all offOk = true) : spCTe.fn [x, y, z] = some (.s (.bool true)) := by
  obtain ⟨b, b1, b2, b3⟩ := hb
  obtain ⟨p, hp, _⟩ := h
  obtain ⟨s, s1, s2, s3⟩ := hs
  simp only [spCTe, b1, hp, s1, Option.bind_some]
  rw [if_pos ⟨by unfold sbLit; simp only [Bool.and_eq_true, decide_eq_true_eq]; omega, s2, s3⟩]

end Go.Proofs.YtkfmecmmbnehjaaGreat
namespace Go.Proofs.YtkfmecmmbnehjaaGreat
set_option linter.unusedSimpArgs false
set_option linter.unusedVariables false
open Go.ChangeShapes Go.WideShapes Go.ChangeAt Go.RowKit

section
variable {H : Type}
theorem bulk_pos (d : DataW H) : 1 ≤ Rows.uptoBulk d := by
  cases d with
  | lit l => cases l <;> simp [Rows.uptoBulk]
  | _ => simp [Rows.uptoBulk]
theorem bulk_len : ∀ l : List (DataW H), l.length ≤ Rows.uptoBulkAll l
  | [] => Nat.zero_le _
  | d :: l => by
    have h1 := bulk_pos d
    have h2 := bulk_len l
    simp only [Rows.uptoBulkAll, List.length_cons]
    omega
theorem bulk_mem : ∀ {l : List (DataW H)} {d : DataW H}, d ∈ l → Rows.uptoBulk d ≤ Rows.uptoBulkAll l
  | e :: l, d, h => by
    simp only [Rows.uptoBulkAll]
    rcases List.mem_cons.1 h with rfl | h
    · omega
    · have := bulk_mem h
      omega
variable {enc : TypeId × Value → H} {P : Program} {w : World} {spare : Nat → Bool} {held : Bool} {own fresh : Nat → Prop} {k : Bool}
theorem rc_len {u : Value} {fr : Bool} {sz : Nat} {l : List V} (h : RC w own fresh k u (.lst fr sz l)) : ∃ (A : Option Addr) (cp : Nat), u = .slice A l.length cp := by
  cases h with
  | lst k fr sz l A cp us hc hu hl he h1 hr => exact ⟨A, cp, rfl⟩
theorem slice_bulk {n sz : Nat} {t e : TypeId} {y : V} {u : Value} {m : List V} {x : DataW H × List MemPlace} (hR : RC w own fresh k u y) (hl : lOf sz y = some m) (ht : P.underlying t = some (.slice e)) (h : DataW.trod enc P w 0 spare held n t [u] = some x) : m.length ≤ Rows.uptoBulk x.1 := by
  rcases DataW.trod_slice ht h with ⟨hu, rfl⟩ | ⟨a, len, cap, elems, rest, n', _, hu, rfl, _, _, _, hel, _, _⟩
  · simp only [List.cons.injEq, and_true] at hu
    subst hu
    unfold lOf at hl
    split at hl
    · split at hl
      · cases hl
        obtain ⟨A, cp, e⟩ := rc_len hR
        injection e with _ e2 _
        omega
      · cases hl
    · cases hl; exact Nat.zero_le _
    · cases hl
  · simp only [List.cons.injEq, and_true] at hu
    subst hu
    have hm : m.length = len := by
      unfold lOf at hl
      split at hl
      · split at hl
        · cases hl
          obtain ⟨A, cp, e⟩ := rc_len hR
          injection e with _ e2 _
          exact e2.symm
        · cases hl
      · cases hR
      · cases hl
    have := bulk_len (elems.map (·.1))
    rw [List.length_map] at this
    simp only [Rows.uptoBulk]
    omega
end
theorem blk_bulk {H : Type} {enc : TypeId × Value → H} {w : World} {spare : Nat → Bool} {held : Bool} {own fresh : Nat → Prop} {k : Bool} {v : Value} {x : V} {D : DataW H} {q : List MemPlace} {b : SB} (hR : RC w own fresh k v x) (h : DataW.Trod enc Tryz.prog w 0 spare held 24 v D q) (hb : sbOf x = some b) : b.a.length ≤ Rows.uptoBulk D ∧ b.e.length ≤ Rows.uptoBulk D := by
  obtain ⟨fuel, hf⟩ := h
  obtain ⟨xs, n, _, hD, _, hxl, hx⟩ := DataW.trod_struct Tryz.underlying24 hf
  have hD1 : D = .agg (xs.map (·.1)) := congrArg Prod.fst hD
  unfold sbOf at hb
  split at hb
  case h_2 => cases hb
  obtain ⟨l, h1, hb⟩ := Option.bind_eq_some_iff.1 hb
  obtain ⟨a, h2, hb⟩ := Option.bind_eq_some_iff.1 hb
  obtain ⟨m, h3, hb⟩ := Option.bind_eq_some_iff.1 hb
  obtain ⟨e, h4, hb⟩ := Option.bind_eq_some_iff.1 hb
  cases hb
  have el : l.length = a.length := by rw [mapM_eq (fun _ _ => cellOf_eq) h2, List.length_map]
  have em : m.length = e.length := by rw [mapM_eq (fun _ _ => cellOf_eq) h4, List.length_map]
  cases hR with
  | agg _ us _ hl he =>
    have hcs : (Value.agg us.toArray).cells.toList = us := by simp [Value.cells]
    rw [hcs] at hx
    have fld : ∀ {i : Nat} {y : V} {z : List V}, (∃ u, us[i]? = some u ∧ RC w own fresh k u y) → lOf 9 y = some z → i < xs.length → (∀ u, us[i]? = some u → DataW.trod enc Tryz.prog w 0 spare held n 22 [u] = xs[i]?) → z.length ≤ Rows.uptoBulk D := by
      intro i y z hu hz hi ht
      obtain ⟨u, hu, hru⟩ := hu
      have h9 := ht u hu
      rw [List.getElem?_eq_getElem hi] at h9
      have h10 := slice_bulk hru hz Tryz.underlying22 h9
      have h11 : Rows.uptoBulk xs[i].1 ≤ Rows.uptoBulkAll (xs.map (·.1)) := bulk_mem (List.mem_map.2 ⟨xs[i], List.getElem_mem hi, rfl⟩)
      rw [hD1]
      simp only [Rows.uptoBulk]
      omega
    have c1 : Tryz.prog.cellsOf 22 = 1 := by kernel_rfl
    have hul : us.length = 6 := by rw [hl]; rfl
    have one : ∀ {i : Nat} {u : Value}, us[i]? = some u → (us.drop i).take 1 = [u] := fun {i u} hu => by
      obtain ⟨hi, rfl⟩ := List.getElem?_eq_some_iff.1 hu
      rw [List.drop_eq_getElem_cons hi]; rfl
    have get : ∀ {i : Nat}, i < 6 → ∃ u, us[i]? = some u := fun {i} hi => ⟨us[i]'(by omega), List.getElem?_eq_getElem (by omega)⟩
    have hx6 : xs.length = 6 := hxl
    constructor
    · rw [← el]
      obtain ⟨u, hu⟩ := get (i := 4) (by omega)
      refine fld (i := 4) ⟨u, hu, he 4 u _ hu rfl⟩ h1 (by omega) fun u hu => ?_
      have e9 : (us.drop 4).take (Tryz.prog.cellsOf 22) = [u] := by rw [c1]; exact one hu
      rw [← e9]
      exact hx 4 _ rfl
    · rw [← em]
      obtain ⟨u, hu⟩ := get (i := 5) (by omega)
      refine fld (i := 5) ⟨u, hu, he 5 u _ hu rfl⟩ h3 (by omega) fun u hu => ?_
      have e9 : (us.drop 5).take (Tryz.prog.cellsOf 22) = [u] := by rw [c1]; exact one hu
      rw [← e9]
      exact hx 5 _ rfl

end Go.Proofs.YtkfmecmmbnehjaaGreat
