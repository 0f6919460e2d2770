/-
Owners given: owner.give, the reference's owned and Side, by the plain reckoning. No condition.
-/
import Derived.Test.YtkfmecmmbnehjaaGreatO6
namespace Go.Proofs.YtkfmecmmbnehjaaGreat
set_option linter.unusedSimpArgs false
set_option linter.unusedVariables false

theorem movC_iv (st : Nat → Blk) (o : List Int) : movC st (o.map iv) = some (o.map iv, []) := by
  induction o with
  | nil => rfl
  | cons a o ih => rw [List.map_cons, movC, ih]; rfl
theorem inC_iv (t j : Nat) (o : List Int) : inC t j (o.map iv) = o.map iv := by
  induction o generalizing j with
  | nil => rfl
  | cons a o ih => simp [inC, iv]; exact ih (j + 1)
theorem hang_iv (st : Nat → Blk) (b j : Nat) (o : List Int) : hang st b j (o.map iv) = (o.map iv, []) := by
  induction o generalizing j with
  | nil => rfl
  | cons a o ih => simp [hang, iv]; rw [ih (j + 1)]; exact ⟨rfl, rfl⟩
attribute [go_sem high] movC_iv inC_iv hang_iv List.not_mem_nil not_false_eq_true List.mem_cons
theorem spl_iv {o : List Int} {k : Nat} (h : k < o.length) (v : Int) : (o.map iv).take k ++ .s (.int .i64 v) :: (o.map iv).drop (k + 1) = (o.set k v).map iv := by
  rw [List.map_set, List.set_eq_take_append_cons_drop, if_pos (by simpa using h)]
  rfl

def giveO (i : Ins) (o : List Int) : List Int :=
  if reachB i = true then (if i.a == 0 then o else o.set i.a.toNat 1) else
  if (reckB i && oAt o i.d == 1) = true then (readsL i).foldl (fun o r => o.set r.toNat 1) o else o
theorem fold_len (l : List Int) (o : List Int) : (l.foldl (fun o r => o.set r.toNat 1) o).length = o.length := by
  induction l generalizing o with
  | nil => rfl
  | cons r l ih => rw [List.foldl_cons, ih, List.length_set]
theorem give_len (i : Ins) (o : List Int) : (giveO i o).length = o.length := by
  unfold giveO
  (repeat' split) <;> simp [fold_len]
def cGive : Orc := upd cRef1 112 (some spReadsL)
theorem cGive_ok : ∀ g sp, cGive g = some sp → Impl Tryz.prog g sp := orc_upd cRef1_ok (impl_lst reads_impl)
end Go.Proofs.YtkfmecmmbnehjaaGreat
