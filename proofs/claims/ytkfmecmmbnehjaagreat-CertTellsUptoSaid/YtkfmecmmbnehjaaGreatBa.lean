/-
slices.Sort, slices.Compact, slices.BinarySearch at whole numbers: the library's proved contracts in the plain reckoning's words. No condition.
-/
import Derived.Test.YtkfmecmmbnehjaaGreatL0
import Derived.Test.YtkfmecmmbnehjaaGreatSh
namespace Go.Proofs.YtkfmecmmbnehjaaGreat
set_option linter.unusedSimpArgs false
set_option linter.unusedVariables false
open Go.Sort Go.RowKit

section
variable {w : World}
theorem put_heap {g o : Nat} {cur : Array Value} {e : TypeId} {fz : Nat × Nat} (hg : w.heap[g]? = some (.cells cur e fz)) (d : Array Int) (q : Nat) (os : Array Obj) : (grow (Go.Sort.putRow (Value.int .i64) (Sort.ahead w q) g o d) os).heap[g]? = some (.cells (putCells (Value.int .i64) o d cur) e fz) := by
  have hlt := (Array.getElem?_eq_some_iff.1 hg).1
  simp only [grow, Go.Sort.putRow, mapBlock, Sort.ahead]
  rw [Array.getElem?_append_left (by simpa using hlt), Array.getElem?_modify, if_pos rfl, hg]
  rfl
theorem put_other {g o k : Nat} (hk : k < w.heap.size) (h : k ≠ g) (d : Array Int) (q : Nat) (os : Array Obj) : (grow (Go.Sort.putRow (Value.int .i64) (Sort.ahead w q) g o d) os).heap[k]? = w.heap[k]? := by
  simp only [grow, Go.Sort.putRow, mapBlock, Sort.ahead]
  rw [Array.getElem?_append_left (by simpa using hk), Array.getElem?_modify, if_neg (fun e => h e.symm)]
theorem put_row {g o n cap e : Nat} {cur : Array Value} {fz : Nat × Nat} (hg : w.heap[g]? = some (.cells cur e fz)) (hfz : Harmless fz cur.size) (hnc : n ≤ cap) (hmax : cap ≤ maxLen) (hfit : o + cap * 1 ≤ cur.size) (d : List Int) (hd : d.length = n) (m : Nat) (hm : m ≤ n) (q : Nat) (os : Array Obj) :
    OwnRow (grow (Go.Sort.putRow (Value.int .i64) (Sort.ahead w q) g o d.toArray) os) e 1 (.slice (some ⟨g, o, none⟩) m cap) m ((d.take m).map (Value.int .i64)) := by
  refine ⟨by rw [List.length_map, List.length_take]; omega, .inr ⟨g, o, cap, putCells (Value.int .i64) o d.toArray cur, fz, rfl, put_heap hg _ _ _, ?_, by omega, hmax, by simpa [putCells] using hfit, ?_⟩⟩
  · simpa [putCells] using hfz
  · apply List.ext_getElem?
    intro i
    rw [Nat.mul_one, List.getElem?_take, List.getElem?_map, List.getElem?_take]
    split
    · rename_i hi
      rw [List.getElem?_drop]
      simp only [putCells, Array.getElem?_toList, Array.getElem?_mapIdx]
      have h1 : o + i < cur.size := by omega
      rw [Array.getElem?_eq_getElem h1]
      simp only [Option.map_some, List.size_toArray]
      rw [if_pos (by omega), List.getElem?_eq_getElem (show i < d.length by omega)]
      simp only [Option.map_some]
      congr 2
      rw [show o + i - o = i by omega, getElem!_pos _ _ (by simpa using (show i < d.length by omega))]
      simp
    · simp
theorem ints_of {own fresh : Nat → Prop} {us : List Value} {c : List Int} (hp : PW (RC w own fresh true) us (flat (c.map iv))) : us = c.map (Value.int .i64) := by
  have hf : flat (c.map iv) = c.map iv := flat_s _ fun x hx => by obtain ⟨b, _, rfl⟩ := List.mem_map.1 hx; rfl
  rw [hf] at hp
  apply List.ext_getElem?
  intro i
  cases hi : us[i]? with
  | none =>
    have : us.length ≤ i := List.getElem?_eq_none_iff.1 hi
    rw [List.getElem?_eq_none (by rw [List.length_map]; have := hp.1; rw [List.length_map] at this; omega)]
  | some u =>
    obtain ⟨x, hx, hr⟩ := hp.getl hi
    rw [List.getElem?_map] at hx ⊢
    obtain ⟨n, hn, rfl⟩ := Option.map_eq_some_iff.1 hx
    rw [hn]
    have hr' : RC w own fresh true u (.s (.int .i64 n)) := hr
    cases hr'; rfl
theorem row_of {own fresh : Nat → Prop} {k : Bool} (c : List Int) : PW (RC w own fresh k) (c.map (Value.int .i64)) (flat (c.map iv)) := by
  have hf : flat (c.map iv) = c.map iv := flat_s _ fun x hx => by obtain ⟨b, _, rfl⟩ := List.mem_map.1 hx; rfl
  rw [hf]
  refine ⟨by simp, fun i u x hu hx => ?_⟩
  rw [List.getElem?_map] at hu hx
  obtain ⟨n, hn, rfl⟩ := Option.map_eq_some_iff.1 hu
  rw [hn] at hx
  cases hx
  exact .s _ _
theorem holds_of {g o n cap e : Nat} {cur : Array Value} {fz : Nat × Nat} {c : List Int} (hg : w.heap[g]? = some (.cells cur e fz)) (hfz : Harmless fz cur.size) (hnc : n ≤ cap) (hfit : o + cap * 1 ≤ cur.size) (htake : (cur.toList.drop o).take (n * 1) = c.map (Value.int .i64)) (hc : c.length = n) : Holds (Value.int .i64) w g o c.toArray := by
  intro j hj
  have hj' : j < c.length := by simpa using hj
  have h1 : o + j < cur.size := by omega
  have h2 : ((cur.toList.drop o).take (n * 1))[j]? = some (.int .i64 c[j]) := by rw [htake, List.getElem?_map, List.getElem?_eq_getElem hj']; rfl
  rw [List.getElem?_take, if_pos (by omega), List.getElem?_drop] at h2
  refine ⟨?_, frozen_harmless hg hfz h1⟩
  simp only [World.cell?, hg]
  rw [Array.getElem?_toList] at h2
  have h3 : (c.toArray)[j]! = c[j] := by rw [getElem!_pos c.toArray j hj]; simp
  rw [h3]
  simpa using h2
theorem put_fr {J : Nat → Prop} {g o e : Nat} {cur : Array Value} {fz : Nat × Nat} (hg : w.heap[g]? = some (.cells cur e fz)) (hJ : J g) (d : Array Int) (q : Nat) (os : Array Obj) : Fr w J (grow (Go.Sort.putRow (Value.int .i64) (Sort.ahead w q) g o d) os) := by
  refine ⟨rfl, rfl, rfl, by simp [grow, Go.Sort.putRow, mapBlock, Sort.ahead], fun k hk hnJ => ?_⟩
  exact put_other hk (fun e => hnJ (e ▸ hJ)) _ _ _
end

def sortI (c : List Int) : List Int := c.mergeSort fun x y => decide (x ≤ y)
theorem sortI_len (c : List Int) : (sortI c).length = c.length := List.length_mergeSort _
def spSort : Spec := ⟨[true], fun xs => match xs with
  | [.own 1 3 l] => (l.mapM i64Of).bind fun c => if c ≠ [] ∧ c.length ≤ 1000000 then some (.io 0 (.tup []) (.own 1 3 ((sortI c).map iv))) else none
  | _ => none⟩
def spCompact : Spec := ⟨[true], fun xs => match xs with
  | [.own 1 3 l] => (l.mapM i64Of).bind fun c => if c ≠ [] ∧ c.length ≤ 1000000 then some (.own 1 3 ((Lib.compact c).map iv)) else none
  | _ => none⟩
theorem spSort_mv : spSort.mv = [true] := rfl
theorem spCompact_mv : spCompact.mv = [true] := rfl
theorem one_arg {w : World} {J : Nat → Prop} {vs : Array Value} {x : V} (ha : Args w J vs.toList [x]) : ∃ u, vs = #[u] ∧ ArgR w J u x := by
  obtain ⟨u, us', hv, hr, hn⟩ := ha.pw.uncons
  have := hn.nil_r
  subst this
  exact ⟨u, by apply Array.toList_inj.1; rw [hv], hr⟩
theorem sort_impl : Impl Tryz.prog 103 spSort := by
  refine ⟨⟨_, Tryz.func103, by kernel_rfl, by kernel_rfl⟩, fun xs r hx vs w J ha => ?_⟩
  unfold spSort at hx
  simp only at hx
  split at hx
  case h_2 => cases hx
  rename_i l
  obtain ⟨c, hc, h2⟩ := Option.bind_eq_some_iff.1 hx
  have e := mapM_eq (fun _ _ => i64Of_eq) hc
  subst e
  split at h2
  case isFalse => cases h2
  rename_i hh
  obtain ⟨hne, hsmall⟩ := hh
  cases h2
  obtain ⟨u, rfl, hr⟩ := one_arg ha
  obtain ⟨⟨us, ho, hcl, hp, h1⟩, hJ⟩ := hr
  have hus := ints_of hp
  subst hus
  rw [List.length_map] at ho
  rcases ho.2 with ⟨_, h0⟩ | ⟨g, o, cap, cur, fz, rfl, hg, hfz, hnc, hmax, hfit, htake⟩
  · exact absurd (List.eq_nil_of_length_eq_zero h0) hne
  have hlt := (Array.getElem?_eq_some_iff.1 hg).1
  have hH := holds_of hg hfz hnc hfit htake rfl
  refine (Tryz.slices_Sort_int g o cap c w hH hlt (by omega)).mono fun e w' ⟨he, q, os, hw'⟩ => ?_
  have hJg := hJ g rfl
  subst hw'
  refine ⟨_, he, put_fr hg hJg _ _ _, rfl, .tup _ [] [] rfl (fun i u x hu _ => by simp at hu), _, rfl, ⟨?_, ?_⟩, fun g' hg' => ?_⟩
  · rw [List.all_eq_true]; intro x hx; obtain ⟨b, _, rfl⟩ := List.mem_map.1 hx; rfl
  · have hr := put_row hg hfz hnc hmax hfit (sortI c) (sortI_len c) c.length (Nat.le_refl _) q os
    rw [List.take_of_length_le (by rw [sortI_len]; exact Nat.le_refl _)] at hr
    refine ⟨_, by rw [List.length_map, sortI_len]; exact hr, fun x hx => by obtain ⟨b, _, rfl⟩ := List.mem_map.1 hx; rfl, row_of _, fun u hu => by obtain ⟨b, _, rfl⟩ := List.mem_map.1 hu; rfl⟩
  · exact .inr (by simp [blkOf] at hg'; exact hg' ▸ hJg)
theorem compact_le (c : List Int) : (Lib.compact c).length ≤ c.length := by
  unfold Lib.compact Lib.compactUpTo
  rw [List.length_map]
  refine Nat.le_trans (List.length_filter_le _ _) ?_
  simp
theorem compact_impl : Impl Tryz.prog 104 spCompact := by
  refine ⟨⟨_, Tryz.func104, by kernel_rfl, by kernel_rfl⟩, fun xs r hx vs w J ha => ?_⟩
  unfold spCompact at hx
  simp only at hx
  split at hx
  case h_2 => cases hx
  rename_i l
  obtain ⟨c, hc, h2⟩ := Option.bind_eq_some_iff.1 hx
  have e := mapM_eq (fun _ _ => i64Of_eq) hc
  subst e
  split at h2
  case isFalse => cases h2
  rename_i hh
  obtain ⟨hne, hsmall⟩ := hh
  cases h2
  obtain ⟨u, rfl, hr⟩ := one_arg ha
  obtain ⟨⟨us, ho, hcl, hp, h1⟩, hJ⟩ := hr
  have hus := ints_of hp
  subst hus
  rw [List.length_map] at ho
  rcases ho.2 with ⟨_, h0⟩ | ⟨g, o, cap, cur, fz, rfl, hg, hfz, hnc, hmax, hfit, htake⟩
  · exact absurd (List.eq_nil_of_length_eq_zero h0) hne
  have hH := holds_of hg hfz hnc hfit htake rfl
  refine (Tryz.slices_Compact_int g o cap c w hH (by omega) hnc).mono fun e w' ⟨he, q, hw'⟩ => ?_
  have hJg := hJ g rfl
  have hle := compact_le c
  have hw2 : w' = grow (Go.Sort.putRow (Value.int .i64) (Sort.ahead w q) g o (Lib.compact c ++ List.replicate (c.length - (Lib.compact c).length) 0).toArray) #[] := by rw [grow_empty]; exact hw'
  subst hw2
  refine ⟨_, he, put_fr hg hJg _ _ _, ?_, fun g' hg' => ?_⟩
  · have hr := put_row hg hfz hnc hmax hfit (Lib.compact c ++ List.replicate (c.length - (Lib.compact c).length) 0) (by simp; omega) (Lib.compact c).length hle q #[]
    rw [List.take_left' rfl] at hr
    refine ⟨_, by rw [List.length_map]; exact hr, fun x hx => by obtain ⟨b, _, rfl⟩ := List.mem_map.1 hx; rfl, row_of _, fun u hu => by obtain ⟨b, _, rfl⟩ := List.mem_map.1 hu; rfl⟩
  · exact .inr (by simp [blkOf] at hg'; exact hg' ▸ hJg)

def spSearch : Spec := ⟨[], fun xs => match xs with
  | [.lst _ 1 l, .s (.int .i64 v)] => (l.mapM i64Of).bind fun c => if c.length ≤ 1000000 ∧ (c.mergeSort fun x y => decide (x ≤ y)) = c then some (.tup [.s (.int .i64 (c.countP (· < v) : Nat)), .s (.bool (c.contains v))]) else none
  | _ => none⟩
theorem spSearch_mv : spSearch.mv = [] := rfl
theorem search_impl : Impl Tryz.prog 80 spSearch := by
  refine ⟨⟨_, Tryz.func80, by kernel_rfl, by kernel_rfl⟩, fun xs r hx vs w J ha => ?_⟩
  unfold spSearch at hx
  simp only at hx
  split at hx
  case h_2 => cases hx
  rename_i k l v
  obtain ⟨c, hc, h2⟩ := Option.bind_eq_some_iff.1 hx
  have e := mapM_eq (fun _ _ => i64Of_eq) hc
  subst e
  split at h2
  case isFalse => cases h2
  rename_i hh
  obtain ⟨hsmall, hsort⟩ := hh
  cases h2
  obtain ⟨u, us', hv, hr, hn⟩ := ha.pw.uncons
  obtain ⟨u2, us2, rfl, hr2, hn2⟩ := hn.uncons
  have := hn2.nil_r
  subst this
  have hr2' : RC w J (Fresh w J) false u2 (.s (.int .i64 v)) := hr2
  have hu2 : u2 = .int .i64 v := by cases hr2'; rfl
  subst hu2
  have hvs : vs = #[u, .int .i64 v] := by apply Array.toList_inj.1; rw [hv]
  subst hvs
  have hr' : RC w J (Fresh w J) false u (.lst k 1 (c.map iv)) := hr
  have fin : ∀ (w' : World) (q : Nat), w' = w.drewN q → Fr w J w' := fun w' q hq => by
    subst hq
    exact ⟨rfl, rfl, rfl, Nat.le_refl _, fun k hk _ => rfl⟩
  have res : ∀ (w' : World) (n : Nat) (b : Bool), PostR w J w' #[u, .int .i64 v] (.tuple #[.int .i64 n, .bool b]) (.tup [.s (.int .i64 n), .s (.bool b)]) := fun w' n b => by
    show RC w' (fun _ => False) (Fresh w J) true _ _
    refine .tup true [.int .i64 n, .bool b] _ rfl fun i u x hu hx => ?_
    match i with
    | 0 => cases hu; cases hx; exact .s _ _
    | 1 => cases hu; cases hx; exact .s _ _
    | i + 2 => simp at hu
  cases hr' with
  | lst _ _ _ _ A cp us hcp hcl hl he h1 hrd =>
    have hus : us = c.map (Value.int .i64) := by
      have hf : flat (c.map iv) = c.map iv := flat_s _ fun x hx => by obtain ⟨b, _, rfl⟩ := List.mem_map.1 hx; rfl
      rw [hf] at hl he
      apply List.ext_getElem?
      intro i
      cases hi : us[i]? with
      | none =>
        have : us.length ≤ i := List.getElem?_eq_none_iff.1 hi
        rw [List.getElem?_eq_none (by rw [List.length_map]; rw [List.length_map] at hl; omega)]
      | some u =>
        have hlt : i < (c.map iv).length := by rw [← hl]; exact (List.getElem?_eq_some_iff.1 hi).1
        have hr := he i u _ hi (List.getElem?_eq_getElem hlt)
        rw [List.getElem_map] at hr
        have hr' : RC w J (Fresh w J) false u (.s (.int .i64 (c[i]'(by simpa using hlt)))) := hr
        rw [List.getElem?_map, List.getElem?_eq_getElem (by simpa using hlt)]
        cases hr'; rfl
    subst hus
    rcases hrd with hrd | ⟨g, o, rfl, _, _, hcell⟩
    · have hc0 : c = [] := by simpa using hrd
      subst hc0
      refine (Tryz.slices_BinarySearch_int_empty A cp v w).mono fun e w' ⟨he, hw'⟩ => ?_
      exact ⟨_, he, fin w' 0 (by rw [hw']; rfl), res w' 0 false⟩
    · rw [List.length_map]
      refine (Tryz.slices_BinarySearch_int g o c.length cp c v w (Nat.le_refl _) (by omega) (fun j hj => ?_) ?_).mono fun e w' ⟨he, q, hw'⟩ => ?_
      · rw [hcell j (.int .i64 c[j]) (by rw [List.getElem?_map, List.getElem?_eq_getElem hj]; rfl), List.getD_eq_getElem?_getD, List.getElem?_eq_getElem hj]; rfl
      · rw [List.take_length, ← hsort]
        exact (List.pairwise_mergeSort (le := fun x y => decide (x ≤ y)) (fun a b c h1 h2 => by simp at *; omega) (fun a b => by simp; omega) c).imp fun h => by simpa using h
      · rw [List.take_length] at he
        exact ⟨_, he, fin w' q hw', res w' _ _⟩

end Go.Proofs.YtkfmecmmbnehjaaGreat
