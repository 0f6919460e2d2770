/-
Small lemmas about slices that are read or owned, used by all walks of this seat: no condition of their own.
-/
import Derived.WalkKit
import Derived.WalkSpells
import Derived.WalkLawsBesides
import Derived.Maps.AppendAt

import Derived.Deep.DeepCutAuto
import Derived.Deep.RegionHeld3
import Derived.Deep.RegionLaw
import Derived.Deep.QuietTactic
import Derived.BigQuiet
import Derived.ProofKit
import Derived.OpenShut
namespace Go.Proofs.YtalcmfmhifcaeaaGreat
set_option linter.unusedSimpArgs false
set_option linter.unusedVariables false
open Go.RowKit

/-- the cells behind a slice's address read as vs -/
def Rd (w : World) (A : Option Addr) (vs : List Value) : Prop :=
  vs = [] ∨ ∃ b off, A = some ⟨b, off, none⟩ ∧ ∀ j v, vs[j]? = some v → w.cell? ⟨b, off + j, none⟩ = some v

theorem Rd.nil (w : World) (A : Option Addr) : Rd w A [] := .inl rfl

theorem cell_below {w w' : World} (h : Below w.heap.size w w') {a : Addr} {v : Value} (hc : w.cell? a = some v) : w'.cell? a = some v :=
  (h.cell (World.block_lt_of_cell? w a hc)).trans hc

theorem Rd.below {w w' : World} {A : Option Addr} {vs : List Value} (h : Rd w A vs) (hb : Below w.heap.size w w') : Rd w' A vs := by
  rcases h with h | ⟨b, off, rfl, hc⟩
  · exact .inl h
  · exact .inr ⟨b, off, rfl, fun j v hv => cell_below hb (hc j v hv)⟩

theorem below_tr {w w1 w2 : World} (h : Below w.heap.size w w1) (k : Below w1.heap.size w1 w2) : Below w.heap.size w w2 :=
  h.trans (k.mono h.size)
theorem below_dr {B : Nat} {w W : World} (h : Below B w W) (n : Nat) : Below B w (W.drewN n) := ⟨h.os, h.tape, h.output, h.size, h.block⟩
theorem below_al {w w1 : World} (h : Below w.heap.size w w1) (o : Obj) : Below w.heap.size w (w1.alloc o) := h.alloc h.size o

/-- one cell of it -/
theorem Rd.at_ {w : World} {A : Option Addr} {vs : List Value} (h : Rd w A vs) (hp : 0 < vs.length) :
    ∃ b off, A = some ⟨b, off, none⟩ ∧ ∀ j v, vs[j]? = some v → w.cell? ⟨b, off + j, none⟩ = some v := by
  rcases h with rfl | h
  · simp at hp
  · exact h

theorem own_rd {w : World} {base n : Nat} {e : TypeId} {size : Nat} {v : Value} {xs : List Value} (h : w.ownsRow base e size v n xs) :
    ∃ A c, v = .slice A n c ∧ Rd w A xs ∧ n ≤ c ∧ n ≤ 9223372036854775807 := by
  have hx := h.1
  rcases h.2 with ⟨rfl, rfl⟩ | ⟨g, cap, cur, rfl, h1, h2, h3, h4, h5, h6⟩
  · refine ⟨none, 0, rfl, .inl ?_, by omega, by omega⟩
    simpa using hx
  · refine ⟨_, cap, rfl, .inr ⟨g, 0, rfl, fun j u hu => ?_⟩, h3, by simp only [maxLen] at h4; omega⟩
    have := h.cells (g := g) rfl j u hu
    have ha : (⟨g, 0, none⟩ : Addr).add j = ⟨g, 0 + j, none⟩ := by unfold Addr.add; split <;> simp_all
    rwa [ha] at this

theorem own_below {w w1 : World} {base : Nat} {e : TypeId} {size n : Nat} {v : Value} {xs : List Value} (h : w.ownsRow base e size v n xs) (hb : Below w.heap.size w w1) : w1.ownsRow base e size v n xs :=
  h.kept ⟨hb.os, hb.tape, hb.output, hb.size, fun i hi _ => hb.block i hi⟩ (row := none) (by cases v.ownBlock <;> simp)
theorem own_base {w : World} {base : Nat} {e : TypeId} {size n : Nat} {v : Value} {xs : List Value} (h : w.ownsRow base e size v n xs) (k : Nat) (hk : v.ownBlock = some k) : base ≤ k := (h.lt k hk).1
theorem own_mono {w : World} {base base' : Nat} {e : TypeId} {size n : Nat} {v : Value} {xs : List Value} (h : w.ownsRow base e size v n xs) (hb : base' ≤ base) : w.ownsRow base' e size v n xs := by
  refine ⟨h.1, ?_⟩
  rcases h.2 with h' | ⟨g, cap, cur, h0, h1, h2⟩
  · exact .inl h'
  · exact .inr ⟨g, cap, cur, h0, by omega, h2⟩
theorem own_nil (w : World) (base : Nat) (e : TypeId) (size : Nat) : w.ownsRow base e size (.slice none 0 0) 0 [] := World.ownsRow_nil w base e size

theorem rd_add {w : World} {A : Option Addr} {vs : List Value} {ad : Addr} (h : Rd w A vs) (e : A = some ad) : ∀ j u, vs[j]? = some u → w.cell? (ad.add j) = some u := by
  intro j u hu
  rcases h with rfl | ⟨b, off, hA, hc⟩
  · simp at hu
  · rw [e] at hA
    injection hA with hA
    subst hA
    have ha : (⟨b, off, none⟩ : Addr).add j = ⟨b, off + j, none⟩ := by unfold Addr.add; split <;> simp_all
    rw [ha]
    exact hc j u hu

/-- the type and the two arguments of an append -/
def appArgs (o : Oper) (a : Act) : Option (TypeId × Value × Value) :=
  match o.op with
  | .call c => match c.callee, c.args.toList, c.argTypes.toList with
    | .builtin .append, [s, x], [t, u] => if t = u then some (t, a.eval s, a.eval x) else none
    | _, _, _ => none
  | _ => none
theorem appArgs_spec {o : Oper} {a : Act} {t : TypeId} {v y : Value} (h : appArgs o a = some (t, v, y)) :
    ∃ s x, o.op = .call { callee := .builtin .append, args := #[s, x], argTypes := #[t, t] } ∧ a.eval s = v ∧ a.eval x = y := by
  unfold appArgs at h
  split at h
  · rename_i c hc
    obtain ⟨c1, c2, c3⟩ := c
    obtain ⟨c2⟩ := c2
    obtain ⟨c3⟩ := c3
    simp only at h
    split at h
    · rename_i s x t' u
      split at h
      · rename_i htu
        subst htu
        simp only [Option.some.injEq, Prod.mk.injEq] at h
        obtain ⟨rfl, rfl, rfl⟩ := h
        exact ⟨s, x, hc, rfl, rfl⟩
      · cases h
    · cases h
  · cases h

section
variable {P : Program}
/-- append of anything readable onto a row of one's own -/
theorem run_append_rd (w : World) (base : Nat) (t ty e : TypeId) (z : Value) (size bytes : Nat) (ht : P.underlying t = some (.slice e))
    (hinfo : (P.info? e).map (fun i => (i.zero, i.size, i.bytes)) = some (some z, size, bytes)) (hzs : z.cells.size = size) (hsz : 0 < size) (hb0 : 0 < bytes)
    (v : Value) (n : Nat) (xs : List Value) (hown : w.ownsRow base e size v n xs)
    (A : Option Addr) (m c : Nat) (ys : List Value) (hr : Rd w A ys) (hl : ys.length = m * size) (h1 : ∀ u ∈ ys, u.oneCell' = true)
    (hbytes : (n + m) * bytes ≤ 140737488355328) (hbase : base ≤ w.heap.size) :
    ∃ v' w', (Builtin.append_ #[t, t] ty #[v, .slice A m c]).run P w = .ok v' w' ∧ w'.ownsRow base e size v' (n + m) (xs ++ ys) ∧ w.grownBy w' v.ownBlock ∧
      (v'.ownBlock = v.ownBlock ∨ v'.ownBlock = some w.heap.size) := by
  obtain ⟨i, hi, hzz⟩ := Option.map_eq_some_iff.1 hinfo
  simp only [Prod.mk.injEq] at hzz
  obtain ⟨hz0, hz1, hz2⟩ := hzz
  have hm' : n + m ≤ 140737488355328 := Nat.le_trans (Nat.le_mul_of_pos_right _ hb0) hbytes
  rcases A with _ | ad
  · have h0 : ys = [] := by
      rcases hr with h | ⟨b, off, h, _⟩
      · exact h
      · cases h
    subst h0
    have hm0 : m = 0 := by
      have : m * size = 0 := by simpa using hl.symm
      rcases Nat.mul_eq_zero.1 this with h | h
      · exact h
      · omega
    subst hm0
    refine ⟨v, w, ?_, by simpa using hown, World.grownBy.refl w _, .inl rfl⟩
    rcases hown.2 with ⟨rfl, hn⟩ | ⟨g, cap, cur, rfl, _, _, hnc, _⟩
    · simp [Builtin.append_, run_underlying ht, sizeOf, typeInfo, hi, Builtin.lenOf, Builtin.firstCells]
    · simp [Builtin.append_, run_underlying ht, sizeOf, typeInfo, hi, Builtin.lenOf, Builtin.firstCells, hnc, storeCells]
  · obtain ⟨v1, w1, hr', h2, h3, _, h5⟩ := run_append_own_at (P := P) w base t ty e i z size bytes ht hi hz0 hz1 hz2 hzs hsz v n xs hown ad m c ys hl (rd_add hr rfl) h1
      (by simp only [maxLen]; omega) hbytes hbase
    exact ⟨v1, w1, hr', h2, h3, h5⟩

theorem wpl_append {w : World} {ops : Array Oper} {rest : List Oper} {o : Oper} {a : Act} {Q : Exit → Act → World → Prop} (base : Nat) (hgd : o.guard = none) (t e : TypeId) (z : Value) (size bytes : Nat)
    (ht : P.underlying t = some (.slice e))
    (hinfo : (P.info? e).map (fun i => (i.zero, i.size, i.bytes)) = some (some z, size, bytes)) (hzs : z.cells.size = size) (hsz : 0 < size) (hb0 : 0 < bytes)
    (v : Value) (n : Nat) (xs : List Value) (hown : w.ownsRow base e size v n xs)
    (A : Option Addr) (m c : Nat) (ys : List Value) (hop : appArgs o a = some (t, v, .slice A m c)) (hr : Rd w A ys) (hl : ys.length = m * size) (h1 : ∀ u ∈ ys, u.oneCell' = true)
    (hbytes : (n + m) * bytes ≤ 140737488355328) (hbase : base ≤ w.heap.size)
    (h : ∀ v' w', w'.ownsRow base e size v' (n + m) (xs ++ ys) → w.grownBy w' v.ownBlock → (v'.ownBlock = v.ownBlock ∨ v'.ownBlock = some w.heap.size) → wpList P ops Q rest (a.put o.dst v') w') :
    wpList P ops Q (o :: rest) a w := by
  obtain ⟨s, x, ho, hs, hx⟩ := appArgs_spec hop
  obtain ⟨v1, w1, hr', h2, h3, h5⟩ := run_append_rd w base t o.type e z size bytes ht hinfo hzs hsz hb0 v n xs hown A m c ys hr hl h1 hbytes hbase
  refine wpList_plain hgd fun K hK => ?_
  unfold Oper.wp execOp
  simp only [ho, resolve, invoke, builtin, Sem.run_bind, Sem.run_pure, Result.andThen_ok, List.map_toArray, List.map_cons, List.map_nil, hs, hx, hr']
  exact hK _ _ (h v1 w1 h2 h3 h5)
end

section
variable {P : Program}
/-- the same as a step of a region -/
theorem st_append {w : World} {o : Oper} {a : Act} {K : Act → World → Prop} {Q : Exit → Act → World → Prop} (base : Nat) (t e : TypeId) (z : Value) (size bytes : Nat)
    (ht : P.underlying t = some (.slice e))
    (hinfo : (P.info? e).map (fun i => (i.zero, i.size, i.bytes)) = some (some z, size, bytes)) (hzs : z.cells.size = size) (hsz : 0 < size) (hb0 : 0 < bytes)
    (v : Value) (n : Nat) (xs : List Value) (hown : w.ownsRow base e size v n xs)
    (A : Option Addr) (m c : Nat) (ys : List Value) (hop : appArgs o a = some (t, v, .slice A m c)) (hr : Rd w A ys) (hl : ys.length = m * size) (h1 : ∀ u ∈ ys, u.oneCell' = true)
    (hbytes : (n + m) * bytes ≤ 140737488355328) (hbase : base ≤ w.heap.size)
    (h : ∀ v' w', w'.ownsRow base e size v' (n + m) (xs ++ ys) → w.grownBy w' v.ownBlock → (v'.ownBlock = v.ownBlock ∨ v'.ownBlock = some w.heap.size) → K (a.put o.dst v') w') :
    o.wp P a w K Q := by
  obtain ⟨s, x, ho, hs, hx⟩ := appArgs_spec hop
  obtain ⟨v1, w1, hr', h2, h3, h5⟩ := run_append_rd w base t o.type e z size bytes ht hinfo hzs hsz hb0 v n xs hown A m c ys hr hl h1 hbytes hbase
  unfold Oper.wp execOp
  simp only [ho, resolve, invoke, builtin, Sem.run_bind, Sem.run_pure, Result.andThen_ok, List.map_toArray, List.map_cons, List.map_nil, hs, hx, hr']
  exact h v1 w1 h2 h3 h5
end

section
variable {P : Program}
/-- append(nil, xs...) -/
theorem st_clone {w : World} {o : Oper} {a : Act} {K : Act → World → Prop} {Q : Exit → Act → World → Prop} (t e : TypeId) (z : Value) (size bytes : Nat)
    (ht : P.underlying t = some (.slice e))
    (hinfo : (P.info? e).map (fun i => (i.zero, i.size, i.bytes)) = some (some z, size, bytes)) (hzs : z.cells.size = size) (hsz : 0 < size) (hb0 : 0 < bytes)
    (A : Option Addr) (m c : Nat) (ys : List Value) (hop : appArgs o a = some (t, .slice none 0 0, .slice A m c)) (hr : Rd w A ys) (hl : ys.length = m * size) (h1 : ∀ u ∈ ys, u.oneCell' = true)
    (hbytes : m * bytes ≤ 140737488355328)
    (h : ∀ A' c' w', Rd w' A' ys → w'.ownsRow w.heap.size e size (.slice A' m c') m ys → Below w.heap.size w w' → K (a.put o.dst (.slice A' m c')) w') :
    o.wp P a w K Q := by
  refine st_append w.heap.size t e z size bytes ht hinfo hzs hsz hb0 _ 0 [] (own_nil _ _ _ _) A m c ys hop hr hl h1 (by simpa using hbytes) (Nat.le_refl _) ?_
  intro v' w' o' g' b'
  rw [Nat.zero_add, List.nil_append] at o'
  obtain ⟨A', c', rfl, r', _⟩ := own_rd o'
  exact h A' c' w' r' o' ((Below.refl _ _).grown g' (Nat.le_refl _) (by intro k hk; simp [Value.ownBlock] at hk))
end

/-- numbers of one kind as cells -/
def nums (k : IntKind) (xs : List Int) : List Value := xs.map (Value.int k)
@[simp] theorem nums_length (k : IntKind) (xs : List Int) : (nums k xs).length = xs.length := by simp [nums]
theorem nums_append (k : IntKind) (xs ys : List Int) : nums k (xs ++ ys) = nums k xs ++ nums k ys := by simp [nums]
theorem nums_get (k : IntKind) (xs : List Int) (j : Nat) (h : j < xs.length) : (nums k xs)[j]? = some (.int k (xs.getD j 0)) := by
  simp [nums, List.getElem?_eq_getElem h, List.getD_eq_getElem?_getD]
theorem nums_one (k : IntKind) (xs : List Int) : ∀ u ∈ nums k xs, u.oneCell' = true := by
  intro u hu
  simp only [nums, List.mem_map] at hu
  obtain ⟨q, _, rfl⟩ := hu
  rfl
theorem nums_inj {k : IntKind} {xs ys : List Int} (h : nums k xs = nums k ys) : xs = ys := by
  unfold nums at h
  induction xs generalizing ys with
  | nil => cases ys with
    | nil => rfl
    | cons y ys => simp at h
  | cons x xs ih => cases ys with
    | nil => simp at h
    | cons y ys =>
      simp only [List.map_cons, List.cons.injEq, Value.int.injEq, true_and] at h
      rw [h.1, ih h.2]

/-- a block just laid is read -/
theorem rd_new (w : World) (cs : List Value) (e : TypeId) : Rd (w.alloc (.cells cs.toArray e)) (some ⟨w.heap.size, 0, none⟩) cs := by
  refine .inr ⟨_, 0, rfl, fun j v hv => ?_⟩
  simp only [World.cell?, heap_alloc_new]
  simpa using hv

theorem conv_rd {P : Program} {w : World} {A : Option Addr} {xs : List Int} {n c : Nat} (h : Rd w A (nums .u8 xs)) (hn : xs.length = n) (src e : TypeId) (hs : P.underlying src = some (.slice e)) (he : P.underlying e = some (.int .u8)) (dst : TypeId) (hd : P.underlying dst = some .string) :
    (convert src dst (.slice A n c)).run P w = .ok (.string (strOfNums xs)) w := by
  subst hn
  rcases h with h | ⟨b, off, rfl, hc⟩
  · have : xs = [] := by simpa [nums] using h
    subst this
    rw [run_convert_bytes_string w src dst e _ _ c hs he hd]
    rcases A with _ | a
    · simp [Conv.bytesToString]; rfl
    · simp [Conv.bytesToString, loadCells, loadCellsFrom]; rfl
  · exact run_convert_bytes_arg w src e hs he b off xs.length c xs rfl (fun i hi => hc i _ (nums_get .u8 xs i hi)) dst hd

theorem rd_of_row {w : World} {a : Addr} {k : IntKind} {zs : List Int} {len : Nat} (hl : len ≤ zs.length) (h : ∀ i, i < zs.length → w.cell? (a.add i) = some (.int k (zs.getD i 0))) : Rd w (some a) (nums k (zs.take len)) := by
  rcases Nat.eq_zero_or_pos zs.length with h0 | hp
  · left
    have : zs = [] := List.eq_nil_of_length_eq_zero h0
    simp [this, nums]
  · obtain ⟨b, off, rfl, hc⟩ := ints_at h hp
    refine .inr ⟨b, off, rfl, fun j v hv => ?_⟩
    have hj : j < (zs.take len).length := by
      rcases Nat.lt_or_ge j (zs.take len).length with h | h
      · exact h
      · rw [List.getElem?_eq_none (by simpa [nums] using h)] at hv; cases hv
    rw [nums_get k _ j hj] at hv
    have hlen : j < len ∧ j < zs.length := by rw [List.length_take] at hj; omega
    have e : (zs.take len).getD j 0 = zs.getD j 0 := by simp [List.getD_eq_getElem?_getD, List.getElem?_take, hlen.1]
    rw [e] at hv
    rw [hc j hlen.2]
    exact hv

/-- a slice of integers that came in -/
theorem open_ints_rd {H : Type} {enc : TypeId × Value → H} {P : Program} {W : World} {t e : TypeId} {k : IntKind} {A : Option Addr} {n c : Nat} {d : DataW H} {p : List MemPlace}
    (ht : P.underlying t = some (.slice e)) (he : P.underlying e = some (.int k)) (hc : P.cellsOf e = 1)
    (h : DataW.Trod enc P W 0 (fun _ => true) true t (.slice A n c) d p) :
    ∃ xs : List Int, xs.length = n ∧ n ≤ 9223372036854775807 ∧ Rd W A (nums k xs) ∧ ∀ x ∈ xs, (Lit.int k x).wf = true := by
  obtain ⟨fuel, hf⟩ := h
  rcases Go.ChangeShapes.open_ints ht he hc hf with ⟨hcs, _⟩ | ⟨x, l, c', zs, hcs, _, hl, hm, hz, _, hcell, hwz⟩
  · simp [Value.cells] at hcs
    obtain ⟨rfl, rfl, rfl⟩ := hcs
    exact ⟨[], rfl, by omega, .inl rfl, fun x hx => by cases hx⟩
  · simp [Value.cells] at hcs
    obtain ⟨rfl, rfl, rfl⟩ := hcs
    have hz' : zs.length = c := by simpa using hz
    simp only [maxLen] at hm
    exact ⟨zs.take n, by rw [List.length_take]; omega, by omega, rd_of_row (by omega) hcell, fun y hy => hwz y (List.mem_of_mem_take hy)⟩

theorem wf_u32 {x : Int} (h : (Lit.int .u32 x).wf = true) : 0 ≤ x ∧ x < 4294967296 := by
  have := bounds_u32 h
  omega
theorem wf_u8 {x : Int} (h : (Lit.int .u8 x).wf = true) : 0 ≤ x ∧ x < 256 := by
  have := bounds_u8 h
  omega
theorem wf_i64 {x : Int} (h : (Lit.int .i64 x).wf = true) : -9223372036854775808 ≤ x ∧ x < 9223372036854775808 := by
  have := bounds_i64 h
  omega

theorem bcell {W w1 : World} (hb : Below W.heap.size W w1) : (∀ b o, b < W.heap.size → w1.cell? ⟨b, o, none⟩ = W.cell? ⟨b, o, none⟩) ∧ (∀ b o, b < W.heap.size → w1.frozen? ⟨b, o, none⟩ = W.frozen? ⟨b, o, none⟩) :=
  ⟨fun b o h => hb.cell (p := ⟨b, o, none⟩) h, fun b o h => hb.frozen (p := ⟨b, o, none⟩) h⟩

theorem hid {p : Prop} (h : p) : Hid p := h

/-- two worlds that differ in draws alone -/
def Eqw (W1 W : World) : Prop := W1.os = W.os ∧ W1.tape = W.tape ∧ W1.output = W.output ∧ W1.heap = W.heap
theorem bl_grown {B : Nat} {w W W1 w3 : World} {row : Option Nat} (hb : Below B w W) (g : W1.grownBy w3 row) (h : Eqw W1 W) (hB : B ≤ W.heap.size) (hr : ∀ k, row = some k → B ≤ k) : Below B w w3 := by
  obtain ⟨h1, h2, h3, h4⟩ := h
  have hb1 : Below B w W1 := ⟨h1.trans hb.os, h2.trans hb.tape, h3.trans hb.output, by rw [h4]; exact hb.size, fun k hk => by rw [h4]; exact hb.block k hk⟩
  exact hb1.grown g (by rw [h4]; exact hB) hr
theorem bl_call {w W W1 w3 : World} (hb : Below w.heap.size w W) (k : Below W1.heap.size W1 w3) (h : Eqw W1 W) : Below w.heap.size w w3 := by
  obtain ⟨h1, h2, h3, h4⟩ := h
  have hb1 : Below w.heap.size w W1 := ⟨h1.trans hb.os, h2.trans hb.tape, h3.trans hb.output, by rw [h4]; exact hb.size, fun k hk => by rw [h4]; exact hb.block k hk⟩
  exact below_tr hb1 k
theorem bl_eq {B : Nat} {w W W1 : World} (hb : Below B w W) (h : Eqw W1 W) : Below B w W1 := by
  obtain ⟨h1, h2, h3, h4⟩ := h
  exact ⟨h1.trans hb.os, h2.trans hb.tape, h3.trans hb.output, by rw [h4]; exact hb.size, fun k hk => by rw [h4]; exact hb.block k hk⟩
/-- a new row leaves all that was there -/
theorem grown_below {W w3 : World} {row : Option Nat} (g : W.grownBy w3 row) (hr : row = none) : Below W.heap.size W w3 := by
  subst hr
  exact ⟨g.os, g.tape, g.output, g.size, fun k hk => g.block k hk (by simp)⟩

/-- all that stood in w0 stands in W -/
def Ext (w0 W : World) : Prop := Below w0.heap.size w0 W
theorem Ext.refl (w : World) : Ext w w := Below.refl _ _
theorem Ext.drew (w : World) : Ext w w.drew := Below.drew (Below.refl _ _)
theorem Ext.tr {w0 W W1 w' : World} (h : Ext w0 W) (k : Below W1.heap.size W1 w') (e : Eqw W1 W) : Ext w0 w' := bl_call h k e
theorem Ext.eq {w0 W W1 : World} (h : Ext w0 W) (e : Eqw W1 W) : Ext w0 W1 := bl_eq h e
theorem Ext.below {w w0 W : World} (b : Below w.heap.size w w0) (h : Ext w0 W) : Below w.heap.size w W := below_tr b h
theorem ext_cell {w0 : World} {a : Addr} {v : Value} (h : w0.cell? a = some v) : ∀ W, Ext w0 W → W.cell? a = some v := fun _ hW => cell_below hW h
theorem ext_rd {w0 : World} {A : Option Addr} {vs : List Value} (h : Rd w0 A vs) : ∀ W, Ext w0 W → Rd W A vs := fun _ hW => h.below hW

/-- the world but for draws -/
def Drw (w w' : World) : Prop := ∃ n, w' = w.drewN n
theorem Drw.refl (w : World) : Drw w w := ⟨0, rfl⟩
theorem Drw.same {w w' : World} (h : w = w') : Drw w w' := ⟨0, h.symm⟩
theorem Drw.below {w w' : World} (h : Drw w w') : Below w.heap.size w w' := by
  obtain ⟨n, rfl⟩ := h
  exact below_dr (Below.refl _ _) n

end Go.Proofs.YtalcmfmhifcaeaaGreat
