/-
Rows of one's own, from any place of their block on: what they hold, and how they grow. No condition.
-/
import Derived.Test.YtbmgaebhcomjaaaLib
import Derived.Laws.AppendOwn
namespace Go.Proofs.Ytbmgaebhcomjaaa
set_option linter.unusedSimpArgs false
set_option linter.unusedVariables false

/-- a mark of bytes that a text may share lies behind the last cell at most -/
def Harmless (fz : Nat × Nat) (k : Nat) : Prop := fz = (0, 0) ∨ fz = (k, k + 1)

/-- the slice has these cells, and nothing else has them -/
def OwnRow (w : World) (e sz : Nat) (v : Value) (n : Nat) (us : List Value) : Prop :=
  us.length = n * sz ∧ ((v = .slice none 0 0 ∧ n = 0) ∨ ∃ g o cap cur fz, v = .slice (some ⟨g, o, none⟩) n cap ∧ w.heap[g]? = some (.cells cur e fz) ∧ Harmless fz cur.size ∧ n ≤ cap ∧ cap ≤ maxLen ∧
    o + cap * sz ≤ cur.size ∧ (cur.toList.drop o).take (n * sz) = us)

def blkOf : Value → Option Nat
  | .slice (some a) _ _ => some a.block
  | .pointer (some a) => some a.block
  | _ => none

section
variable {w w' : World} {e sz n : Nat} {v : Value} {us : List Value}
theorem OwnRow.nil (w : World) (e sz : Nat) : OwnRow w e sz (.slice none 0 0) 0 [] := ⟨by simp, .inl ⟨rfl, rfl⟩⟩
theorem OwnRow.of (h : w.ownsRow 0 e sz v n us) : OwnRow w e sz v n us := by
  refine ⟨h.1, ?_⟩
  rcases h.2 with h' | ⟨g, cap, cur, h1, _, h2, h3, h4, h5, h6⟩
  · exact .inl h'
  · exact .inr ⟨g, 0, cap, cur, (0, 0), h1, h2, .inl rfl, h3, h4, by omega, by simpa using h6⟩
theorem OwnRow.same (h : OwnRow w e sz v n us) (hs : ∀ g, blkOf v = some g → w'.heap[g]? = w.heap[g]?) : OwnRow w' e sz v n us := by
  refine ⟨h.1, ?_⟩
  rcases h.2 with h' | ⟨g, o, cap, cur, fz, rfl, h2, h3⟩
  · exact .inl h'
  · exact .inr ⟨g, o, cap, cur, fz, rfl, (hs g rfl).trans h2, h3⟩
theorem OwnRow.lt (h : OwnRow w e sz v n us) {g : Nat} (hg : blkOf v = some g) : g < w.heap.size := by
  rcases h.2 with ⟨rfl, _⟩ | ⟨g', o, cap, cur, fz, rfl, h2, h3⟩
  · simp [blkOf] at hg
  · simp [blkOf] at hg
    subst hg
    exact (Array.getElem?_eq_some_iff.1 h2).1
theorem OwnRow.cells (h : OwnRow w e sz v n us) {g o c : Nat} (hv : v = .slice (some ⟨g, o, none⟩) n c) : ∀ j u, us[j]? = some u → w.cell? ⟨g, o + j, none⟩ = some u := by
  intro j u hj
  rcases h.2 with ⟨h', _⟩ | ⟨g', o', cap, cur, fz, h1, h2, _, _, _, _, h6⟩
  · rw [h'] at hv; cases hv
  · rw [h1] at hv
    cases hv
    rw [← h6, List.getElem?_take] at hj
    split at hj
    · rw [List.getElem?_drop] at hj
      simp only [World.cell?, h2]
      simpa using hj
    · cases hj
theorem OwnRow.val (h : OwnRow w e sz v n us) : (v = .slice none 0 0 ∧ n = 0) ∨ ∃ g o cap, v = .slice (some ⟨g, o, none⟩) n cap ∧ n ≤ cap := by
  rcases h.2 with h' | ⟨g, o, cap, cur, fz, h1, h2, h3, h4, _⟩
  · exact .inl h'
  · exact .inr ⟨g, o, cap, h1, h4⟩
theorem OwnRow.one (h : OwnRow w e sz v n us) : v.oneCell' = true := by
  rcases h.2 with ⟨rfl, _⟩ | ⟨g, o, cap, cur, fz, rfl, _⟩ <;> rfl
/-- where the part of a row from an element on lies -/
def PartOf (sz i : Nat) (v0 v : Value) : Prop :=
  (v0 = .slice none 0 0 ∧ v = .slice none 0 0) ∨ ∃ g o n cap len o', v0 = .slice (some ⟨g, o, none⟩) n cap ∧ v = .slice (some ⟨g, o', none⟩) len (cap - i) ∧ i ≤ cap ∧ (o' = o + i * sz ∨ (cap = i ∧ o' ≤ o + i * sz))
/-- a part of it is one, too -/
theorem OwnRow.part (h : OwnRow w e sz v n us) {i j : Nat} (hij : i + j ≤ n) {A : Option Addr} {cp : Nat} (hv : PartOf sz i v (.slice A j cp)) : OwnRow w e sz (.slice A j cp) j ((us.drop (i * sz)).take (j * sz)) := by
  have hl : ((us.drop (i * sz)).take (j * sz)).length = j * sz := by
    rw [List.length_take, List.length_drop, h.1]
    have := Nat.mul_le_mul_right sz hij
    rw [Nat.add_mul] at this
    omega
  refine ⟨hl, ?_⟩
  rcases h.2 with ⟨h', hn⟩ | ⟨g', o', cap', cur, fz, h1, h2, h3, h4, h5, h6, h7⟩
  · rcases hv with ⟨_, hv⟩ | ⟨g, o, m, cap, len, o2, hv, _⟩
    · cases hv
      exact .inl ⟨rfl, rfl⟩
    · rw [h'] at hv; cases hv
  · rcases hv with ⟨hv, _⟩ | ⟨g, o, m, cap, len, o2, hv, hv2, hic, hA⟩
    · rw [h1] at hv; cases hv
    · rw [h1] at hv
      cases hv
      cases hv2
      have hmul := Nat.mul_le_mul_right sz (show i + (cap' - i) ≤ cap' by omega)
      rw [Nat.add_mul] at hmul
      have hmn := Nat.mul_le_mul_right sz hij
      rw [Nat.add_mul] at hmn
      rcases hA with rfl | ⟨rfl, hA⟩
      · refine .inr ⟨g', _, _, cur, fz, rfl, h2, h3, by omega, by omega, by omega, ?_⟩
        rw [← h7, List.drop_take, List.drop_drop, List.take_take, Nat.min_eq_left (by omega)]
      · have hj : j = 0 := by omega
        subst hj
        exact .inr ⟨g', o2, _, cur, fz, rfl, h2, h3, by omega, by omega, by simp; omega, by simp⟩

theorem frozen_harmless {cur : Array Value} {fz : Nat × Nat} {g i : Nat} (hg : w.heap[g]? = some (.cells cur e fz)) (hf : Harmless fz cur.size) (hi : i < cur.size) : w.frozen? ⟨g, i, none⟩ = false := by
  simp only [World.frozen?, hg]
  rcases hf with rfl | rfl
  · simp
  · simp; omega

theorem run_storeCells_h (P : Program) (g o : Nat) (t : TypeId) (fz : Nat × Nat) : ∀ (vs : List Value) (i : Nat) (cur : Array Value) (w : World), w.heap[g]? = some (.cells cur t fz) → Harmless fz cur.size → o + i + vs.length ≤ cur.size → (∀ v ∈ vs, v.oneCell' = true) →
    (storeCells ⟨g, o, none⟩ vs i).run P w = .ok () (w.setRow g (cur.toList.take (o + i) ++ vs ++ cur.toList.drop (o + i + vs.length)).toArray)
  | [], i, cur, w, hg, _, _, _ => by
    simp only [storeCells, List.append_nil, List.length_nil, Nat.add_zero, List.take_append_drop, Array.toArray_toList]
    rw [setRow_self w g cur t fz hg]
    rfl
  | v :: rest, i, cur, w, hg, hf, hl, h1 => by
    have hi : o + i < cur.size := by simp at hl; omega
    have hadd : (⟨g, o, none⟩ : Addr).add i = ⟨g, o + i, none⟩ := by unfold Addr.add; split <;> simp_all
    have hcell : w.cell? ⟨g, o + i, none⟩ = some cur[o + i] := by simp [World.cell?, hg, hi]
    have hfro : w.frozen? ⟨g, o + i, none⟩ = false := frozen_harmless hg hf hi
    have hst : (store ((⟨g, o, none⟩ : Addr).add i) v).run P w = .ok () (w.setRow g (cur.setIfInBounds (o + i) v)) := by
      rw [hadd, run_store P w _ v _ (h1 v (by simp)), hcell]
      simp [hfro, setCell_eq_setRow w g (o + i) cur t fz v hg]
    have ih := run_storeCells_h P g o t fz rest (i + 1) (cur.setIfInBounds (o + i) v) (w.setRow g (cur.setIfInBounds (o + i) v)) (setRow_heap w g cur _ t _ hg) (by simpa using hf) (by simp at hl ⊢; omega) (fun x hx => h1 x (by simp [hx]))
    simp only [storeCells, Sem.run_bind, hst, Result.andThen_ok, ih, setRow_setRow]
    congr 3
    have e := list_seg_step cur.toList (o + i) v rest (by simp at hl ⊢; omega)
    simpa [Array.toList_setIfInBounds, Nat.add_assoc] using e

/-- a row after cells were put over some of its own -/
theorem OwnRow.put {g o cap : Nat} {cur : Array Value} {fz : Nat × Nat} (hl : us.length = n * sz) (hg : w.heap[g]? = some (.cells cur e fz)) (hf : Harmless fz cur.size) (h4 : n ≤ cap) (h5 : cap ≤ maxLen) (h6 : o + cap * sz ≤ cur.size)
    (h7 : (cur.toList.drop o).take (n * sz) = us) {k m : Nat} {vs : List Value} (hk : k + vs.length ≤ m * sz) (hm : m ≤ cap) (hnm : n ≤ m) (hkn : k ≤ n * sz) (hend : m = n ∨ k + vs.length = m * sz) :
    OwnRow (w.setRow g (cur.toList.take (o + k) ++ vs ++ cur.toList.drop (o + k + vs.length)).toArray) e sz (.slice (some ⟨g, o, none⟩) m cap) m (us.take k ++ vs ++ us.drop (k + vs.length)) := by
  have hms := Nat.mul_le_mul_right sz hm
  have hns := Nat.mul_le_mul_right sz hnm
  have hcs : cur.toList.length = cur.size := by simp
  refine ⟨?_, .inr ⟨g, o, cap, _, fz, rfl, setRow_heap w g cur _ e _ hg, ?_, hm, h5, ?_, ?_⟩⟩
  · simp only [List.length_append, List.length_take, List.length_drop, hl]
    rcases hend with rfl | he <;> omega
  · have : (cur.toList.take (o + k) ++ vs ++ cur.toList.drop (o + k + vs.length)).toArray.size = cur.size := by
      simp only [List.size_toArray, List.length_append, List.length_take, List.length_drop, hcs]; omega
    rw [this]; exact hf
  · simp only [List.size_toArray, List.length_append, List.length_take, List.length_drop, hcs]; omega
  · rw [← h7]
    apply List.ext_getElem?
    intro q
    simp only [List.getElem?_take, List.getElem?_drop, List.getElem?_append, List.length_append, List.length_take, List.length_drop, hcs]
    by_cases hq : q < m * sz
    · by_cases h1 : q < k
      · have a1 : o + q < min (o + k) cur.size + vs.length := by omega
        have a2 : o + q < min (o + k) cur.size := by omega
        have a3 : q < min k (min (n * sz) (cur.size - o)) + vs.length := by omega
        have a4 : q < min k (min (n * sz) (cur.size - o)) := by omega
        have a5 : q < n * sz := by omega
        have a6 : o + q < o + k := by omega
        simp only [hq, h1, a1, a2, a3, a4, a5, a6, if_true]
      · by_cases h2 : q < k + vs.length
        · have a1 : o + q < min (o + k) cur.size + vs.length := by omega
          have a2 : ¬ o + q < min (o + k) cur.size := by omega
          have a3 : q < min k (min (n * sz) (cur.size - o)) + vs.length := by omega
          have a4 : ¬ q < min k (min (n * sz) (cur.size - o)) := by omega
          have a5 : o + q - min (o + k) cur.size = q - min k (min (n * sz) (cur.size - o)) := by omega
          simp only [hq, a1, a2, a3, a4, a5, if_true, if_false]
        · have hmn : m = n := by omega
          subst hmn
          have a1 : ¬ o + q < min (o + k) cur.size + vs.length := by omega
          have a3 : ¬ q < min k (min (m * sz) (cur.size - o)) + vs.length := by omega
          have a5 : o + k + vs.length + (o + q - (min (o + k) cur.size + vs.length)) = o + q := by omega
          have a6 : k + vs.length + (q - (min k (min (m * sz) (cur.size - o)) + vs.length)) = q := by omega
          simp only [hq, a1, a3, a5, a6, if_true, if_false]
    · have a3 : ¬ q < min k (min (n * sz) (cur.size - o)) + vs.length := by omega
      have a6 : ¬ k + vs.length + (q - (min k (min (n * sz) (cur.size - o)) + vs.length)) < n * sz := by omega
      simp only [hq, a3, a6, if_false]
end

/-- append to a row of one's own -/
theorem run_append_own' {P : Program} (w : World) (t ty e : TypeId) (i : TypeInfo) (z : Value) (size bytes : Nat) (ht : P.underlying t = some (.slice e)) (hi : P.info? e = some i) (hz : i.zero = some z)
    (hsize : i.size = size) (hby : i.bytes = bytes) (hzs : z.cells.size = size) (hsz : 0 < size)
    (v : Value) (n : Nat) (xs : List Value) (hown : OwnRow w e size v n xs)
    (a : Addr) (m c : Nat) (news : List Value) (hl : news.length = m * size) (hnews : ∀ j u, news[j]? = some u → w.cell? (a.add j) = some u) (h1 : ∀ u ∈ news, u.oneCell' = true)
    (h63 : n + m ≤ maxLen) (hbytes : (n + m) * bytes ≤ 140737488355328) :
    ∃ v' w', (Builtin.append_ #[t, t] ty #[v, .slice (some a) m c]).run P w = .ok v' w' ∧ OwnRow w' e size v' (n + m) (xs ++ news) ∧ w.grownBy w' (blkOf v) ∧ (blkOf v' = blkOf v ∨ blkOf v' = some w.heap.size) := by
  rcases hown.2 with ⟨rfl, rfl⟩ | ⟨g, o, cap, cur, fz, rfl, hg, hf, hnc, hcm, hfit, htake⟩
  · have hx : xs = [] := List.eq_nil_of_length_eq_zero (by simpa using hown.1)
    subst hx
    obtain ⟨v', w', hr, ho, hgr, _, hb⟩ := run_append_own_at (P := P) w 0 t ty e i z size bytes ht hi hz hsize hby hzs hsz (.slice none 0 0) 0 [] (World.ownsRow_nil w 0 e size) a m c news hl hnews h1 h63 hbytes (Nat.zero_le _)
    have ho' := OwnRow.of ho
    have hbk : blkOf v' = v'.ownBlock := by
      rcases ho'.2 with ⟨rfl, _⟩ | ⟨g, o, cap, cur, fz, rfl, _⟩ <;> rfl
    exact ⟨v', w', hr, ho', hgr, by rw [hbk]; exact hb⟩
  · subst hsize
    subst hby
    have hsmall : n + m ≤ 9223372036854775807 := by simp only [maxLen] at h63; omega
    have hlen : (xs ++ news).length = (n + m) * i.size := by rw [List.length_append, hown.1, hl, Nat.add_mul]
    have hxl := hown.1
    by_cases hroom : n + m ≤ cap
    · have hnm : n * i.size + news.length = (n + m) * i.size := by rw [hl, Nat.add_mul]
      have hcap := Nat.mul_le_mul_right i.size hroom
      have hfirst := run_firstCells_some (P := P) w i.size m a m c news hl hnews
      have hst := run_storeCells_h P g (o + n * i.size) e fz news 0 cur w hg hf (by omega) h1
      simp only [Nat.add_zero] at hst
      have hput := OwnRow.put (w := w) (g := g) (o := o) (cap := cap) (cur := cur) (fz := fz) (e := e) (sz := i.size) (n := n) (us := xs) hown.1 hg hf hnc hcm hfit htake (k := n * i.size) (m := n + m) (vs := news) (by omega) hroom (by omega) (Nat.le_refl _) (.inr hnm)
      refine ⟨.slice (some ⟨g, o, none⟩) (n + m) cap, w.setRow g (cur.toList.take (o + n * i.size) ++ news ++ cur.toList.drop (o + n * i.size + news.length)).toArray, ?_, ?_,
        ⟨rfl, rfl, rfl, by simp, fun k _ hk => setRow_other w g k _ (fun e => hk (by simp [blkOf, e]))⟩, .inl rfl⟩
      · simp [Builtin.append_, run_underlying ht, sizeOf, typeInfo, hi, Builtin.lenOf, hroom, hfirst, Addr.add_lit, hst]
      · have e1 : xs.take (n * i.size) = xs := by rw [← hxl]; exact List.take_length
        have e2 : xs.drop (n * i.size + news.length) = [] := List.drop_eq_nil_of_le (by omega)
        rw [e1, e2, List.append_nil] at hput
        exact hput
    · have holds : ∀ j u, xs[j]? = some u → w.cell? ((⟨g, o, none⟩ : Addr).add j) = some u := fun j u hj => by
        rw [Addr.add_lit]; exact hown.cells rfl j u hj
      have hr := run_append_grow (P := P) w t ty e i z ht hi hz ⟨g, o, none⟩ n cap xs hown.1 holds a m c news hl hnews (by omega) (by omega) (growslice_fits (by omega) hbytes)
      refine ⟨_, _, hr, ⟨hlen, .inr ⟨w.heap.size, 0, _, _, (0, 0), rfl, heap_alloc_new w.drew _, .inl rfl, grownCap_ge w (n + m) cap e, grownCap_le_maxLen w (n + m) cap e h63, ?_, ?_⟩⟩, ⟨rfl, rfl, rfl, by simp, fun k hk _ => heap_alloc_old w.drew _ hk⟩, .inr rfl⟩
      · have hge := grownCap_ge w (n + m) cap e
        simp only [Array.size_append, List.size_toArray, size_zeroCells, hzs, hown.1, hl, ← Nat.add_mul, Nat.zero_add]
        apply Nat.mul_le_mul_right
        omega
      · simp only [Array.toList_append, List.append_assoc, List.drop_zero]
        rw [← List.append_assoc, ← hlen]
        exact List.take_left

/-- .. of anything that can be read -/
theorem run_append_rd' {P : Program} (w : World) (t ty e : TypeId) (z : Value) (size bytes : Nat) (ht : P.underlying t = some (.slice e))
    (hinfo : (P.info? e).map (fun i => (i.zero, i.size, i.bytes)) = some (some z, size, bytes)) (hzs : z.cells.size = size) (hsz : 0 < size) (hb0 : 0 < bytes)
    (v : Value) (n : Nat) (xs : List Value) (hown : OwnRow w e size v n xs)
    (A : Option Addr) (m c : Nat) (ys : List Value) (hr : Rd w A ys) (hl : ys.length = m * size) (h1 : ∀ u ∈ ys, u.oneCell' = true)
    (hbytes : (n + m) * bytes ≤ 140737488355328) :
    ∃ v' w', (Builtin.append_ #[t, t] ty #[v, .slice A m c]).run P w = .ok v' w' ∧ OwnRow w' e size v' (n + m) (xs ++ ys) ∧ w.grownBy w' (blkOf v) ∧ (blkOf v' = blkOf v ∨ blkOf v' = some w.heap.size) := by
  obtain ⟨i, hi, hzz⟩ := Option.map_eq_some_iff.1 hinfo
  simp only [Prod.mk.injEq] at hzz
  obtain ⟨hz0, hz1, hz2⟩ := hzz
  have hm' : n + m ≤ 140737488355328 := Nat.le_trans (Nat.le_mul_of_pos_right _ hb0) hbytes
  rcases A with _ | ad
  · have h0 : ys = [] := by
      rcases hr with h | ⟨b, off, h, _⟩
      · exact h
      · cases h
    subst h0
    have hm0 : m = 0 := by
      have : m * size = 0 := by simpa using hl.symm
      rcases Nat.mul_eq_zero.1 this with h | h
      · exact h
      · omega
    subst hm0
    refine ⟨v, w, ?_, by simpa using hown, World.grownBy.refl w _, .inl rfl⟩
    rcases hown.2 with ⟨rfl, hn⟩ | ⟨g, o, cap, cur, fz, rfl, _, _, hnc, _⟩
    · simp [Builtin.append_, run_underlying ht, sizeOf, typeInfo, hi, Builtin.lenOf, Builtin.firstCells]
    · simp [Builtin.append_, run_underlying ht, sizeOf, typeInfo, hi, Builtin.lenOf, Builtin.firstCells, hnc, storeCells]
  · exact run_append_own' (P := P) w t ty e i z size bytes ht hi hz0 hz1 hz2 hzs hsz v n xs hown ad m c ys hl (rd_add hr rfl) h1 (by simp only [maxLen]; omega) hbytes

/-- bytes may be shared with a text from now on: no cell turns -/
theorem run_mark {P : Program} {w : World} {e e2 sz n : Nat} {v : Value} {us : List Value} (h : OwnRow w e2 sz v n us) (hnn : v ≠ .slice none 0 0) {src : TypeId} (hs : P.underlying src = some (.slice e)) (he : P.underlying e = some (.int .u8)) :
    ∃ w', (convert src src v).run P w = .ok v w' ∧ OwnRow w' e2 sz v n us ∧ w.grownBy w' (blkOf v) := by
  rcases h.2 with ⟨h', _⟩ | ⟨g, o, cap, cur, fz, rfl, hg, hf, hnc, hcm, hfit, htake⟩
  · exact absurd h' hnn
  · have hlt : g < w.heap.size := (Array.getElem?_eq_some_iff.1 hg).1
    have hge : w.heap[g] = .cells cur e2 fz := (Array.getElem?_eq_some_iff.1 hg).2
    have hshape : w.shape? g = some (e2, cur.size) := by simp [World.shape?, hg]
    refine ⟨w.freeze ⟨g, cur.size, none⟩ 1, ?_, ⟨h.1, .inr ⟨g, o, cap, cur, (cur.size, cur.size + 1), rfl, ?_, .inr rfl, hnc, hcm, hfit, htake⟩⟩, ⟨?_, ?_, ?_, ?_, fun k hk hkne => ?_⟩⟩
    · simp [convert, run_underlying hs, run_underlying he, markStringish, hshape, freeze, shape, Sem.run]
    · simp only [World.freeze, Nat.one_ne_zero, if_false]
      rw [Array.getElem?_modify, if_pos rfl, hg]
      rcases hf with rfl | rfl <;> simp
    · simp [World.freeze]
    · simp [World.freeze]
    · simp [World.freeze]
    · simp [World.freeze]
    · simp only [World.freeze, Nat.one_ne_zero, if_false]
      rw [Array.getElem?_modify, if_neg (fun e => hkne (by simp [blkOf, e]))]

end Go.Proofs.Ytbmgaebhcomjaaa
