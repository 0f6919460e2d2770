/-
Small lemmas about slices that are read or owned, used by all walks of this seat: no condition of their own.
-/
import Derived.WalkKit
import Derived.WalkSpells
import Derived.WalkLawsBesides
import Derived.Maps.AppendAt

import Derived.Deep.DeepCutAuto
import Derived.Deep.RegionHeld3
import Derived.Deep.RegionLaw
import Derived.Deep.QuietTactic
import Derived.BigQuiet
import Derived.ProofKit
import Derived.OpenShut
namespace Go.Proofs.YtkfmecmmbnehjaaGreat
set_option linter.unusedSimpArgs false
set_option linter.unusedVariables false
open Go.RowKit

/-- the cells behind a slice's address read as vs -/
def Rd (w : World) (A : Option Addr) (vs : List Value) : Prop :=
  vs = [] ∨ ∃ b off, A = some ⟨b, off, none⟩ ∧ ∀ j v, vs[j]? = some v → w.cell? ⟨b, off + j, none⟩ = some v

theorem Rd.nil (w : World) (A : Option Addr) : Rd w A [] := .inl rfl

/-- one cell of it -/
theorem Rd.at_ {w : World} {A : Option Addr} {vs : List Value} (h : Rd w A vs) (hp : 0 < vs.length) :
    ∃ b off, A = some ⟨b, off, none⟩ ∧ ∀ j v, vs[j]? = some v → w.cell? ⟨b, off + j, none⟩ = some v := by
  rcases h with rfl | h
  · simp at hp
  · exact h

theorem rd_add {w : World} {A : Option Addr} {vs : List Value} {ad : Addr} (h : Rd w A vs) (e : A = some ad) : ∀ j u, vs[j]? = some u → w.cell? (ad.add j) = some u := by
  intro j u hu
  rcases h with rfl | ⟨b, off, hA, hc⟩
  · simp at hu
  · rw [e] at hA
    injection hA with hA
    subst hA
    have ha : (⟨b, off, none⟩ : Addr).add j = ⟨b, off + j, none⟩ := by unfold Addr.add; split <;> simp_all
    rw [ha]
    exact hc j u hu

section
variable {P : Program}
end

section
variable {P : Program}
end

section
variable {P : Program}
end

/-- numbers of one kind as cells -/
def nums (k : IntKind) (xs : List Int) : List Value := xs.map (Value.int k)
@[simp] theorem nums_length (k : IntKind) (xs : List Int) : (nums k xs).length = xs.length := by simp [nums]
theorem nums_get (k : IntKind) (xs : List Int) (j : Nat) (h : j < xs.length) : (nums k xs)[j]? = some (.int k (xs.getD j 0)) := by
  simp [nums, List.getElem?_eq_getElem h, List.getD_eq_getElem?_getD]
theorem conv_rd {P : Program} {w : World} {A : Option Addr} {xs : List Int} {n c : Nat} (h : Rd w A (nums .u8 xs)) (hn : xs.length = n) (src e : TypeId) (hs : P.underlying src = some (.slice e)) (he : P.underlying e = some (.int .u8)) (dst : TypeId) (hd : P.underlying dst = some .string) :
    (convert src dst (.slice A n c)).run P w = .ok (.string (strOfNums xs)) w := by
  subst hn
  rcases h with h | ⟨b, off, rfl, hc⟩
  · have : xs = [] := by simpa [nums] using h
    subst this
    rw [run_convert_bytes_string w src dst e _ _ c hs he hd]
    rcases A with _ | a
    · simp [Conv.bytesToString]; rfl
    · simp [Conv.bytesToString, loadCells, loadCellsFrom]; rfl
  · exact run_convert_bytes_arg w src e hs he b off xs.length c xs rfl (fun i hi => hc i _ (nums_get .u8 xs i hi)) dst hd

theorem wf_u8 {x : Int} (h : (Lit.int .u8 x).wf = true) : 0 ≤ x ∧ x < 256 := by
  have := bounds_u8 h
  omega
theorem wf_i64 {x : Int} (h : (Lit.int .i64 x).wf = true) : -9223372036854775808 ≤ x ∧ x < 9223372036854775808 := by
  have := bounds_i64 h
  omega

/-- two worlds that differ in draws alone -/
def Eqw (W1 W : World) : Prop := W1.os = W.os ∧ W1.tape = W.tape ∧ W1.output = W.output ∧ W1.heap = W.heap
theorem bl_eq {B : Nat} {w W W1 : World} (hb : Below B w W) (h : Eqw W1 W) : Below B w W1 := by
  obtain ⟨h1, h2, h3, h4⟩ := h
  exact ⟨h1.trans hb.os, h2.trans hb.tape, h3.trans hb.output, by rw [h4]; exact hb.size, fun k hk => by rw [h4]; exact hb.block k hk⟩
/-- all that stood in w0 stands in W -/
def Ext (w0 W : World) : Prop := Below w0.heap.size w0 W
theorem Ext.refl (w : World) : Ext w w := Below.refl _ _
theorem Ext.drew (w : World) : Ext w w.drew := Below.drew (Below.refl _ _)
theorem Ext.eq {w0 W W1 : World} (h : Ext w0 W) (e : Eqw W1 W) : Ext w0 W1 := bl_eq h e
/-- the world but for draws -/
def Drw (w w' : World) : Prop := ∃ n, w' = w.drewN n
theorem Drw.refl (w : World) : Drw w w := ⟨0, rfl⟩
theorem Drw.same {w w' : World} (h : w = w') : Drw w w' := ⟨0, h.symm⟩
end Go.Proofs.YtkfmecmmbnehjaaGreat
