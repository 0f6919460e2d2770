/-
Whether a predicate is true of one of a list; right programs, few instructions, by the plain reckoning. No condition.
-/
import Derived.Test.YtgamljjoehncbaaO2
namespace Go.Proofs.Ytgamljjoehncbaa
set_option linter.unusedSimpArgs false
set_option linter.unusedVariables false

def iv (n : Int) : V := .s (.int .i64 n)
def i64Of : V → Option Int
  | .s (.int .i64 n) => some n
  | _ => none
theorem i64Of_eq {x : V} {i : Int} (h : i64Of x = some i) : x = iv i := by
  unfold i64Of at h
  split at h
  · cases h; rfl
  · cases h
theorem i64Of_v (n : Int) : i64Of (iv n) = some n := rfl

/-- the first of a list of which a function's contract says true -/
def idxV (C : Orc) (g : Nat) (caps : List V) : List V → Nat → Option Int
  | [], _ => some (-1)
  | e :: l, k => match C g with
    | some sp => (match sp.fn (e :: caps) with
      | some (.s (.bool true)) => some (k : Int)
      | some (.s (.bool false)) => idxV C g caps l (k + 1)
      | _ => none)
    | none => none
/-- what a function holds on to: nothing, or one box that it reads -/
def capsOk : List V → Bool
  | [] => true
  | [.ept _] => true
  | _ => false
theorem capsOk_cases {caps : List V} (h : capsOk caps = true) : caps = [] ∨ ∃ q, caps = [.ept q] := by
  unfold capsOk at h
  split at h
  · exact .inl rfl
  · exact .inr ⟨_, rfl⟩
  · cases h
def mvOk (C : Orc) (g : Nat) : Bool := match C g with
  | some sp => sp.mv.isEmpty
  | none => false
theorem mvOk_of {C : Orc} {g : Nat} (h : mvOk C g = true) : ∃ sp, C g = some sp ∧ sp.mv = [] := by
  unfold mvOk at h
  split at h
  · rename_i sp hsp
    exact ⟨sp, hsp, by simpa using h⟩
  · cases h
theorem mvOk_mk {C : Orc} {g : Nat} {sp : Spec} (h : C g = some sp) (k : sp.mv = []) : mvOk C g = true := by
  unfold mvOk
  rw [h]; simp [k]
theorem idxV_any {C : Orc} {g : Nat} {caps : List V} {sp : Spec} (hC : C g = some sp) {α : Type} (enc : α → V) (b : α → Bool) : ∀ (l : List α) (k : Nat), (∀ a ∈ l, sp.fn (enc a :: caps) = some (.s (.bool (b a)))) → ∃ n, idxV C g caps (l.map enc) k = some n ∧ decide (0 ≤ n) = l.any b
  | [], k, _ => ⟨-1, rfl, rfl⟩
  | a :: l, k, h => by
    have h1 := h a (by simp)
    rw [List.map_cons, idxV, hC]
    simp only [h1]
    cases hb : b a
    · obtain ⟨n, h2, h3⟩ := idxV_any hC enc b l (k + 1) (fun x hx => h x (by simp [hx]))
      exact ⟨n, h2, by rw [h3]; simp [hb]⟩
    · exact ⟨k, rfl, by simp [hb]⟩


def spIdxFI (C : Orc) : Spec := ⟨[], fun xs => match xs with
  | [x, .fn g caps] => (lOf 1 x).bind fun l => (l.mapM i64Of).bind fun c => if c.length ≤ 1000000000 ∧ capsOk caps = true ∧ mvOk C g = true then (idxV C g caps (c.map iv) 0).map fun n => .s (.int .i64 n) else none
  | _ => none⟩
def spContFI (C : Orc) : Spec := ⟨[], fun xs => match xs with
  | [x, .fn g caps] => (lOf 1 x).bind fun l => (l.mapM i64Of).bind fun c => if c.length ≤ 1000000000 ∧ capsOk caps = true ∧ mvOk C g = true then (idxV C g caps (c.map iv) 0).map fun n => .s (.bool (decide (0 ≤ n))) else none
  | _ => none⟩
theorem spIdxFI_mv (C : Orc) : (spIdxFI C).mv = [] := rfl
theorem spContFI_mv (C : Orc) : (spContFI C).mv = [] := rfl
def idxII (C : Orc) (g : Nat) (caps : List V) (c : List Int) (s : S) : Prop :=
  s.env 0 = .lst false 1 (c.map iv) ∧ s.env 1 = .fn g caps ∧ s.env 7 = .s (.int .i64 c.length) ∧
  ∃ k : Nat, s.env 8 = .s (.int .i64 k) ∧ k ≤ c.length ∧ idxV C g caps (c.map iv) 0 = idxV C g caps ((c.drop k).map iv) k
theorem contFI_v {C : Orc} {g : Nat} {caps : List V} {sp : Spec} (hC : C g = some sp) (hmv : sp.mv = []) (hcaps : capsOk caps = true) (b : Int → Bool) (c : List Int) (hl : c.length ≤ 1000000000)
    (hb : ∀ a ∈ c, sp.fn (iv a :: caps) = some (.s (.bool (b a)))) : (spContFI C).fn [.lst false 1 (c.map iv), .fn g caps] = some (.s (.bool (c.any b))) := by
  obtain ⟨n, h1, h2⟩ := idxV_any hC iv b c 0 hb
  simp only [spContFI, lOf, if_true, Option.bind_some, mapM_of i64Of_v, if_pos (And.intro hl (And.intro hcaps (mvOk_mk hC hmv))), h1, Option.map_some, h2]


def spIdxFN (C : Orc) : Spec := ⟨[], fun xs => match xs with
  | [x, .fn g caps] => (lOf 5 x).bind fun l => (l.mapM insOf).bind fun c => if c.length ≤ 1000000000 ∧ capsOk caps = true ∧ mvOk C g = true then (idxV C g caps (c.map Ins.v) 0).map fun n => .s (.int .i64 n) else none
  | _ => none⟩
def spContFN (C : Orc) : Spec := ⟨[], fun xs => match xs with
  | [x, .fn g caps] => (lOf 5 x).bind fun l => (l.mapM insOf).bind fun c => if c.length ≤ 1000000000 ∧ capsOk caps = true ∧ mvOk C g = true then (idxV C g caps (c.map Ins.v) 0).map fun n => .s (.bool (decide (0 ≤ n))) else none
  | _ => none⟩
theorem spIdxFN_mv (C : Orc) : (spIdxFN C).mv = [] := rfl
theorem spContFN_mv (C : Orc) : (spContFN C).mv = [] := rfl
def idxIN (C : Orc) (g : Nat) (caps : List V) (c : List Ins) (s : S) : Prop :=
  s.env 0 = .lst false 5 (c.map Ins.v) ∧ s.env 1 = .fn g caps ∧ s.env 7 = .s (.int .i64 c.length) ∧
  ∃ k : Nat, s.env 8 = .s (.int .i64 k) ∧ k ≤ c.length ∧ idxV C g caps (c.map Ins.v) 0 = idxV C g caps ((c.drop k).map Ins.v) k
theorem contFN_v {C : Orc} {g : Nat} {caps : List V} {sp : Spec} (hC : C g = some sp) (hmv : sp.mv = []) (hcaps : capsOk caps = true) (b : Ins → Bool) (c : List Ins) (hl : c.length ≤ 1000000000)
    (hb : ∀ a ∈ c, sp.fn (Ins.v a :: caps) = some (.s (.bool (b a)))) : (spContFN C).fn [.lst false 5 (c.map Ins.v), .fn g caps] = some (.s (.bool (c.any b))) := by
  obtain ⟨n, h1, h2⟩ := idxV_any hC Ins.v b c 0 hb
  simp only [spContFN, lOf, if_true, Option.bind_some, mapM_of insOf_v, if_pos (And.intro hl (And.intro hcaps (mvOk_mk hC hmv))), h1, Option.map_some, h2]

def cImg5 : Orc := cImg4
theorem spWrong_mv : spWrong.mv = [] := rfl
def cImg7 : Orc := cImg5
theorem spTargets_mv : spTargets.mv = [] := rfl
theorem spSizes_mv : spSizes.mv = [] := rfl

def cImg8 : Orc := cImg7
theorem spRightP_mv : spRightP.mv = [] := rfl
def spFew : Spec := ⟨[], fun xs => match xs with
  | [x] => (prgOf x).bind fun p => some (.s (.bool (decide ((p.code.length : Int) ≤ 200) && decide ((p.data.length : Int) ≤ 500))))
  | _ => none⟩
theorem spRightP_v (p : Prg) : spRightP.fn [.agg [.lst false 5 (p.code.map Ins.v), .s (.int .i64 p.size), .lst false 1 (p.data.map u8v)]] = some (.s (.bool (rightP p))) := by
  have := prgOf_v p
  unfold Prg.v at this
  simp [spRightP, this]
def fewB (p : Prg) : Bool := decide ((p.code.length : Int) ≤ 200) && decide ((p.data.length : Int) ≤ 500)
theorem few_v (p : Prg) : spFew.fn [p.v] = some (.s (.bool (fewB p))) := by
  simp only [spFew, prgOf_v, Option.bind_some]
  rfl
theorem rightP_v (p : Prg) : spRightP.fn [p.v] = some (.s (.bool (rightP p))) := spRightP_v p
theorem spFew_mv : spFew.mv = [] := rfl


end Go.Proofs.Ytgamljjoehncbaa
