/-
Programs as the plain reckoning sees them. No condition.
-/
import Derived.Test.YtecckfhmgnlmnaaFIsc
import Derived.Test.YtecckfhmgnlmnaaAbJ
namespace Go.Proofs.Ytecckfhmgnlmnaa

structure Prg where
  code : List Ins
  size : Int
  data : List Int

def u8v (b : Int) : V := .s (.int .u8 b)
def Prg.v (p : Prg) : V := .agg [.lst false 5 (p.code.map Ins.v), .s (.int .i64 p.size), .lst false 1 (p.data.map u8v)]

def insOf : V → Option Ins
  | .agg [.s (.int .i64 op), .s (.int .i64 d), .s (.int .i64 a), .s (.int .i64 b), .s (.int .i64 imm)] => some ⟨op, d, a, b, imm⟩
  | _ => none
theorem insOf_eq {x : V} {i : Ins} (h : insOf x = some i) : x = i.v := by
  unfold insOf at h
  split at h
  · cases h; rfl
  · cases h
theorem insOf_v (i : Ins) : insOf i.v = some i := rfl
def u8Of : V → Option Int
  | .s (.int .u8 b) => some b
  | _ => none
theorem u8Of_eq {x : V} {i : Int} (h : u8Of x = some i) : x = u8v i := by
  unfold u8Of at h
  split at h
  · cases h; rfl
  · cases h

theorem mapM_eq {α : Type} {f : V → Option α} {g : α → V} (h : ∀ x a, f x = some a → x = g a) : ∀ {l : List V} {c : List α}, l.mapM f = some c → l = c.map g
  | [], c, e => by simp at e; subst e; rfl
  | x :: l, c, e => by
    rw [mapM_cons'] at e
    obtain ⟨a, ha, e⟩ := Option.bind_eq_some_iff.1 e
    obtain ⟨a2, has, e⟩ := Option.bind_eq_some_iff.1 e
    cases e
    rw [List.map_cons, ← h x a ha, ← mapM_eq h has]
theorem mapM_of {α : Type} {f : V → Option α} {g : α → V} (h : ∀ a, f (g a) = some a) : ∀ (c : List α), (c.map g).mapM f = some c
  | [] => by simp
  | a :: c => by rw [List.map_cons, mapM_cons', h, mapM_of h c]; rfl

/-- a slice that is read, nil or not -/
def lOf (sz : Nat) : V → Option (List V)
  | .lst _ sz' l => if sz' = sz then some l else none
  | .s (.slice none 0 0) => some []
  | _ => none
theorem lOf_sees {sz : Nat} {x : V} {l : List V} (h : lOf sz x = some l) : Sees x (.lst false sz l) := by
  unfold lOf at h
  split at h
  · split at h
    · rename_i e
      subst e
      cases h
      exact .inr ⟨rfl, rfl, fun _ _ _ _ hr => hr.unfr⟩
    · cases h
  · cases h
    refine .inr ⟨rfl, rfl, fun _ _ _ _ hr => ?_⟩
    cases hr
    exact .lst _ false sz [] none 0 [] (Nat.le_refl _) (fun x hx => by simp at hx) rfl (fun i u x hu => by simp at hu) (fun u hu => by simp at hu) (.inl rfl)
  · cases h

def prgOf : V → Option Prg
  | .agg [c, .s (.int .i64 n), d] => (lOf 5 c).bind fun c => (c.mapM insOf).bind fun c => (lOf 1 d).bind fun d => (d.mapM u8Of).bind fun d => some ⟨c, n, d⟩
  | _ => none
theorem prgOf_v (p : Prg) : prgOf p.v = some p := by
  simp only [prgOf, Prg.v, lOf, if_true, Option.bind_some, mapM_of insOf_v, mapM_of (f := u8Of) (g := u8v) fun _ => rfl]
theorem prgOf_sees {x : V} {p : Prg} (h : prgOf x = some p) : Sees x p.v := by
  unfold prgOf at h
  split at h
  · rename_i c n d
    obtain ⟨c1, h1, h⟩ := Option.bind_eq_some_iff.1 h
    obtain ⟨c2, h2, h⟩ := Option.bind_eq_some_iff.1 h
    obtain ⟨d1, h3, h⟩ := Option.bind_eq_some_iff.1 h
    obtain ⟨d2, h4, h⟩ := Option.bind_eq_some_iff.1 h
    cases h
    have e1 := mapM_eq (fun _ _ => insOf_eq) h2
    have e2 := mapM_eq (fun _ _ => u8Of_eq) h4
    subst e1; subst e2
    exact Sees.agg (.cons (lOf_sees h1) (.cons .same (.cons (lOf_sees h3) .nil)))
  · cases h
theorem prg_args {x : V} {p : Prg} (h : prgOf x = some p) (xs : List V) : ∀ w J vs, Args w J vs (x :: xs) → Args w J vs (p.v :: xs) := (SeesL.cons (prgOf_sees h) .same).args
/-- .. of slices -/
theorem lst_args {sz : Nat} {x : V} {l : List V} (h : lOf sz x = some l) (xs : List V) : ∀ w J vs, Args w J vs (x :: xs) → Args w J vs (.lst false sz l :: xs) := (SeesL.cons (lOf_sees h) .same).args

end Go.Proofs.Ytecckfhmgnlmnaa
