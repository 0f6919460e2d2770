/-
A slice that is answered may be taken for one that is only read. No condition.
-/
import Derived.Test.YtecckfhmgnlmnaaImgN
namespace Go.Proofs.Ytecckfhmgnlmnaa

def asLst : V → V
  | .own sz _ l => .lst true sz l
  | r => r
theorem impl_lst {P : Program} {f : Nat} {sp : Spec} (h : Impl P f sp) : Impl P f ⟨sp.mv, fun xs => (sp.fn xs).map asLst⟩ := by
  refine ⟨h.1, fun xs r hr vs w J ha => ?_⟩
  obtain ⟨r0, h0, rfl⟩ := Option.map_eq_some_iff.1 hr
  refine (h.2 xs r0 h0 vs w J ha).mono fun e w' ⟨v, he, hf, hres⟩ => ⟨v, he, hf, ?_⟩
  cases r0 with
  | own sz e2 l =>
    obtain ⟨hrow, hfr⟩ := hres
    obtain ⟨A, cp, us, rfl, h1, h2, h3, h4, h5⟩ := RowR.elems hrow
    have h3' := h3.imp fun u x hr => hr.refresh (own' := fun _ => False) (fresh' := Fresh w J) rfl fun g _ hf => ⟨fun h => h, hf⟩
    show RC w' (fun _ => False) (Fresh w J) true _ (.lst true sz l)
    refine .lst _ true sz l A cp us h1 h2 h3'.1 h3'.2 h4 ?_
    rcases h5 with h5 | ⟨g, o, rfl, h7⟩
    · exact .inl h5
    · exact .inr ⟨g, o, rfl, fun h => h, fun _ => hfr g rfl, h7⟩
  | _ => exact hres
end Go.Proofs.Ytecckfhmgnlmnaa
