/-
  Contracts of functions whose result may be any of several.
-/
import Derived.Test.YthglhccibdlccaaDoorE22
namespace Go.Abs
section
variable {P : Program}

theorem callQ_of_wpH {I : Type} {C : I → Prop} {rr : I → A} {ss : I → St} {hint : Nat → Option (List (Nat × Nat))} {f : FuncId} {fn : Func} {c : Code} {k : K} {rs : List RS} (hf : P.funcs[f]? = some fn) (hb : fn.body = some c) (hc : compileH P fn.ntmps hint c = some k.erase) (hr : slotsOf P fn.results.toList = some rs)
    {args : List A} {σ0 : St} (h : wpF P k rs args σ0 fun o τ => ∃ i, C i ∧ RetQ σ0.length (rr i) (ss i) o τ) : CallA P f args σ0 fun o τ => ∃ i, C i ∧ o = .ret (rr i) ∧ τ = ss i := by
  intro H L w vs hs ha
  refine (callA_of_wpH hf hb hc hr h H L w vs hs ha).mono fun e w' hh => ?_
  obtain ⟨o, σ', H', L', g1, g2, i, hi, r', ks, fuel, rfl, hk, hd, ho, hr⟩ := hh
  obtain ⟨v, rfl, hv⟩ := g1
  obtain ⟨H2, L2, k1, _, k3⟩ := nxt_sel ks fuel (by rw [hs.len]; exact hk) hd ho g2
  refine ⟨.ret (rr i), ss i, H2, L2, ⟨v, rfl, ?_⟩, k1, i, hi, rfl, rfl⟩
  rcases hr with e | e
  · rw [e]; exact k3 _ _ hv
  · rw [e]; exact Rel.nrm0 _ (k3 _ _ hv)
theorem callQ_of_wp {I : Type} {C : I → Prop} {rr : I → A} {ss : I → St} {f : FuncId} {fn : Func} {c : Code} {k : K} {rs : List RS} (hf : P.funcs[f]? = some fn) (hb : fn.body = some c) (hc : compile P fn.ntmps c = some k.erase) (hr : slotsOf P fn.results.toList = some rs)
    {args : List A} {σ0 : St} (h : wpF P k rs args σ0 fun o τ => ∃ i, C i ∧ RetQ σ0.length (rr i) (ss i) o τ) : CallA P f args σ0 fun o τ => ∃ i, C i ∧ o = .ret (rr i) ∧ τ = ss i := callQ_of_wpH (hint := noHint) hf hb hc hr h
end
end Go.Abs
