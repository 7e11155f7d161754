/-
  trace.Changed.
-/
import Derived.Test.YthglhccibdlccaaDoorB5
import Derived.Test.YthglhccibdlccaaDoorE25
namespace Go.Proofs.YthglhccibdlccaaDoor
open Go.Abs

-- splicery/trace.Changed · results ["4"]
def KChg : K :=
 K.seq (K.ops [⟨none, .box (some 2) (.tmp 0)⟩,
 ⟨none, .box (some 3) (.tmp 1)⟩,
 ⟨none, .mov (some 4) (.const (.slice none 0 0))⟩])
 (K.seq (K.wk (K.dops [(0, 1, ⟨none, .ld (some 7) (.tmp 2) 2 true⟩),
 (2, 1, ⟨none, .ld (some 9) (.tmp 3) 2 true⟩),
 (1, 7, ⟨none, .call (some 8) (.func 39) [(.tmp 7)]⟩),
 (3, 7, ⟨none, .call (some 10) (.func 39) [(.tmp 9)]⟩),
 (4, 302, ⟨none, .alr (some 5) 2 [(.map none), (.map none)]⟩),
 (5, 303, ⟨none, .alr (some 6) 3 [(.map none), (.map none)]⟩),
 (6, 0, ⟨none, .st none (.tmp 5) (.tmp 8) 2⟩),
 (7, 0, ⟨none, .st none (.tmp 6) (.tmp 10) 2⟩)]))
 (K.seq (K.dops [(0, 1, ⟨none, .addr (some 11) (.tmp 5) 0⟩),
 (1, 1, ⟨none, .ld (some 12) (.tmp 11) 1 false⟩),
 (2, 1, ⟨none, .addr (some 13) (.tmp 6) 0⟩),
 (3, 1, ⟨none, .ld (some 14) (.tmp 13) 1 false⟩),
 (5, 1, ⟨none, .addr (some 16) (.tmp 5) 1⟩),
 (6, 1, ⟨none, .ld (some 17) (.tmp 16) 1 false⟩),
 (7, 1, ⟨none, .addr (some 18) (.tmp 6) 1⟩),
 (8, 1, ⟨none, .ld (some 19) (.tmp 18) 1 false⟩),
 (4, 8, ⟨none, .call (some 15) (.func 40) [(.tmp 12), (.tmp 14), (.func 41)]⟩),
 (9, 8, ⟨none, .call (some 20) (.func 42) [(.tmp 17), (.tmp 19), (.func 43)]⟩),
 (10, 0, ⟨none, .app (some 21) 39 3 24 (.tmp 15) (.tmp 20)⟩),
 (11, 4, ⟨none, .call (some 22) (.func 14) [(.tmp 21)]⟩),
 (12, 0, ⟨none, .mov (some 4) (.tmp 22)⟩)])
 (K.ret)))
def hChg : Nat → Option (List (Nat × Nat)) := fun r => match r with | 1 => some [(0,1),(2,1),(1,7),(3,7),(4,302),(5,303),(6,0),(7,0)] | 2 => some [(0,1),(1,1),(2,1),(3,1),(5,1),(6,1),(7,1),(8,1),(4,8),(9,8),(10,0),(11,4),(12,0)] | _ => none
theorem cChg : compileH Tryd.prog Tryd.f23.ntmps hChg (Tryd.f23.body.getD .skip) = some KChg.erase := by kernel_rfl
@[simp] theorem calChg : callable Tryd.prog 23 = true := by kernel_rfl

@[simp] theorem tgtC_mid {f : Nat} {o : KOp} {env : Env} (h1 : 6 < f) (h2 : f < 1000) : tgtC f o env = True := by
  unfold tgtC
  split
  · omega
  · omega
  · rw [if_neg (by omega), if_neg (by omega)]

@[simp] theorem wpDop_alr {P : Program} {f d l : Nat} {zs : List Value} {K' : Env → St → Prop} {env : Env} {σ : St} : wpDop P f K' (.alr (some d) l zs) env σ = wpO P noPan K' (.alr (some d) l zs) env σ := by simp [wpDop, KOp.lite, KOp.keeps]

@[simp] theorem wpO_alr {P : Program} {d l : Nat} {zs : List Value} {Qp : Value → Env → St → Prop} {K' : Env → St → Prop} {env : Env} {σ : St} : wpO P Qp K' (.alr (some d) l zs) env σ = (match σ[l]? with
    | some .rsv => K' (env.put (some d) (.ptr l 0)) (σ.set l (.box (zs.map ofCell)))
    | _ => False) := rfl

/-- A call whose argument is a row, which is frozen first. -/
theorem dcallX_frz {P : Program} {σ : St} {d : Option Nat} {env : Env} {K : Env → St → Prop} {f : FuncId} {l n : Nat} {e : TypeId} {sz : Nat} {cs : List A} {r : A} (hσ : σ[l]? = some (.row false e sz n cs)) (h : Ret P f [.sl n cs] [] r []) (ha : argOk [] [.sl n cs] [.sl n cs])
    (hq : K (env.put d (ren [] σ.length r)) (σ.set l (.row true e sz n cs))) : wpDcallX P σ d K f [.row l n] env := by
  refine ⟨_, _, callA_frz hσ (call_emb h [] (by simp) trivial ha ⟨rfl, rfl⟩), ?_⟩
  simpa using hq

def chgD (p q : List Dfn) : List Id := setD (difL Dfn.id sameDf (fstD p) (fstD q) ++ difL Exp.id sameNd (nodD p) (nodD q))

theorem setD_perm {l l' : List Id} (h : l.Perm l') : setD l = setD l' := (setD_ss l).unique (setD_ss l') fun x => by rw [setD_mem, setD_mem, h.mem_iff]

set_option maxRecDepth 100000 in
theorem changed_ok (p q : Prg) (h1 : (fstD p.defs).length ≤ 100000) (h2 : (fstD q.defs).length ≤ 100000) (h3 : (nodD p.defs).length ≤ 100000) (h4 : (nodD q.defs).length ≤ 100000) :
    Ret Tryd.prog 23 [.agg (encP p), .agg (encP q)] [] (.sl (chgD p.defs q.defs).length (cellsI (chgD p.defs q.defs))) [] := by
  refine ret_of_wpH Tryd.func23 rfl cChg (rs := [.slot 4]) (by kernel_rfl) ?_
  unfold KChg
  simp -implicitDefEqProofs
  refine ⟨_, _, weak_rsvs 2, ?_⟩
  simp -implicitDefEqProofs [encP]
  refine dcallH0 (read_ok p) (by simp) (by simp [encP]) ?_
  simp -implicitDefEqProofs
  refine dcallH0 (read_ok q) (by simp) (by simp [encP]) ?_
  simp -implicitDefEqProofs
  refine dcallN (differD_ok 41 (by kernel_rfl) sameDf sameDef_ok (fstD p.defs) (fstD q.defs) (by omega) (by omega)) [4, 6] (by simp) (by simp) (by simp) (fun v τ h => by obtain ⟨l, _, h, _⟩ := h; cases h) fun r τ h => ?_
  obtain ⟨l1, hl1, hr, rfl⟩ := h
  cases hr
  refine ⟨by simp -implicitDefEqProofs; exact Keeps.append _ [_], ?_⟩
  simp -implicitDefEqProofs
  refine dcallN (differE_ok 43 (by kernel_rfl) sameNd sameNode_ok (nodD p.defs) (nodD q.defs) (by omega) (by omega)) [5, 7] (by simp) (by simp) (by simp) (fun v τ h => by obtain ⟨l, _, h, _⟩ := h; cases h) fun r τ h => ?_
  obtain ⟨l2, hl2, hr, rfl⟩ := h
  cases hr
  refine ⟨by simp -implicitDefEqProofs; exact Keeps.append _ [_], ?_⟩
  simp -implicitDefEqProofs
  have e1 := hl1.length_eq
  have e2 := hl2.length_eq
  have k1 : (difL Dfn.id sameDf (fstD p.defs) (fstD q.defs)).length ≤ 200000 := by
    have := List.length_filter_le (cD1 Dfn.id (fstD q.defs) sameDf) (fstD p.defs)
    have := List.length_filter_le (cD2 Dfn.id (fstD p.defs)) (fstD q.defs)
    simp only [difL, List.length_append, List.length_map]; omega
  have k2 : (difL Exp.id sameNd (nodD p.defs) (nodD q.defs)).length ≤ 200000 := by
    have := List.length_filter_le (cD1 Exp.id (nodD q.defs) sameNd) (nodD p.defs)
    have := List.length_filter_le (cD2 Exp.id (nodD p.defs)) (nodD q.defs)
    simp only [difL, List.length_append, List.length_map]; omega
  refine ⟨⟨by simp [maxLen]; omega, by omega⟩, ?_⟩
  have hs := set_ok (l1 ++ l2) (by rw [List.length_append]; omega)
  rw [setD_perm (hl1.append hl2), List.length_append, cellsI_append] at hs
  refine dcallX_frz rfl hs (by simp) ?_
  simp -implicitDefEqProofs
  exact ret_end 0 (by simp [chgD])
end Go.Proofs.YthglhccibdlccaaDoor
