/-
  The rules by which a walk over abstract states goes on, for simp.
-/
import Derived.Test.YthglhccibdlccaaGreatDoorX13
set_option linter.unusedVariables false
set_option linter.unusedSimpArgs false
namespace Go.Abs
def optP (o : Option A) (d : Option Nat) (K : Env → St → Prop) (env : Env) (σ : St) : Prop := match o with
  | some r => K (env.put d r) σ
  | none => False
def optD (o : Option A) (d : Option Nat) (K : Env → Prop) (env : Env) : Prop := match o with
  | some r => K (env.put d r)
  | none => False
def optC (o : Option (List A)) (J : List A → Prop) : Prop := match o with
  | some r => J r
  | none => False
def optS (o : Option St) (J : St → Prop) : Prop := match o with
  | some r => J r
  | none => False
section
variable {P : Program} {n0 : Nat} {Qp : Value → Env → St → Prop} {K' : Env → St → Prop} {KD : Env → Prop} {Q : Ex → Env → St → Prop} {env : Env} {σ : St} {d d' : Option Nat} {x y z : Operand}
@[simp] theorem optP_some {r : A} : optP (some r) d K' env σ = K' (env.put d r) σ := rfl
@[simp] theorem optD_some {r : A} : optD (some r) d KD env = KD (env.put d r) := rfl
@[simp] theorem optC_some {r : List A} {J : List A → Prop} : optC (some r) J = J r := rfl
@[simp] theorem optS_some {r : St} {J : St → Prop} : optS (some r) J = J r := rfl
@[simp] theorem put_none {r : A} : env.put none r = env := rfl
@[simp] theorem put_get {i t : Nat} {r : A} : (env.put (some i) r) t = if t = i then r else env t := rfl
@[simp] theorem ev_tmp {t : Nat} : ev env (.tmp t) = env t := rfl
@[simp] theorem ev_func {f : FuncId} : ev env (.func f) = .clo f [] [] := rfl
@[simp] theorem ev_int {k : IntKind} {n : Int} : ev env (.const (.int k n)) = .lit (.int k n) := rfl
@[simp] theorem ev_bool {b : Bool} : ev env (.const (.bool b)) = .lit (.bool b) := rfl
@[simp] theorem ev_string {s : ByteArray} : ev env (.const (.string s)) = .lit (.string s) := rfl
@[simp] theorem ev_nil : ev env (.const (.slice none 0 0)) = .nil := rfl
@[simp] theorem ev_nilFunc : ev env (.const .nilFunc) = .lit .nilFunc := rfl
@[simp] theorem ev_nilPtr : ev env (.const (.pointer none)) = .lit (.pointer none) := rfl
@[simp] theorem ev_agg {l : List Value} : ev env (.const (.agg ⟨l⟩)) = if okCells l then .agg (l.map ofCell) else .any := rfl
@[simp] theorem okCells_nil : okCells [] = true := rfl
@[simp] theorem okCells_cons {v : Value} {l : List Value} : okCells (v :: l) = (v.oneCell' && okCells l) := rfl
@[simp] theorem one_int {k : IntKind} {n : Int} : (Value.int k n).oneCell' = true := rfl
@[simp] theorem one_bool {b : Bool} : (Value.bool b).oneCell' = true := rfl
@[simp] theorem one_string {s : ByteArray} : (Value.string s).oneCell' = true := rfl
@[simp] theorem one_slice {a : Option Addr} {n c : Nat} : (Value.slice a n c).oneCell' = true := rfl
@[simp] theorem one_pointer {a : Option Addr} : (Value.pointer a).oneCell' = true := rfl
@[simp] theorem one_nilFunc : (Value.nilFunc).oneCell' = true := rfl
@[simp] theorem one_map {r : Option Nat} : (Value.map r).oneCell' = true := rfl
@[simp] theorem ofCell_int {k : IntKind} {n : Int} : ofCell (.int k n) = .lit (.int k n) := rfl
@[simp] theorem ofCell_bool {b : Bool} : ofCell (.bool b) = .lit (.bool b) := rfl
@[simp] theorem ofCell_string {s : ByteArray} : ofCell (.string s) = .lit (.string s) := rfl
@[simp] theorem ofCell_nil : ofCell (.slice none 0 0) = .nil := rfl
@[simp] theorem ofCell_nilFunc : ofCell .nilFunc = .lit .nilFunc := rfl
@[simp] theorem ofCell_nilPtr : ofCell (.pointer none) = .lit (.pointer none) := rfl
@[simp] theorem ofCell_nilMap : ofCell (.map none) = .lit (.map none) := rfl
@[simp] theorem cellsOf_nil : cellsOf .nil = some [.nil] := rfl
@[simp] theorem cellsOf_agg {cs : List A} : cellsOf (.agg cs) = some cs := rfl
@[simp] theorem cellsOf_lit {v : Value} : cellsOf (.lit v) = if v.oneCell' then some [.lit v] else none := rfl
@[simp] theorem cellsOf_sl {n : Nat} {cs : List A} : cellsOf (.sl n cs) = some [.sl n cs] := rfl
@[simp] theorem cellsOf_fsl {n : Nat} {cs : List A} : cellsOf (.fsl n cs) = some [.fsl n cs] := rfl
@[simp] theorem cellsOf_row {l n : Nat} : cellsOf (.row l n) = some [.row l n] := rfl
@[simp] theorem cellsOf_ptr {l n : Nat} : cellsOf (.ptr l n) = some [.ptr l n] := rfl
@[simp] theorem cellsOf_map {l : Nat} : cellsOf (.map l) = some [.map l] := rfl
@[simp] theorem cellsOf_win {l n o k c : Nat} : cellsOf (.win l n o k c) = some [.win l n o k c] := rfl
@[simp] theorem cellsOf_rwp {l n o : Nat} : cellsOf (.rwp l n o) = some [.rwp l n o] := rfl
@[simp] theorem cellsOf_rptr {cs : List A} : cellsOf (.rptr cs) = some [.rptr cs] := rfl
@[simp] theorem cellsOf_clo {f : FuncId} {a b : List A} : cellsOf (.clo f a b) = some [.clo f a b] := rfl
@[simp] theorem packA_true {cs : List A} : packA true cs = some (.agg cs) := rfl
@[simp] theorem packA_false {c : A} : packA false [c] = some c := rfl
@[simp] theorem ldA_rptr {cs : List A} {n : Nat} : ldA σ n (.rptr cs) = sub cs 0 n := rfl
def ldBox : Option AObj → Nat → Nat → Option (List A)
  | some (.box cs), off, n => sub cs off n
  | _, _, _ => none
def ldRow : Option AObj → Nat → Nat → Nat → Option (List A)
  | some (.row _ _ _ k cs), m, off, n => if m = k then sub cs off n else none
  | _, _, _, _ => none
@[simp] theorem ldBox_some {cs : List A} {off n : Nat} : ldBox (some (.box cs)) off n = sub cs off n := rfl
@[simp] theorem ldRow_some {fz : Bool} {e : TypeId} {s k : Nat} {cs : List A} {m off n : Nat} : ldRow (some (.row fz e s k cs)) m off n = if m = k then sub cs off n else none := rfl
@[simp] theorem ldA_ptr {l off n : Nat} : ldA σ n (.ptr l off) = ldBox σ[l]? off n := by
  simp only [ldA]
  cases σ[l]? with
  | none => rfl
  | some o => cases o <;> rfl
@[simp] theorem ldA_rwp {l m off n : Nat} : ldA σ n (.rwp l m off) = ldRow σ[l]? m off n := by
  simp only [ldA]
  cases σ[l]? with
  | none => rfl
  | some o => cases o <;> rfl
@[simp] theorem sub_eq {cs : List A} {off n : Nat} : sub cs off n = if off + n ≤ cs.length then some ((cs.drop off).take n) else none := rfl
def stBox : Option AObj → St → List A → Nat → Nat → Option St
  | some (.box ds), σ, cs, l, off => if off + cs.length ≤ ds.length then some (σ.set l (.box (ds.take off ++ cs ++ ds.drop (off + cs.length)))) else none
  | _, _, _, _, _ => none
def stRow : Option AObj → St → List A → Nat → Nat → Nat → Option St
  | some (.row false e sz k ds), σ, cs, l, m, off => if m = k ∧ off + cs.length ≤ ds.length then some (σ.set l (.row false e sz k (ds.take off ++ cs ++ ds.drop (off + cs.length)))) else none
  | _, _, _, _, _, _ => none
@[simp] theorem stBox_some {ds cs : List A} {l off : Nat} : stBox (some (.box ds)) σ cs l off = if off + cs.length ≤ ds.length then some (σ.set l (.box (ds.take off ++ cs ++ ds.drop (off + cs.length)))) else none := rfl
@[simp] theorem stRow_some {e : TypeId} {sz k : Nat} {ds cs : List A} {l m off : Nat} : stRow (some (.row false e sz k ds)) σ cs l m off = if m = k ∧ off + cs.length ≤ ds.length then some (σ.set l (.row false e sz k (ds.take off ++ cs ++ ds.drop (off + cs.length)))) else none := rfl
@[simp] theorem stA_ptr {cs : List A} {l off : Nat} : stA σ cs (.ptr l off) = stBox σ[l]? σ cs l off := by
  simp only [stA]
  cases σ[l]? with
  | none => rfl
  | some o => cases o <;> rfl
@[simp] theorem stA_rwp {cs : List A} {l m off : Nat} : stA σ cs (.rwp l m off) = stRow σ[l]? σ cs l m off := by
  simp only [stA]
  cases σ[l]? with
  | none => rfl
  | some o =>
    cases o <;> try rfl
    rename_i fz e s n ds
    cases fz <;> rfl
def rowIs : Option AObj → Nat → Nat → (List A → Prop) → Prop
  | some (.row _ _ s m cs), n, sz, J => n = m ∧ s = sz ∧ J cs
  | _, _, _, _ => False
@[simp] theorem rowIs_some {fz : Bool} {e : TypeId} {s m n sz : Nat} {cs : List A} {J : List A → Prop} : rowIs (some (.row fz e s m cs)) n sz J = (n = m ∧ s = sz ∧ J cs) := rfl
@[simp] theorem beq_true' {b : Bool} : (b == true) = b := by cases b <;> rfl
@[simp] theorem condP_true {A B : Env → St → Prop} : condP true A B env σ = A env σ := by simp [condP]
@[simp] theorem condP_false {A B : Env → St → Prop} : condP false A B env σ = B env σ := by simp [condP]
@[simp] theorem skipK_eq : skipK d K' env σ = K' (env.put d (.lit undef)) σ := rfl
@[simp] theorem outK_ret {r : A} : outK d env K' Qp (.ret r) σ = K' (env.put d r) σ := rfl
@[simp] theorem outK_pan {v : Value} : outK d env K' Qp (.pan v) σ = Qp v env σ := rfl
@[simp] theorem thn_norm {J : Env → St → Prop} : thn J Q .norm = J := rfl
@[simp] theorem thn_ret {J : Env → St → Prop} : thn J Q .ret = Q .ret := rfl
@[simp] theorem thn_exit {J : Env → St → Prop} {i : Nat} : thn J Q (.exit i) = Q (.exit i) := rfl
@[simp] theorem thn_pan {J : Env → St → Prop} {v : Value} : thn J Q (.pan v) = Q (.pan v) := rfl
@[simp] theorem blk_norm {id : Nat} : blk id Q .norm = Q .norm := rfl
@[simp] theorem blk_ret {id : Nat} : blk id Q .ret = Q .ret := rfl
@[simp] theorem blk_exit {id i : Nat} : blk id Q (.exit i) = if i = id then Q .norm else Q (.exit i) := rfl
@[simp] theorem blk_pan {id : Nat} {v : Value} : blk id Q (.pan v) = Q (.pan v) := rfl
@[simp] theorem rnd_ret {I : Nat → Env → St → Prop} {n : Nat} : rnd n0 I n Q .ret = Q .ret := rfl
@[simp] theorem rnd_exit {I : Nat → Env → St → Prop} {n i : Nat} : rnd n0 I n Q (.exit i) = Q (.exit i) := rfl
@[simp] theorem rnd_pan {I : Nat → Env → St → Prop} {n : Nat} {v : Value} : rnd n0 I n Q (.pan v) = Q (.pan v) := rfl
@[simp] theorem fin_norm {rs : List RS} {R : Out → St → Prop} : fin rs R .norm = retP rs R := rfl
@[simp] theorem fin_ret {rs : List RS} {R : Out → St → Prop} : fin rs R .ret = retP rs R := rfl
@[simp] theorem fin_pan {rs : List RS} {R : Out → St → Prop} {v : Value} : fin rs R (.pan v) env σ = R (.pan v) σ := rfl
@[simp] theorem retP_slot {t : Nat} {R : Out → St → Prop} : retP [.slot t] R env σ = R (.ret (env t)) σ := rfl
@[simp] theorem retP_two {t u : Nat} {R : Out → St → Prop} : retP [.slot t, .slot u] R env σ = R (.ret (.tup [env t, env u])) σ := rfl
@[simp] theorem retP_three {t u v : Nat} {R : Out → St → Prop} : retP [.slot t, .slot u, .slot v] R env σ = R (.ret (.tup [env t, env u, env v])) σ := rfl
@[simp] theorem argsEnv_zero {a : A} {l : List A} : argsEnv (a :: l) 0 = a := rfl
@[simp] theorem argsEnv_succ {a : A} {l : List A} {n : Nat} : argsEnv (a :: l) (n + 1) = argsEnv l n := by simp [argsEnv]
@[simp] theorem argsEnv_nil {n : Nat} : argsEnv [] n = .lit undef := by simp [argsEnv]
@[simp] theorem wpF_eq {k : K} {rs : List RS} {args : List A} {R : Out → St → Prop} : wpF P k rs args σ R = wpK P σ.length k (fin rs R) (argsEnv args) σ := rfl
@[simp] theorem wpK_skip : wpK P n0 .skip Q env σ = Q .norm env σ := rfl
@[simp] theorem wpK_ret : wpK P n0 .ret Q env σ = Q .ret env σ := rfl
@[simp] theorem wpK_exit {i : Nat} : wpK P n0 (.exit i) Q env σ = Q (.exit i) env σ := rfl
@[simp] theorem wpK_seq {a b : K} : wpK P n0 (.seq a b) Q env σ = wpK P n0 a (thn (wpK P n0 b Q) Q) env σ := rfl
@[simp] theorem wpK_block {i : Nat} {a : K} : wpK P n0 (.block i a) Q env σ = wpK P n0 a (blk i Q) env σ := rfl
@[simp] theorem wpK_loop {a : K} : wpK P n0 (.loop a) Q env σ = LoopP n0 (wpK P n0 a) Q env σ := rfl
@[simp] theorem wpK_wk {a : K} : wpK P n0 (.wk a) Q env σ = Wk n0 (wpK P n0 a Q) env σ := rfl
@[simp] theorem wpK_ops {l : List KG} : wpK P n0 (.ops l) Q env σ = wpOps P (fun v => Q (.pan v)) (Q .norm) l env σ := rfl
@[simp] theorem wpK_dops {l : List (Nat × Nat × KG)} : wpK P n0 (.dops l) Q env σ = wpD P (Q .norm) l env σ := rfl
@[simp] theorem wpK_rng {ps : List Nat} {a b : K} : wpK P n0 (.rng x ps a b) Q env σ = RngP P n0 x ps (fun n => wpK P n a) (fun n => wpK P n b) Q env σ := rfl
@[simp] theorem asgQ_norm {S : St} {J : Env → St → Prop} : asgQ S J .norm env σ = (σ = S ∧ J env σ) := rfl
@[simp] theorem endQ_norm {S : St} : endQ n0 S .norm env σ = Wk n0 (fun _ σ' => σ' = S) env σ := rfl
@[simp] theorem putPs_nil {xs : List A} : putPs env [] xs = env := by cases xs <;> rfl
@[simp] theorem putPs_cons {p : Nat} {ps : List Nat} {a : A} {xs : List A} : putPs env (p :: ps) (a :: xs) = putPs (env.put (some p) a) ps xs := rfl
@[simp] theorem cellsOf_yv {b : Nat} : cellsOf (yv b) = some [yv b] := rfl
def condV (a : A) (A B : Env → St → Prop) (env : Env) (σ : St) : Prop := match a with
  | .lit (.bool t) => condP t A B env σ
  | _ => False
@[simp] theorem condV_bool {t : Bool} {A B : Env → St → Prop} : condV (.lit (.bool t)) A B env σ = condP t A B env σ := rfl
@[simp] theorem wpK_cond {a b : K} : wpK P n0 (.cond x a b) Q env σ = condV (ev env x) (wpK P n0 a Q) (wpK P n0 b Q) env σ := rfl
@[simp] theorem wpOps_nil : wpOps P Qp K' [] env σ = K' env σ := rfl
@[simp] theorem wpOps_cons {o : KOp} {l : List KG} : wpOps P Qp K' (⟨none, o⟩ :: l) env σ = wpO P Qp (wpOps P Qp K' l) o env σ := rfl
def guardV (a : A) (want : Bool) (A B : Env → St → Prop) (env : Env) (σ : St) : Prop := match a with
  | .lit (.bool b) => condP (b == want) A B env σ
  | .lit (.tuple _) => B env σ
  | _ => False
@[simp] theorem guardV_bool {b want : Bool} {A B : Env → St → Prop} : guardV (.lit (.bool b)) want A B env σ = condP (b == want) A B env σ := rfl
@[simp] theorem guardV_undef {want : Bool} {A B : Env → St → Prop} : guardV (.lit undef) want A B env σ = B env σ := rfl
@[simp] theorem wpOps_guard {s : Nat} {want : Bool} {o : KOp} {l : List KG} : wpOps P Qp K' (⟨some (s, want), o⟩ :: l) env σ = guardV (env s) want (wpO P Qp (wpOps P Qp K' l) o) (skipK o.dst (wpOps P Qp K' l)) env σ := by
  simp only [wpOps, wpG, guardV]
  generalize env s = a
  cases a <;> try rfl
  all_goals (rename_i v; cases v <;> rfl)
def pickP (a : A) (x y : A) (J : A → Prop) : Prop := match a with
  | .lit (.bool t) => J (if t then x else y)
  | _ => False
@[simp] theorem pickP_bool {t : Bool} {a b : A} {J : A → Prop} : pickP (.lit (.bool t)) a b J = J (if t then a else b) := rfl
def optJ (o : Option A) (J : A → Prop) : Prop := match o with
  | some r => J r
  | none => False
@[simp] theorem optJ_some {r : A} {J : A → Prop} : optJ (some r) J = J r := rfl
theorem optJ_pure {o : Option A} {J : A → Prop} : pureP (o.map fun r => (True, r)) J = optJ o J := by cases o <;> simp [pureP, optJ]
@[simp] theorem wpO_mov : wpO P Qp K' (.mov d x) env σ = K' (env.put d (ev env x)) σ := by simp [wpO, pureP, pureO, KOp.dst]
theorem pick_pure {J : A → Prop} : pureP (pureO env σ (.pick d x y z)) J = pickP (ev env x) (ev env y) (ev env z) J := by
  simp only [pureO, pickP, pureP]
  generalize ev env x = a
  cases a <;> try rfl
  rename_i v
  cases v <;> simp
@[simp] theorem wpO_pick : wpO P Qp K' (.pick d x y z) env σ = pickP (ev env x) (ev env y) (ev env z) fun r => K' (env.put d r) σ := pick_pure (d := d)
@[simp] theorem wpO_alloc {zs : List Value} : wpO P Qp K' (.alloc d zs) env σ = K' (env.put d (.ptr σ.length 0)) (σ ++ [.box (zs.map ofCell)]) := rfl
@[simp] theorem wpO_box : wpO P Qp K' (.box d x) env σ = optC (cellsOf (ev env x)) fun cs => K' (env.put d (.ptr σ.length 0)) (σ ++ [.box cs]) := rfl
@[simp] theorem wpO_ld {n : Nat} {agg : Bool} : wpO P Qp K' (.ld d x n agg) env σ = optJ ((ldA σ n (ev env x)).bind (packA agg)) fun r => K' (env.put d r) σ := optJ_pure
@[simp] theorem wpO_st {n : Nat} : wpO P Qp K' (.st d x y n) env σ = optC (cellsOf (ev env y)) fun cs => cs.length = n ∧ optS (stA σ cs (ev env x)) fun σ' => K' (env.put d (.lit undef)) σ' := by
  simp only [wpO, optC, optS]
  cases cellsOf (ev env y) with
  | none => rfl
  | some cs =>
    simp only
    by_cases h : cs.length = n
    · simp only [h, if_true, true_and]
      cases stA σ cs (ev env x) <;> rfl
    · simp [h]
def addrA (σ : St) (off : Nat) : A → Option A
  | .ptr l o => some (.ptr l (o + off))
  | .rptr cs => some (.rptr (cs.drop off))
  | .rwp l n o => match σ[l]? with
    | some (.row _ _ _ m _) => if n = m then some (.rwp l n (o + off)) else none
    | _ => none
  | _ => none
@[simp] theorem addrA_ptr {l o off : Nat} : addrA σ off (.ptr l o) = some (.ptr l (o + off)) := rfl
@[simp] theorem addrA_rptr {cs : List A} {off : Nat} : addrA σ off (.rptr cs) = some (.rptr (cs.drop off)) := rfl
theorem addrA_pure {off : Nat} : pureO env σ (.addr d x off) = (addrA σ off (ev env x)).map fun r => (True, r) := by
  simp only [pureO]
  generalize ev env x = a
  cases a <;> simp only [addrA] <;> try rfl
  rename_i l n o
  cases σ[l]? with
  | none => rfl
  | some ob =>
    cases ob <;> try rfl
    simp only
    split <;> rfl
@[simp] theorem wpO_addr {off : Nat} : wpO P Qp K' (.addr d x off) env σ = optJ (addrA σ off (ev env x)) fun r => K' (env.put d r) σ := by
  show pureP (pureO env σ (.addr d x off)) _ = _
  rw [addrA_pure, optJ_pure]
  rfl
def idxP (σ : St) (sz : Nat) (a i : A) (J : A → Prop) : Prop := match a, i with
  | .sl n cs, .lit (.int _ j) => ((0 ≤ j ∧ j < n) ∧ j.toNat * sz < cs.length) ∧ J (.rptr (cs.drop (j.toNat * sz)))
  | .fsl n cs, .lit (.int _ j) => ((0 ≤ j ∧ j < n) ∧ j.toNat * sz < cs.length) ∧ J (.rptr (cs.drop (j.toNat * sz)))
  | .row l n, .lit (.int _ j) => match σ[l]? with
      | some (.row _ _ s m _) => if n = m ∧ s = sz then (0 ≤ j ∧ j < n) ∧ J (.rwp l n (j.toNat * sz)) else False
      | _ => False
  | .win l n o k' _, .lit (.int _ j) => match σ[l]? with
      | some (.row _ _ s m _) => if n = m ∧ s = sz then (0 ≤ j ∧ j < k') ∧ J (.rwp l n (o + j.toNat * sz)) else False
      | _ => False
  | _, _ => False
theorem idxP_pure {sz : Nat} {J : A → Prop} : pureP (pureO env σ (.idx d x y sz)) J = idxP σ sz (ev env x) (ev env y) J := by
  simp only [pureO, idxP, pureP]
  generalize ev env x = a
  generalize ev env y = b
  cases a <;> cases b <;> try rfl
  all_goals (rename_i v; cases v <;> try rfl)
  · rename_i l n k j
    simp only
    cases σ[l]? with
    | none => rfl
    | some ob =>
      cases ob <;> try rfl
      rename_i fz e s m cs
      by_cases h : n = m ∧ s = sz <;> simp [h]
  · rename_i l n o k' c k j
    simp only
    cases σ[l]? with
    | none => rfl
    | some ob =>
      cases ob <;> try rfl
      rename_i fz e s m cs
      by_cases h : n = m ∧ s = sz <;> simp [h]
@[simp] theorem wpO_idx {sz : Nat} : wpO P Qp K' (.idx d x y sz) env σ = idxP σ sz (ev env x) (ev env y) fun r => K' (env.put d r) σ := idxP_pure (d := d)
@[simp] theorem idxP_sl {sz n : Nat} {cs : List A} {k : IntKind} {j : Int} {J : A → Prop} : idxP σ sz (.sl n cs) (.lit (.int k j)) J = (((0 ≤ j ∧ j < n) ∧ j.toNat * sz < cs.length) ∧ J (.rptr (cs.drop (j.toNat * sz)))) := rfl
@[simp] theorem idxP_fsl {sz n : Nat} {cs : List A} {k : IntKind} {j : Int} {J : A → Prop} : idxP σ sz (.fsl n cs) (.lit (.int k j)) J = (((0 ≤ j ∧ j < n) ∧ j.toNat * sz < cs.length) ∧ J (.rptr (cs.drop (j.toNat * sz)))) := rfl
def idxarrP (len sz : Nat) (a i : A) (J : A → Prop) : Prop := match a, i with
  | .ptr l o, .lit (.int _ j) => (0 ≤ j ∧ j < len) ∧ J (.ptr l (o + j.toNat * sz))
  | _, _ => False
@[simp] theorem idxarrP_ptr {len sz l o : Nat} {k : IntKind} {j : Int} {J : A → Prop} : idxarrP len sz (.ptr l o) (.lit (.int k j)) J = ((0 ≤ j ∧ j < len) ∧ J (.ptr l (o + j.toNat * sz))) := rfl
theorem idxarrP_pure {len sz : Nat} {J : A → Prop} : pureP (pureO env σ (.idxarr d x y len sz)) J = idxarrP len sz (ev env x) (ev env y) J := by
  simp only [pureO, idxarrP, pureP]
  generalize ev env x = a
  generalize ev env y = b
  cases a <;> cases b <;> try rfl
  rename_i v; cases v <;> rfl
@[simp] theorem wpO_idxarr {len sz : Nat} : wpO P Qp K' (.idxarr d x y len sz) env σ = idxarrP len sz (ev env x) (ev env y) fun r => K' (env.put d r) σ := idxarrP_pure (d := d)
def binP (op : BinOp) (a b : A) (J : A → Prop) : Prop := match a, b with
  | .lit (.int k m), .lit (.int k' n) => if k = k' then (match intOp op k m n with | some (p, r) => p ∧ J r | none => False) else False
  | .lit (.string s), .lit (.string t) => (match strOp op s t with | some (p, r) => p ∧ J r | none => False)
  | _, _ => False
theorem binP_pure {op : BinOp} {J : A → Prop} : pureP (pureO env σ (.bin d op x y)) J = binP op (ev env x) (ev env y) J := by
  simp only [pureO, binP, pureP]
  generalize ev env x = a
  generalize ev env y = b
  cases a <;> try rfl
  rename_i u
  cases b <;> try (cases u <;> rfl)
  rename_i v
  cases u <;> cases v <;> try rfl
  case lit.lit.int.int k m k' n =>
    by_cases h : k = k'
    · simp only [h, if_true]
      cases intOp op k' m n <;> rfl
    · simp [h]
@[simp] theorem wpO_bin {op : BinOp} : wpO P Qp K' (.bin d op x y) env σ = binP op (ev env x) (ev env y) fun r => K' (env.put d r) σ := binP_pure (d := d)
@[simp] theorem binP_str {s t : ByteArray} {J : A → Prop} : binP .add (.lit (.string s)) (.lit (.string t)) J = (s.size + t.size ≤ 1000000 ∧ J (.lit (.string (s ++ t)))) := rfl
@[simp] theorem binP_add {k : IntKind} {m n : Int} {J : A → Prop} : binP .add (.lit (.int k m)) (.lit (.int k n)) J = J (.lit (.int k (k.wrap (m + n)))) := by simp [binP, intOp]
@[simp] theorem binP_sub {k : IntKind} {m n : Int} {J : A → Prop} : binP .sub (.lit (.int k m)) (.lit (.int k n)) J = J (.lit (.int k (k.wrap (m - n)))) := by simp [binP, intOp]
@[simp] theorem binP_mul {k : IntKind} {m n : Int} {J : A → Prop} : binP .mul (.lit (.int k m)) (.lit (.int k n)) J = J (.lit (.int k (k.wrap (m * n)))) := by simp [binP, intOp]
@[simp] theorem binP_quo {k : IntKind} {m n : Int} {J : A → Prop} : binP .quo (.lit (.int k m)) (.lit (.int k n)) J = (n ≠ 0 ∧ J (.lit (.int k (k.wrap (m.tdiv n))))) := by simp [binP, intOp]
@[simp] theorem binP_rem {k : IntKind} {m n : Int} {J : A → Prop} : binP .rem (.lit (.int k m)) (.lit (.int k n)) J = (n ≠ 0 ∧ J (.lit (.int k (m.tmod n)))) := by simp [binP, intOp]
@[simp] theorem binP_lss {k : IntKind} {m n : Int} {J : A → Prop} : binP .lss (.lit (.int k m)) (.lit (.int k n)) J = J (.lit (.bool (decide (m < n)))) := by simp [binP, intOp]
@[simp] theorem binP_leq {k : IntKind} {m n : Int} {J : A → Prop} : binP .leq (.lit (.int k m)) (.lit (.int k n)) J = J (.lit (.bool (decide (m ≤ n)))) := by simp [binP, intOp]
@[simp] theorem binP_gtr {k : IntKind} {m n : Int} {J : A → Prop} : binP .gtr (.lit (.int k m)) (.lit (.int k n)) J = J (.lit (.bool (decide (n < m)))) := by simp [binP, intOp]
@[simp] theorem binP_geq {k : IntKind} {m n : Int} {J : A → Prop} : binP .geq (.lit (.int k m)) (.lit (.int k n)) J = J (.lit (.bool (decide (n ≤ m)))) := by simp [binP, intOp]
noncomputable def eqA (k : SK) (ng : Bool) (a b : A) : Option A := (eqCell k a b).map (truthOf ng)
noncomputable def eqsA (ks : List SK) (ng : Bool) (a b : A) : Option A := match a, b with
  | .agg xs, .agg ys => (eqCells ks xs ys).map (truthOf ng)
  | _, _ => none
theorem eqv_pure {k : SK} {ng : Bool} {J : A → Prop} : pureP (pureO env σ (.eqv d ng k x y)) J = optJ (eqA k ng (ev env x) (ev env y)) J := by
  simp only [pureO, eqA]
  cases eqCell k (ev env x) (ev env y) <;> simp [pureP, optJ]
theorem eqs_pure {ks : List SK} {ng : Bool} {J : A → Prop} : pureP (pureO env σ (.eqs d ng ks x y)) J = optJ (eqsA ks ng (ev env x) (ev env y)) J := by
  simp only [pureO, eqsA]
  generalize ev env x = a
  generalize ev env y = b
  cases a <;> cases b <;> try rfl
  rename_i xs ys
  simp only
  cases eqCells ks xs ys <;> simp [pureP, optJ]
@[simp] theorem wpO_eqv {k : SK} {ng : Bool} : wpO P Qp K' (.eqv d ng k x y) env σ = optJ (eqA k ng (ev env x) (ev env y)) fun r => K' (env.put d r) σ := eqv_pure (d := d)
@[simp] theorem wpO_eqs {ks : List SK} {ng : Bool} : wpO P Qp K' (.eqs d ng ks x y) env σ = optJ (eqsA ks ng (ev env x) (ev env y)) fun r => K' (env.put d r) σ := eqs_pure (d := d)
@[simp] theorem eqA_int {k : IntKind} {m n : Int} : eqA .i false (.lit (.int k m)) (.lit (.int k n)) = some (.lit (.bool (decide (m = n)))) := by simp [eqA, eqCell, truthOf]
@[simp] theorem eqA_intn {k : IntKind} {m n : Int} : eqA .i true (.lit (.int k m)) (.lit (.int k n)) = some (.lit (.bool (decide (m ≠ n)))) := by simp [eqA, eqCell, truthOf]
@[simp] theorem eqA_bool {m n : Bool} : eqA .b false (.lit (.bool m)) (.lit (.bool n)) = some (.lit (.bool (decide (m = n)))) := by simp [eqA, eqCell, truthOf]
@[simp] theorem eqA_booln {m n : Bool} : eqA .b true (.lit (.bool m)) (.lit (.bool n)) = some (.lit (.bool (decide (m ≠ n)))) := by simp [eqA, eqCell, truthOf]
def negP (a : A) (J : A → Prop) : Prop := match a with | .lit (.int k m) => J (.lit (.int k (k.wrap (0 - m)))) | _ => False
@[simp] theorem negP_int {k : IntKind} {m : Int} {J : A → Prop} : negP (.lit (.int k m)) J = J (.lit (.int k (k.wrap (0 - m)))) := rfl
theorem neg_pure {J : A → Prop} : pureP (pureO env σ (.neg d x)) J = negP (ev env x) J := by
  simp only [pureO, negP]
  generalize ev env x = a
  cases a <;> try rfl
  rename_i v; cases v <;> simp [pureP]
@[simp] theorem wpO_neg : wpO P Qp K' (.neg d x) env σ = negP (ev env x) fun r => K' (env.put d r) σ := neg_pure (d := d)
def notP (a : A) (J : A → Prop) : Prop := match a with | .lit (.bool b) => J (.lit (.bool !b)) | _ => False
@[simp] theorem notP_bool {b : Bool} {J : A → Prop} : notP (.lit (.bool b)) J = J (.lit (.bool !b)) := rfl
theorem not_pure {J : A → Prop} : pureP (pureO env σ (.not d x)) J = notP (ev env x) J := by
  simp only [pureO, notP]
  generalize ev env x = a
  cases a <;> try rfl
  rename_i v; cases v <;> simp [pureP]
@[simp] theorem wpO_not : wpO P Qp K' (.not d x) env σ = notP (ev env x) fun r => K' (env.put d r) σ := not_pure (d := d)
def lenP (σ : St) (a : A) (J : A → Prop) : Prop := match a with
  | .nil => J (.lit (.int .i64 0))
  | .sl n _ => n ≤ maxLen → J (.lit (.int .i64 n))
  | .fsl n _ => n ≤ maxLen → J (.lit (.int .i64 n))
  | .row l n => match σ[l]? with
      | some (.row _ _ _ m _) => if n = m then J (.lit (.int .i64 n)) else False
      | _ => False
  | .win l n _ k _ => match σ[l]? with
      | some (.row _ _ _ m _) => if n = m then J (.lit (.int .i64 k)) else False
      | _ => False
  | _ => False
@[simp] theorem lenP_nil {J : A → Prop} : lenP σ .nil J = J (.lit (.int .i64 0)) := rfl
@[simp] theorem lenP_sl {n : Nat} {cs : List A} {J : A → Prop} : lenP σ (.sl n cs) J = (n ≤ maxLen → J (.lit (.int .i64 n))) := rfl
@[simp] theorem lenP_fsl {n : Nat} {cs : List A} {J : A → Prop} : lenP σ (.fsl n cs) J = (n ≤ maxLen → J (.lit (.int .i64 n))) := rfl
@[simp] theorem wpO_len : wpO P Qp K' (.len d false x) env σ = lenP σ (ev env x) fun r => K' (env.put d r) σ := by
  simp only [wpO, lenP, pureO]
  generalize ev env x = a
  cases a <;> simp only [pureP, true_and]
  · rename_i l n
    cases σ[l]? with
    | none => rfl
    | some ob =>
      cases ob <;> try rfl
      rename_i fz e s m cs
      by_cases h : n = m <;> simp [h]
  · rename_i l n _ k _
    cases σ[l]? with
    | none => rfl
    | some ob =>
      cases ob <;> try rfl
      rename_i fz e s m cs
      by_cases h : n = m <;> simp [h]
def lensP (a : A) (J : A → Prop) : Prop := match a with | .lit (.string s) => J (.lit (.int .i64 s.size)) | _ => False
@[simp] theorem lensP_string {s : ByteArray} {J : A → Prop} : lensP (.lit (.string s)) J = J (.lit (.int .i64 s.size)) := rfl
theorem lens_pure {J : A → Prop} : pureP (pureO env σ (.len d true x)) J = lensP (ev env x) J := by
  simp only [pureO, lensP]
  generalize ev env x = a
  cases a <;> try rfl
  rename_i v; cases v <;> simp [pureP]
@[simp] theorem wpO_lens : wpO P Qp K' (.len d true x) env σ = lensP (ev env x) fun r => K' (env.put d r) σ := lens_pure (d := d)
def mmA (mx : Bool) : List A → Option A
  | .lit (.int k a) :: rest => minmax mx a rest k
  | _ => none
@[simp] theorem mmA_two_max {k : IntKind} {m n : Int} : mmA true [.lit (.int k m), .lit (.int k n)] = some (.lit (.int k (if m < n then n else m))) := by simp [mmA, minmax]
@[simp] theorem mmA_two_min {k : IntKind} {m n : Int} : mmA false [.lit (.int k m), .lit (.int k n)] = some (.lit (.int k (if n < m then n else m))) := by simp [mmA, minmax]
theorem mm_pure {mx : Bool} {xs : List Operand} {J : A → Prop} : pureP (pureO env σ (.mm d mx xs)) J = optJ (mmA mx (xs.map (ev env))) J := by
  simp only [pureO]
  generalize xs.map (ev env) = l
  cases l with
  | nil => rfl
  | cons a l =>
    cases a <;> try rfl
    rename_i v
    cases v <;> try rfl
    exact optJ_pure
@[simp] theorem wpO_mm {mx : Bool} {xs : List Operand} : wpO P Qp K' (.mm d mx xs) env σ = optJ (mmA mx (xs.map (ev env))) fun r => K' (env.put d r) σ := mm_pure (d := d)
def extP (i : Nat) (a : A) (J : A → Prop) : Prop := match a with | .tup vs => (match vs[i]? with | some r => J r | none => False) | _ => False
@[simp] theorem extP_tup {i : Nat} {vs : List A} {J : A → Prop} : extP i (.tup vs) J = optJ vs[i]? J := rfl
theorem ext_pure {i : Nat} {J : A → Prop} : pureP (pureO env σ (.ext d x i)) J = extP i (ev env x) J := by
  simp only [pureO, extP]
  generalize ev env x = a
  cases a <;> try rfl
  rename_i vs
  simp only
  cases vs[i]? <;> simp [pureP]
@[simp] theorem wpO_ext {i : Nat} : wpO P Qp K' (.ext d x i) env σ = extP i (ev env x) fun r => K' (env.put d r) σ := ext_pure (d := d)
@[simp] theorem wpO_clo {f : FuncId} {a b : List Operand} : wpO P Qp K' (.clo d f a b) env σ = K' (env.put d (.clo f (a.map (ev env)) (b.map (ev env)))) σ := by simp [wpO, pureO, pureP, KOp.dst]
theorem build_pure {zs : List Value} {ps : List (Nat × Nat × Operand)} {J : A → Prop} : pureP (pureO env σ (.build d zs ps)) J = optJ ((fillA (zs.map ofCell) (ps.map fun (o, s, x) => (o, s, ev env x))).map .agg) J := by
  simp only [pureO]
  cases fillA (zs.map ofCell) (ps.map fun (o, s, x) => (o, s, ev env x)) <;> simp [pureP, optJ]
@[simp] theorem wpO_build {zs : List Value} {ps : List (Nat × Nat × Operand)} : wpO P Qp K' (.build d zs ps) env σ = optJ ((fillA (zs.map ofCell) (ps.map fun (o, s, x) => (o, s, ev env x))).map .agg) fun r => K' (env.put d r) σ := build_pure (d := d)
@[simp] theorem wpO_bslice {e : TypeId} {sz n : Nat} {zs : List Value} {ps : List (Nat × Nat × Operand)} : wpO P Qp K' (.bslice d e sz n zs ps) env σ = optJ ((fillA (zs.map ofCell) (ps.map fun (o, s, x) => (o, s, ev env x))).map (.fsl n)) fun r => K' (env.put d r) σ := by
  simp only [wpO, optJ]
  cases fillA (zs.map ofCell) (ps.map fun (o, s, x) => (o, s, ev env x)) <;> simp
@[simp] theorem wpO_brow {e : TypeId} {sz n : Nat} {zs : List Value} {ps : List (Nat × Nat × Operand)} : wpO P Qp K' (.brow d e sz n zs ps) env σ = optC (fillA (zs.map ofCell) (ps.map fun (o, s, x) => (o, s, ev env x))) fun cs => K' (env.put d (.row σ.length n)) (σ ++ [.row false e sz n cs]) := by
  simp only [wpO, optC]
  cases fillA (zs.map ofCell) (ps.map fun (o, s, x) => (o, s, ev env x)) <;> simp
def isnP (a : A) (neg : Bool) (J : A → Prop) : Prop := match a with
  | .nil => J (.lit (.bool !neg))
  | .sl n _ => n ≠ 0 ∧ J (.lit (.bool neg))
  | .fsl n _ => n ≠ 0 ∧ J (.lit (.bool neg))
  | _ => False
@[simp] theorem isnP_nil {neg : Bool} {J : A → Prop} : isnP .nil neg J = J (.lit (.bool !neg)) := rfl
@[simp] theorem isnP_sl {neg : Bool} {n : Nat} {cs : List A} {J : A → Prop} : isnP (.sl n cs) neg J = (n ≠ 0 ∧ J (.lit (.bool neg))) := rfl
@[simp] theorem isnP_fsl {neg : Bool} {n : Nat} {cs : List A} {J : A → Prop} : isnP (.fsl n cs) neg J = (n ≠ 0 ∧ J (.lit (.bool neg))) := rfl
theorem isn_pure {neg : Bool} {J : A → Prop} : pureP (pureO env σ (.isn d neg x)) J = isnP (ev env x) neg J := by
  simp only [pureO, isnP, pureP]
  generalize ev env x = a
  cases a <;> simp
def iszP (σ : St) (a : A) (neg : Bool) (J : A → Prop) : Prop := match a with
  | .nil => J (.lit (.bool !neg))
  | .sl n _ => J (.lit (.bool neg)) ∧ (n = 0 → J (.lit (.bool !neg)))
  | .row l n => (match σ[l]? with
      | some (.row _ _ _ m _) => n = m ∧ J (.lit (.bool neg)) ∧ (n = 0 → J (.lit (.bool !neg)))
      | _ => False)
  | _ => False
@[simp] theorem iszP_nil {neg : Bool} {J : A → Prop} : iszP σ .nil neg J = J (.lit (.bool !neg)) := rfl
@[simp] theorem iszP_sl {neg : Bool} {n : Nat} {cs : List A} {J : A → Prop} : iszP σ (.sl n cs) neg J = (J (.lit (.bool neg)) ∧ (n = 0 → J (.lit (.bool !neg)))) := rfl
@[simp] theorem wpO_isz {neg : Bool} : wpO P Qp K' (.isz d neg x) env σ = iszP σ (ev env x) neg fun r => K' (env.put d r) σ := by
  simp only [wpO, iszP]
  cases ev env x <;> rfl
@[simp] theorem wpO_isn {neg : Bool} : wpO P Qp K' (.isn d neg x) env σ = isnP (ev env x) neg fun r => K' (env.put d r) σ := isn_pure (d := d)
@[simp] theorem fillA_nil {cs : List A} : fillA cs [] = some cs := rfl
def fillS (c : Option (List A)) (o s : Nat) (cs : List A) (rest : List (Nat × Nat × A)) : Option (List A) := match c with
  | some l => if l.length = s ∧ o + s ≤ cs.length then fillA (cs.take o ++ l ++ cs.drop (o + s)) rest else none
  | none => none
@[simp] theorem fillS_some {l : List A} {o s : Nat} {cs : List A} {rest : List (Nat × Nat × A)} : fillS (some l) o s cs rest = if l.length = s ∧ o + s ≤ cs.length then fillA (cs.take o ++ l ++ cs.drop (o + s)) rest else none := rfl
@[simp] theorem fillA_cons {cs : List A} {o s : Nat} {a : A} {rest : List (Nat × Nat × A)} : fillA cs ((o, s, a) :: rest) = fillS (cellsOf a) o s cs rest := rfl
def elP (σ : St) (sz : Nat) (a : A) (J : Nat → List A → Prop) : Prop := match elemsA σ sz a with
  | some (m, ys) => ys.length = m * sz ∧ J m ys
  | none => False
@[simp] theorem elP_nil {sz : Nat} {J : Nat → List A → Prop} : elP σ sz .nil J = J 0 [] := by simp [elP, elemsA]
@[simp] theorem elP_sl {sz n : Nat} {cs : List A} {J : Nat → List A → Prop} : elP σ sz (.sl n cs) J = (cs.length = n * sz ∧ J n cs) := rfl
@[simp] theorem elP_fsl {sz n : Nat} {cs : List A} {J : Nat → List A → Prop} : elP σ sz (.fsl n cs) J = (cs.length = n * sz ∧ J n cs) := rfl
@[simp] theorem elP_row {sz l n : Nat} {J : Nat → List A → Prop} : elP σ sz (.row l n) J = rowIs σ[l]? n sz fun cs => cs.length = n * sz ∧ J n cs := by
  simp only [elP, elemsA]
  cases σ[l]? with
  | none => rfl
  | some o =>
    cases o <;> try rfl
    rename_i fz e s m cs
    by_cases h : n = m ∧ s = sz
    · simp [h]
    · simp only [h, if_false, rowIs_some, eq_iff_iff, false_iff]
      rintro ⟨h1, h2, _⟩
      exact h ⟨h1, h2⟩
def appP (d : Option Nat) (K' : Env → St → Prop) (env : Env) (σ : St) (e : TypeId) (sz bytes m : Nat) (ys : List A) : A → Prop
  | .nil => (m ≤ maxLen ∧ m * bytes ≤ 140737488355328) ∧ K' (env.put d (.row σ.length m)) (σ ++ [AObj.row false e sz m ys])
  | .row l n => (match σ[l]? with
    | some (.row fz e' s n' cs) => if n = n' ∧ e' = e ∧ s = sz then (n + m ≤ maxLen ∧ (n + m) * bytes ≤ 140737488355328) ∧ K' (env.put d (.row l (n + m))) (σ.set l (.row fz e sz (n + m) (cs ++ ys))) else False
    | _ => False)
  | .fsl n cs => cs.length = n * sz ∧ (m = 0 → K' (env.put d (.fsl n cs)) σ) ∧ (m ≠ 0 → (n + m ≤ maxLen ∧ (n + m) * bytes ≤ 140737488355328) ∧ K' (env.put d (.row σ.length (n + m))) (σ ++ [AObj.row false e sz (n + m) (cs ++ ys)]))
  | _ => False
@[simp] theorem appP_nil {e : TypeId} {sz bytes m : Nat} {ys : List A} : appP d K' env σ e sz bytes m ys .nil = ((m ≤ maxLen ∧ m * bytes ≤ 140737488355328) ∧ K' (env.put d (.row σ.length m)) (σ ++ [AObj.row false e sz m ys])) := rfl
@[simp] theorem appP_fsl {e : TypeId} {sz bytes m n : Nat} {ys cs : List A} : appP d K' env σ e sz bytes m ys (.fsl n cs) = (cs.length = n * sz ∧ (m = 0 → K' (env.put d (.fsl n cs)) σ) ∧ (m ≠ 0 → (n + m ≤ maxLen ∧ (n + m) * bytes ≤ 140737488355328) ∧ K' (env.put d (.row σ.length (n + m))) (σ ++ [AObj.row false e sz (n + m) (cs ++ ys)]))) := rfl
def rowTo : Option AObj → Nat → TypeId → Nat → (Bool → List A → Prop) → Prop
  | some (.row fz e' s n' cs), n, e, sz, J => (n = n' ∧ e' = e ∧ s = sz) ∧ J fz cs
  | _, _, _, _, _ => False
@[simp] theorem rowTo_some {fz : Bool} {e' e : TypeId} {s n' n sz : Nat} {cs : List A} {J : Bool → List A → Prop} : rowTo (some (.row fz e' s n' cs)) n e sz J = ((n = n' ∧ e' = e ∧ s = sz) ∧ J fz cs) := rfl
@[simp] theorem appP_row {e : TypeId} {sz bytes m l n : Nat} {ys : List A} : appP d K' env σ e sz bytes m ys (.row l n) = rowTo σ[l]? n e sz fun fz cs => (n + m ≤ maxLen ∧ (n + m) * bytes ≤ 140737488355328) ∧ K' (env.put d (.row l (n + m))) (σ.set l (.row fz e sz (n + m) (cs ++ ys))) := by
  simp only [appP]
  cases σ[l]? with
  | none => rfl
  | some o =>
    cases o <;> try rfl
    rename_i fz e' s n' cs
    by_cases h : n = n' ∧ e' = e ∧ s = sz
    · simp [h]
    · simp [h]
@[simp] theorem wpO_app {e : TypeId} {sz bytes : Nat} : wpO P Qp K' (.app d e sz bytes x y) env σ = elP σ sz (ev env y) fun m ys => appP d K' env σ e sz bytes m ys (ev env x) := by
  simp only [wpO, elP]
  cases elemsA σ sz (ev env y) with
  | none => rfl
  | some r =>
    obtain ⟨m, ys⟩ := r
    simp only
    generalize ev env x = a
    cases a <;> rfl
def callV (P : Program) (Qp : Value → Env → St → Prop) (K' : Env → St → Prop) (d : Option Nat) (f : A) (args : List A) (env : Env) (σ : St) : Prop := match f with
  | .clo g first cap => callable P g = true ∧ CallA P g (first ++ args ++ cap) σ (outK d env K' Qp)
  | .lit (.func (.yield b) ⟨[]⟩ ⟨[]⟩) => CallY P b args σ (outK d env K' Qp)
  | _ => False
@[simp] theorem callV_yv {b : Nat} {args : List A} : callV P Qp K' d (yv b) args env σ = CallY P b args σ (outK d env K' Qp) := rfl
@[simp] theorem callV_clo {g : FuncId} {first cap args : List A} : callV P Qp K' d (.clo g first cap) args env σ = (callable P g = true ∧ CallA P g (first ++ args ++ cap) σ (outK d env K' Qp)) := rfl
@[simp] theorem wpO_call {args : List Operand} : wpO P Qp K' (.call d x args) env σ = callV P Qp K' d (ev env x) (args.map (ev env)) env σ := rfl
@[simp] theorem boxes_nil : boxes [] = [] := rfl
@[simp] theorem boxes_box {cs : List A} : boxes (.box cs :: σ) = .box cs :: boxes σ := rfl
@[simp] theorem boxes_row {fz : Bool} {e : TypeId} {sz n : Nat} {cs : List A} : boxes (.row fz e sz n cs :: σ) = .dead :: boxes σ := rfl
@[simp] theorem boxes_mp {fr : Bool} {nk : Nat} {es : List (List Int × A)} : boxes (.mp fr nk es :: σ) = .dead :: boxes σ := rfl
@[simp] theorem boxes_rsv : boxes (.rsv :: σ) = .dead :: boxes σ := rfl
@[simp] theorem boxes_it {m n : Nat} {met : List Nat} : boxes (.it m n met :: σ) = .dead :: boxes σ := rfl
@[simp] theorem boxes_lp {b M : Nat} {r : Loop} {es : List (Nat × A)} : boxes (.lp b r M es :: σ) = .dead :: boxes σ := rfl
@[simp] theorem boxes_length {σ : St} : (boxes σ).length = σ.length := by
  induction σ with
  | nil => rfl
  | cons o σ ih => cases o <;> simp [boxes, ih]
@[simp] theorem seeF_zero {σ : St} : seeF 0 σ = σ := rfl
@[simp] theorem seeF_one {σ : St} : seeF 1 σ = boxes σ := rfl
@[simp] theorem seeF_two {σ : St} : seeF 2 σ = [] := rfl
variable {fl k : Nat}
@[simp] theorem wpD_nil : wpD P K' [] env σ = K' env σ := by simp only [wpD]
@[simp] theorem tgtC_0 {o : KOp} : tgtC 0 o env = True := rfl
@[simp] theorem tgtC_1 {o : KOp} : tgtC 1 o env = True := rfl
@[simp] theorem tgtC_2 {o : KOp} : tgtC 2 o env = True := rfl
@[simp] theorem tgtC_3 {o : KOp} : tgtC 3 o env = True := rfl
@[simp] theorem tgtC_4 {o : KOp} : tgtC 4 o env = True := rfl
@[simp] theorem tgtC_5 {n : Nat} : tgtC 5 (.st d x y n) env = isPtr (ev env x) := rfl
@[simp] theorem tgtC_6 {n : Nat} : tgtC 6 (.st d x y n) env = isRwp (ev env x) := rfl
@[simp] theorem tgtC_6i {n : Nat} : tgtC 6 (.idx d x y n) env = isRow (ev env x) := rfl
@[simp] theorem isPtr_ptr {l o : Nat} : isPtr (.ptr l o) = True := rfl
@[simp] theorem isRwp_rwp {l n o : Nat} : isRwp (.rwp l n o) = True := rfl
@[simp] theorem isRow_row {l n : Nat} : isRow (.row l n) = True := rfl
@[simp] theorem seeF_six {σ : St} : seeF 6 σ = σ := rfl
@[simp] theorem wpD_cons {o : KOp} {l : List (Nat × Nat × KG)} : wpD P K' ((k, fl, ⟨none, o⟩) :: l) env σ = (tgtC fl o env ∧ wpDop P fl (wpD P K' l) o env σ) := rfl
@[simp] theorem wpD_guard {s : Nat} {want : Bool} {o : KOp} {l : List (Nat × Nat × KG)} : wpD P K' ((k, fl, ⟨some (s, want), o⟩) :: l) env σ = (tgtC fl o env ∧ guardV (env s) want (wpDop P fl (wpD P K' l) o) (skipK o.dst (wpD P K' l)) env σ) := by
  simp only [wpD, wpDG, guardV]
  generalize env s = a
  cases a <;> try rfl
  all_goals (rename_i v; cases v <;> rfl)
@[simp] theorem wpDop_pick : wpDop P fl K' (.pick d x y z) env σ = wpO P noPan K' (.pick d x y z) env σ := by simp [wpDop, KOp.lite, KOp.keeps]
@[simp] theorem wpDop_brow {e sz n : Nat} {zs : List Value} {ps : List (Nat × Nat × Operand)} : wpDop P fl K' (.brow d e sz n zs ps) env σ = wpO P noPan K' (.brow d e sz n zs ps) env σ := by simp [wpDop, KOp.lite, KOp.keeps]
@[simp] theorem wpDop_mop {m : MOp} {xs : List Operand} : wpDop P fl K' (.mop d m xs) env σ = (match mopB m (xs.map (ev env)) σ with
    | some (r, σ') => K' (env.put d r) σ'
    | none => False) := rfl
@[simp] theorem wpDop_mov : wpDop P fl K' (.mov d x) env σ = wpO P noPan K' (.mov d x) env σ := by simp [wpDop, KOp.lite, KOp.keeps]
@[simp] theorem wpDop_idxarr {len sz : Nat} : wpDop P fl K' (.idxarr d x y len sz) env σ = wpO P noPan K' (.idxarr d x y len sz) env σ := by simp [wpDop, KOp.lite, KOp.keeps]
@[simp] theorem wpDop_bin {op : BinOp} : wpDop P fl K' (.bin d op x y) env σ = wpO P noPan K' (.bin d op x y) env σ := by simp [wpDop, KOp.lite, KOp.keeps]
@[simp] theorem wpDop_eqv {k : SK} {ng : Bool} : wpDop P fl K' (.eqv d ng k x y) env σ = wpO P noPan K' (.eqv d ng k x y) env σ := by simp [wpDop, KOp.lite, KOp.keeps]
@[simp] theorem wpDop_eqs {ks : List SK} {ng : Bool} : wpDop P fl K' (.eqs d ng ks x y) env σ = wpO P noPan K' (.eqs d ng ks x y) env σ := by simp [wpDop, KOp.lite, KOp.keeps]
@[simp] theorem wpDop_neg : wpDop P fl K' (.neg d x) env σ = wpO P noPan K' (.neg d x) env σ := by simp [wpDop, KOp.lite, KOp.keeps]
@[simp] theorem wpDop_not : wpDop P fl K' (.not d x) env σ = wpO P noPan K' (.not d x) env σ := by simp [wpDop, KOp.lite, KOp.keeps]
@[simp] theorem wpDop_mm {mx : Bool} {xs : List Operand} : wpDop P fl K' (.mm d mx xs) env σ = wpO P noPan K' (.mm d mx xs) env σ := by simp [wpDop, KOp.lite, KOp.keeps]
@[simp] theorem wpDop_lens : wpDop P fl K' (.len d true x) env σ = wpO P noPan K' (.len d true x) env σ := by simp [wpDop, KOp.lite, KOp.keeps]
@[simp] theorem wpDop_ext {i : Nat} : wpDop P fl K' (.ext d x i) env σ = wpO P noPan K' (.ext d x i) env σ := by simp [wpDop, KOp.lite, KOp.keeps]
@[simp] theorem wpDop_clo {f : FuncId} {a b : List Operand} : wpDop P fl K' (.clo d f a b) env σ = wpO P noPan K' (.clo d f a b) env σ := by simp [wpDop, KOp.lite, KOp.keeps]
@[simp] theorem wpDop_slc {sz : Nat} {lo hi mx : Option Operand} : wpDop P fl K' (.slc d x sz lo hi mx) env σ = wpO P noPan K' (.slc d x sz lo hi mx) env σ := by simp [wpDop, KOp.lite, KOp.keeps]
@[simp] theorem wpDop_build {zs : List Value} {ps : List (Nat × Nat × Operand)} : wpDop P fl K' (.build d zs ps) env σ = wpO P noPan K' (.build d zs ps) env σ := by simp [wpDop, KOp.lite, KOp.keeps]
@[simp] theorem wpDop_bslice {e : TypeId} {sz n : Nat} {zs : List Value} {ps : List (Nat × Nat × Operand)} : wpDop P fl K' (.bslice d e sz n zs ps) env σ = wpO P noPan K' (.bslice d e sz n zs ps) env σ := by simp [wpDop, KOp.lite, KOp.keeps]
@[simp] theorem wpDop_alloc {zs : List Value} : wpDop P fl K' (.alloc d zs) env σ = wpO P noPan K' (.alloc d zs) env σ := by simp [wpDop, KOp.lite, KOp.keeps]
@[simp] theorem wpDop_box : wpDop P fl K' (.box d x) env σ = wpO P noPan K' (.box d x) env σ := by simp [wpDop, KOp.lite, KOp.keeps]
@[simp] theorem wpDop_st {n : Nat} : wpDop P fl K' (.st d x y n) env σ = wpO P noPan K' (.st d x y n) env σ := by simp [wpDop, KOp.lite, KOp.keeps]
@[simp] theorem wpDop_app {e : TypeId} {sz bytes : Nat} : wpDop P fl K' (.app d e sz bytes x y) env σ = wpO P noPan K' (.app d e sz bytes x y) env σ := by simp [wpDop, KOp.lite, KOp.keeps]
@[simp] theorem wpDop_fld {off n : Nat} {agg : Bool} : wpDop P fl K' (.fld d x off n agg) env σ = wpO P noPan K' (.fld d x off n agg) env σ := by simp [wpDop, KOp.lite, KOp.keeps]
@[simp] theorem wpDop_ix {len sz : Nat} {agg : Bool} : wpDop P fl K' (.ix d x y len sz agg) env σ = wpO P noPan K' (.ix d x y len sz agg) env σ := by simp [wpDop, KOp.lite, KOp.keeps]
@[simp] theorem wpDop_isn {ng : Bool} : wpDop P fl K' (.isn d ng x) env σ = wpO P noPan K' (.isn d ng x) env σ := by simp [wpDop, KOp.lite, KOp.keeps]
@[simp] theorem wpDop_ld {n : Nat} {agg : Bool} : wpDop P fl K' (.ld d x n agg) env σ = optJ ((ldA (seeF fl σ) n (ev env x)).bind (packA agg)) fun r => K' (env.put d r) σ := optJ_pure
@[simp] theorem wpDop_addr {off : Nat} : wpDop P fl K' (.addr d x off) env σ = optJ (addrA (seeF fl σ) off (ev env x)) fun r => K' (env.put d r) σ := by
  show pureP (pureO env (seeF fl σ) (.addr d x off)) _ = _
  rw [addrA_pure, optJ_pure]; rfl
@[simp] theorem wpDop_idx {sz : Nat} : wpDop P fl K' (.idx d x y sz) env σ = idxP (seeF fl σ) sz (ev env x) (ev env y) fun r => K' (env.put d r) σ := idxP_pure (d := d)
def lenD (σ : St) (a : A) (J : A → Prop) : Prop := match a with
  | .nil => J (.lit (.int .i64 0))
  | .sl n _ => J (.lit (.int .i64 n))
  | .fsl n _ => J (.lit (.int .i64 n))
  | .row l n => match σ[l]? with
      | some (.row _ _ _ m _) => if n = m then J (.lit (.int .i64 n)) else False
      | _ => False
  | .win l n _ k _ => match σ[l]? with
      | some (.row _ _ _ m _) => if n = m then J (.lit (.int .i64 k)) else False
      | _ => False
  | _ => False
@[simp] theorem lenD_nil {J : A → Prop} : lenD σ .nil J = J (.lit (.int .i64 0)) := rfl
@[simp] theorem lenD_sl {n : Nat} {cs : List A} {J : A → Prop} : lenD σ (.sl n cs) J = J (.lit (.int .i64 n)) := rfl
@[simp] theorem lenD_fsl {n : Nat} {cs : List A} {J : A → Prop} : lenD σ (.fsl n cs) J = J (.lit (.int .i64 n)) := rfl
def lenRow (o : Option AObj) (n : Nat) (J : A → Prop) : Prop := match o with
  | some (.row _ _ _ m _) => if n = m then J (.lit (.int .i64 n)) else False
  | _ => False
@[simp] theorem lenRow_some {fz : Bool} {e : TypeId} {s m n : Nat} {cs : List A} {J : A → Prop} : lenRow (some (.row fz e s m cs)) n J = if n = m then J (.lit (.int .i64 n)) else False := rfl
@[simp] theorem lenD_row {l n : Nat} {J : A → Prop} : lenD σ (.row l n) J = lenRow σ[l]? n J := by
  simp only [lenD, lenRow]
theorem lenD_pure {τ : St} {J : A → Prop} : pureP (pureO env τ (.len d false x)) J = lenD τ (ev env x) J := by
  simp only [lenD, pureO]
  generalize ev env x = a
  cases a <;> simp only [pureP, true_and]
  · rename_i l n
    cases τ[l]? with
    | none => rfl
    | some ob =>
      cases ob <;> try rfl
      rename_i fz e s m cs
      by_cases h : n = m <;> simp [h]
  · rename_i l n _ k _
    cases τ[l]? with
    | none => rfl
    | some ob =>
      cases ob <;> try rfl
      rename_i fz e s m cs
      by_cases h : n = m <;> simp [h]
@[simp] theorem wpDop_len : wpDop P fl K' (.len d false x) env σ = lenD (seeF fl σ) (ev env x) fun r => K' (env.put d r) σ := by
  show pureP (pureO env (seeF fl σ) (.len d false x)) _ = _
  exact lenD_pure
def callD (P : Program) (fl : Nat) (σ : St) (d : Option Nat) (K' : Env → St → Prop) (f : A) (args : List A) (env : Env) : Prop := wpDC P fl σ d K' f args env
@[simp] theorem wpDop_call {args : List Operand} : wpDop P fl K' (.call d x args) env σ = callD P fl σ d K' (ev env x) (args.map (ev env)) env := rfl
@[simp] theorem callD_0 {g : FuncId} {first cap args : List A} : callD P 0 σ d K' (.clo g first cap) args env = (callable P g = true ∧ wpDcall P σ d (fun e => K' e σ) g (first ++ args ++ cap) env) := rfl
@[simp] theorem callD_1 {g : FuncId} {first cap args : List A} : callD P 1 σ d K' (.clo g first cap) args env = (callable P g = true ∧ wpDcallF P σ d (fun e => K' e σ) g (first ++ args ++ cap) env) := rfl
@[simp] theorem callD_3 {g : FuncId} {first cap args : List A} : callD P 3 σ d K' (.clo g first cap) args env = (callable P g = true ∧ wpDcallG P σ d K' g (first ++ args ++ cap) env) := rfl
@[simp] theorem callD_7 {g : FuncId} {first cap args : List A} : callD P 7 σ d K' (.clo g first cap) args env = (callable P g = true ∧ wpDcallH P σ d K' g (first ++ args ++ cap) env) := rfl
@[simp] theorem callD_8 {g : FuncId} {first cap args : List A} : callD P 8 σ d K' (.clo g first cap) args env = (callable P g = true ∧ wpDcallN P σ d K' g (first ++ args ++ cap) env) := rfl
@[simp] theorem callD_K {n : Nat} {g : FuncId} {first cap args : List A} (h1 : 8 < n) : callD P n σ d K' (.clo g first cap) args env = (callable P g = true ∧ (if 1000 ≤ n ∧ n < 2000 then wpDcallK P (n - 1000) σ d K' g (first ++ args ++ cap) env else if 3000 ≤ n ∧ n < 4000 then wpDcallE P (n - 3000) σ d K' g (first ++ args ++ cap) env else wpDcallX P σ d K' g (first ++ args ++ cap) env)) := by
  obtain ⟨m, rfl⟩ : ∃ m, n = m + 9 := ⟨n - 9, by omega⟩
  rfl
@[simp] theorem callD_4 {g : FuncId} {first cap args : List A} : callD P 4 σ d K' (.clo g first cap) args env = (callable P g = true ∧ wpDcallX P σ d K' g (first ++ args ++ cap) env) := rfl
@[simp] theorem callD_yv {b : Nat} {args : List A} : callD P 4 σ d K' (yv b) args env = ∃ r σ', (CallY P b args σ fun o τ => o = .ret r ∧ τ = σ') ∧ K' (env.put d r) σ' := by
  show (4 = 4 ∧ _) = _
  simp
theorem condP_intro {t : Bool} {A B : Env → St → Prop} (h1 : t = true → A env σ) (h2 : t = false → B env σ) : condP t A B env σ := ⟨h1, h2⟩
theorem loop_at {S : Type} {W : (Ex → Env → St → Prop) → Env → St → Prop} (E : S → List (Nat × A)) (T : S → St) (I : S → Prop) (μ : S → Nat) (s0 : S) (h0 : I s0) (start : Weak n0 (mkEnv (E s0)) (T s0) env σ)
    (round : ∀ s, I s → W (rnd n0 (fun n e t => ∃ s, I s ∧ μ s = n ∧ e = mkEnv (E s) ∧ t = T s) (μ s) Q) (mkEnv (E s)) (T s)) : LoopP n0 W Q env σ := by
  refine ⟨fun n e t => ∃ s, I s ∧ μ s = n ∧ e = mkEnv (E s) ∧ t = T s, ⟨μ s0, _, _, start, s0, h0, rfl, rfl, rfl⟩, ?_⟩
  rintro n e t ⟨s, hs, rfl, rfl, rfl⟩
  exact round s hs
theorem rnd_at {S : Type} {E : S → List (Nat × A)} {T : S → St} {I : S → Prop} {μ : S → Nat} {n : Nat} (s : S) (hs : I s) (hm : μ s < n) (hw : Weak n0 (mkEnv (E s)) (T s) env σ) :
    rnd n0 (fun n e t => ∃ s, I s ∧ μ s = n ∧ e = mkEnv (E s) ∧ t = T s) n Q .norm env σ := ⟨μ s, hm, _, _, hw, s, hs, rfl, rfl, rfl⟩
@[simp] theorem mkEnv_cons {i t : Nat} {a : A} {l : List (Nat × A)} : mkEnv ((i, a) :: l) t = if t = i then a else mkEnv l t := rfl
@[simp] theorem mkEnv_nil {t : Nat} : mkEnv [] t = .any := rfl
end
end Go.Abs
