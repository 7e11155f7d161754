/-
  Rules for simp on levels and contracts; the steps that a prover takes at calls, loops and returns.
  Calls in regions that draw: of functions that work on objects of the caller's, and beside growing operations.
  Rules for simp: the operations on maps, and the look whether a pointer is nil.
-/
import Derived.Test.YthglhccibdlccaaGreatDoorX14
import Derived.Test.YthglhccibdlccaaGreatDoorX16
set_option linter.unusedVariables false
set_option linter.unusedSimpArgs false
namespace Go.Abs
attribute [simp] KOp.dst
@[simp] theorem le_add_lit {a b n : Nat} (h : a ≤ b) : (a ≤ b + n) = True := eq_true (by omega)
@[simp] def int (n : Int) : A := .lit (.int .i64 n)
@[simp] def bl (b : Bool) : A := .lit (.bool b)
section
variable {P : Program} {n0 : Nat} {Qp : Value → Env → St → Prop} {K' : Env → St → Prop} {KD : Env → Prop} {Q : Ex → Env → St → Prop} {env : Env} {σ : St} {d : Option Nat}
variable {rf : Bool → Nat → Nat → A} {g : Nat → Option Nat}
def lvl (o : Option Nat) (f : Nat → A) (b : A) : A := match o with
  | some i => f i
  | none => b
@[simp] theorem lvl_some {i : Nat} {f : Nat → A} {b : A} : lvl (some i) f b = f i := rfl
@[simp] theorem lvl_none {f : Nat → A} {b : A} : lvl none f b = b := rfl
@[simp] theorem vw_ptr {l o : Nat} : vw rf g (.ptr l o) = lvl (g l) (.ptr · o) (rf true l o) := by
  simp only [vw, lvl]
  cases g l <;> rfl
@[simp] theorem vw_row {l n : Nat} : vw rf g (.row l n) = lvl (g l) (.row · n) (rf false l n) := by
  simp only [vw, lvl]
  cases g l <;> rfl
@[simp] theorem vw_rwp {l n o : Nat} : vw rf g (.rwp l n o) = lvl (g l) (.rwp · n o) .any := by
  simp only [vw, lvl]
  cases g l <;> rfl
@[simp] theorem vw_map {l : Nat} : vw rf g (.map l) = lvl (g l) .map .any := by
  simp only [vw, lvl]
  cases g l <;> rfl
@[simp] theorem vw_win {l n o k c : Nat} : vw rf g (.win l n o k c) = lvl (g l) (.win · n o k c) (cutA o k c (rf false l n)) := by
  simp only [vw, lvl]
  cases g l <;> rfl
@[simp] theorem cutA_sl {n o k c : Nat} {cs : List A} : cutA o k c (.sl n cs) = if k = 0 then .sl 0 [] else .sl k ((cs.drop o).take c) := rfl
@[simp] theorem vw_agg {cs : List A} : vw rf g (.agg cs) = .agg (vwL rf g cs) := by simp only [vw]
@[simp] theorem vw_tup {cs : List A} : vw rf g (.tup cs) = .tup (vwL rf g cs) := by simp only [vw]
@[simp] theorem vw_sl {n : Nat} {cs : List A} : vw rf g (.sl n cs) = .sl n (vwL rf g cs) := by simp only [vw]
@[simp] theorem vw_fsl {n : Nat} {cs : List A} : vw rf g (.fsl n cs) = .fsl n (vwL rf g cs) := by simp only [vw]
@[simp] theorem vw_rptr {cs : List A} : vw rf g (.rptr cs) = .rptr (vwL rf g cs) := by simp only [vw]
@[simp] theorem vw_clo {f : FuncId} {a b : List A} : vw rf g (.clo f a b) = .clo f (vwL rf g a) (vwL rf g b) := by simp only [vw]
@[simp] theorem vw_any : vw rf g .any = .any := by simp only [vw]
@[simp] theorem vw_nil : vw rf g .nil = .nil := by simp only [vw]
@[simp] theorem vw_lit {v : Value} : vw rf g (.lit v) = .lit v := by simp only [vw]
@[simp] theorem vw_yv {b : Nat} : vw rf g (yv b) = yv b := by simp only [yv, vw]
@[simp] theorem anyRow_eq {b : Bool} {l n : Nat} : anyRow b l n = .any := rfl
@[simp] theorem vwL_nil : vwL rf g [] = [] := by simp only [vwL]
@[simp] theorem vwL_cons {c : A} {cs : List A} : vwL rf g (c :: cs) = vw rf g c :: vwL rf g cs := by simp only [vwL]
@[simp] theorem vwL_append {cs ds : List A} : vwL rf g (cs ++ ds) = vwL rf g cs ++ vwL rf g ds := by
  induction cs with
  | nil => simp
  | cons c cs ih => simp [ih]
@[simp] theorem vwL_drop {cs : List A} {n : Nat} : vwL rf g (cs.drop n) = (vwL rf g cs).drop n := by
  induction cs generalizing n with
  | nil => simp
  | cons c cs ih => cases n <;> simp [ih]
@[simp] theorem vwL_take {cs : List A} {n : Nat} : vwL rf g (cs.take n) = (vwL rf g cs).take n := by
  induction cs generalizing n with
  | nil => simp
  | cons c cs ih => cases n <;> simp [ih]
@[simp] theorem nrm0_ptr {l o : Nat} : nrm0 (.ptr l o) = .ptr l o := by simp only [nrm0]
@[simp] theorem nrm0_row {l n : Nat} : nrm0 (.row l n) = .row l n := by simp only [nrm0]
@[simp] theorem nrm0_rwp {l n o : Nat} : nrm0 (.rwp l n o) = .rwp l n o := by simp only [nrm0]
@[simp] theorem nrm0_map {l : Nat} : nrm0 (.map l) = .map l := by simp only [nrm0]
@[simp] theorem nrm0_win {l n o k c : Nat} : nrm0 (.win l n o k c) = .win l n o k c := by simp only [nrm0]
@[simp] theorem nrm0_agg {cs : List A} : nrm0 (.agg cs) = .agg (nrm0L cs) := by simp only [nrm0]
@[simp] theorem nrm0_tup {cs : List A} : nrm0 (.tup cs) = .tup (nrm0L cs) := by simp only [nrm0]
@[simp] theorem nrm0_sl {n : Nat} {cs : List A} : nrm0 (.sl n cs) = .sl n (nrm0L cs) := by simp only [nrm0]
@[simp] theorem nrm0_fsl {n : Nat} {cs : List A} : nrm0 (.fsl n cs) = .sl n (nrm0L cs) := by simp only [nrm0]
@[simp] theorem nrm0_rptr {cs : List A} : nrm0 (.rptr cs) = .rptr (nrm0L cs) := by simp only [nrm0]
@[simp] theorem nrm0_clo {f : FuncId} {a b : List A} : nrm0 (.clo f a b) = .clo f (nrm0L a) (nrm0L b) := by simp only [nrm0]
@[simp] theorem nrm0_any : nrm0 .any = .any := by simp only [nrm0]
@[simp] theorem nrm0_nil : nrm0 .nil = .sl 0 [] := by simp only [nrm0]
@[simp] theorem nrm0_lit {v : Value} : nrm0 (.lit v) = .lit v := by simp only [nrm0]
@[simp] theorem nrm0_yv {b : Nat} : nrm0 (yv b) = yv b := by simp only [yv, nrm0]
@[simp] theorem nrm0L_nil : nrm0L [] = [] := by simp only [nrm0L]
@[simp] theorem nrm0L_cons {c : A} {cs : List A} : nrm0L (c :: cs) = nrm0 c :: nrm0L cs := by simp only [nrm0L]
@[simp] theorem nrm0L_append {cs ds : List A} : nrm0L (cs ++ ds) = nrm0L cs ++ nrm0L ds := by
  induction cs with
  | nil => simp
  | cons c cs ih => simp [ih]
@[simp] theorem nrm0L_drop {cs : List A} {n : Nat} : nrm0L (cs.drop n) = (nrm0L cs).drop n := by
  induction cs generalizing n with
  | nil => simp
  | cons c cs ih => cases n <;> simp [ih]
@[simp] theorem nrm0L_take {cs : List A} {n : Nat} : nrm0L (cs.take n) = (nrm0L cs).take n := by
  induction cs generalizing n with
  | nil => simp
  | cons c cs ih => cases n <;> simp [ih]
def Plain (cs : List A) : Prop := nrm0L cs = cs ∧ ∀ rf g, vwL rf g cs = cs
theorem Plain.nil : Plain [] := ⟨by simp, by simp⟩
theorem Plain.append {cs ds : List A} (h : Plain cs) (k : Plain ds) : Plain (cs ++ ds) := ⟨by simp [h.1, k.1], fun rf g => by simp [h.2, k.2]⟩
theorem Plain.drop {cs : List A} (h : Plain cs) (n : Nat) : Plain (cs.drop n) := ⟨by simp [h.1], fun rf g => by simp [h.2]⟩
theorem Plain.take {cs : List A} (h : Plain cs) (n : Nat) : Plain (cs.take n) := ⟨by simp [h.1], fun rf g => by simp [h.2]⟩
theorem Plain.int {k : IntKind} {n : Int} {cs : List A} (h : Plain cs) : Plain (.lit (.int k n) :: cs) := ⟨by simp [h.1], fun rf g => by simp [h.2]⟩
theorem Plain.lit {v : Value} {cs : List A} (h : Plain cs) : Plain (.lit v :: cs) := ⟨by simp [h.1], fun rf g => by simp [h.2]⟩
theorem Plain.sl {n : Nat} {ds cs : List A} (k : Plain ds) (h : Plain cs) : Plain (.sl n ds :: cs) := ⟨by simp [h.1, k.1], fun rf g => by simp [h.2, k.2]⟩
@[simp] theorem posOf_nil {l : Nat} : posOf [] l = none := rfl
@[simp] theorem posOf_cons {k l : Nat} {ks : List Nat} : posOf (k :: ks) l = if l = k then some 0 else (posOf ks l).map (· + 1) := rfl
@[simp] theorem back_nil {n l : Nat} : back [] n l = n + l := by cases l <;> rfl
@[simp] theorem back_zero {j n : Nat} {js : List Nat} : back (j :: js) n 0 = j := rfl
@[simp] theorem back_succ {j n l : Nat} {js : List Nat} : back (j :: js) n (l + 1) = back js n l := rfl
@[simp] theorem putAll_nil {s t : St} : putAll s [] t = s ++ t := by simp only [putAll]
@[simp] theorem putAll_cons {s os : St} {j : Nat} {js : List Nat} {o : AObj} : putAll s (j :: js) (o :: os) = putAll (s.set j o) js os := rfl
@[simp] theorem argOk_nil {js : List Nat} : argOk js [] [] := trivial
@[simp] theorem argOk_cons {js : List Nat} {a a' : A} {as as' : List A} : argOk js (a' :: as') (a :: as) = ((a = vw anyRow (posOf js) a' ∨ a = nrm0 (vw anyRow (posOf js) a')) ∧ argOk js as' as) := rfl
def objAt (o : Option AObj) (J : AObj → Prop) : Prop := match o with
  | some o => J o
  | none => False
@[simp] theorem objAt_some {o : AObj} {J : AObj → Prop} : objAt (some o) J = J o := rfl
@[simp] theorem selOk_nil : selOk σ rf g [] [] := trivial
@[simp] theorem selOk_cons {j : Nat} {js : List Nat} {o : AObj} {os : St} : selOk σ rf g (j :: js) (o :: os) = (objAt σ[j]? (fun p => o = vwO rf g p ∨ o = nrmO (vwO rf g p)) ∧ selOk σ rf g js os) := by
  simp only [selOk, objAt]
  cases σ[j]? <;> rfl
@[simp] theorem vwO_box {cs : List A} : vwO rf g (.box cs) = .box (vwL rf g cs) := rfl
@[simp] theorem vwO_row {fz : Bool} {e : TypeId} {sz n : Nat} {cs : List A} : vwO rf g (.row fz e sz n cs) = .row fz e sz n (vwL rf g cs) := rfl
@[simp] theorem vwO_mp {fr : Bool} {nk : Nat} {es : List (List Int × A)} : vwO rf g (.mp fr nk es) = .mp fr nk (es.map fun p => (p.1, vw rf g p.2)) := rfl
@[simp] theorem vwO_rsv : vwO rf g .rsv = .rsv := rfl
@[simp] theorem nrmO_rsv : nrmO .rsv = .rsv := rfl
@[simp] theorem renO_rsv {js : List Nat} {n : Nat} : renO js n .rsv = .rsv := rfl
@[simp] theorem vwO_it {m n : Nat} {met : List Nat} : vwO rf g (.it m n met) = (match g m with | some i => AObj.it i n met | none => .dead) := rfl
@[simp] theorem nrmO_mp {fr : Bool} {nk : Nat} {es : List (List Int × A)} : nrmO (.mp fr nk es) = .mp fr nk (es.map fun p => (p.1, nrm0 p.2)) := rfl
@[simp] theorem nrmO_it {m n : Nat} {met : List Nat} : nrmO (.it m n met) = .it m n met := rfl
@[simp] theorem renO_mp {js : List Nat} {n : Nat} {fr : Bool} {nk : Nat} {es : List (List Int × A)} : renO js n (.mp fr nk es) = .mp fr nk (es.map fun p => (p.1, ren js n p.2)) := rfl
@[simp] theorem renO_it {js : List Nat} {n m k : Nat} {met : List Nat} : renO js n (.it m k met) = .it (back js n m) k met := rfl
@[simp] theorem vwO_lp {b M : Nat} {r : Loop} {es : List (Nat × A)} : vwO rf g (.lp b r M es) = .lp b r M (es.map fun p => (p.1, vw rf g p.2)) := rfl
@[simp] theorem nrmO_lp {b M : Nat} {r : Loop} {es : List (Nat × A)} : nrmO (.lp b r M es) = .lp b r M (es.map fun p => (p.1, nrm0 p.2)) := rfl
@[simp] theorem renO_lp {js : List Nat} {n b M : Nat} {r : Loop} {es : List (Nat × A)} : renO js n (.lp b r M es) = .lp b r M (es.map fun p => (p.1, ren js n p.2)) := rfl
@[simp] theorem nrmO_box {cs : List A} : nrmO (.box cs) = .box (nrm0L cs) := rfl
@[simp] theorem nrmO_row {fz : Bool} {e : TypeId} {sz n : Nat} {cs : List A} : nrmO (.row fz e sz n cs) = .row fz e sz n (nrm0L cs) := rfl
@[simp] theorem renO_box {js : List Nat} {n : Nat} {cs : List A} : renO js n (.box cs) = .box (renL js n cs) := rfl
@[simp] theorem renO_row {js : List Nat} {n : Nat} {fz : Bool} {e : TypeId} {sz m : Nat} {cs : List A} : renO js n (.row fz e sz m cs) = .row fz e sz m (renL js n cs) := rfl
@[simp] theorem ren_eq {js : List Nat} {n : Nat} {a : A} : ren js n a = vw anyRow (fun l => some (back js n l)) a := rfl
@[simp] theorem renL_eq {js : List Nat} {n : Nat} {cs : List A} : renL js n cs = vwL anyRow (fun l => some (back js n l)) cs := rfl
def seenP (k : Nat) (o : Option AObj) (n : Nat) (J : List A → A) : A := match o with
  | some (.row _ _ _ m cs) => if n = m then J cs else .any
  | _ => .any
@[simp] theorem seenP_some {k n m : Nat} {fz : Bool} {e : TypeId} {sz : Nat} {cs : List A} {J : List A → A} : seenP k (some (.row fz e sz m cs)) n J = if n = m then J cs else .any := rfl
@[simp] theorem seen_zero {b : Bool} {l n : Nat} : seen σ g 0 b l n = .any := rfl
@[simp] theorem seen_succ {k l n : Nat} : seen σ g (k + 1) false l n = seenP k σ[l]? n (fun cs => .sl n (vwL (seen σ g k) g cs)) := by
  simp only [seen, seenP]
  cases σ[l]? with
  | none => rfl
  | some o => cases o <;> rfl
def seenB (o : Option AObj) (J : List A → A) : A := match o with
  | some (.box cs) => J cs
  | _ => .any
@[simp] theorem seenB_box {cs : List A} {J : List A → A} : seenB (some (.box cs)) J = J cs := rfl
@[simp] theorem seenB_row {fz : Bool} {e : TypeId} {sz n : Nat} {cs : List A} {J : List A → A} : seenB (some (.row fz e sz n cs)) J = .any := rfl
@[simp] theorem seenB_none {J : List A → A} : seenB none J = .any := rfl
@[simp] theorem seen_box {k l n : Nat} : seen σ g (k + 1) true l n = seenB σ[l]? (fun cs => .rptr ((vwL (seen σ g k) g cs).drop n)) := by
  simp only [seen, seenB]
  cases σ[l]? with
  | none => rfl
  | some o => cases o <;> rfl
def tupOf : List A → A
  | [x] => x
  | l => .tup l
@[simp] theorem tupOf_one {x : A} : tupOf [x] = x := rfl
@[simp] theorem tupOf_nil : tupOf [] = .tup [] := rfl
@[simp] theorem tupOf_two {x y : A} {l : List A} : tupOf (x :: y :: l) = .tup (x :: y :: l) := rfl
def retJ (env : Env) (σ : St) : List RS → (List A → Prop) → Prop
  | [], J => J []
  | .slot t :: rs, J => retJ env σ rs fun l => J (env t :: l)
  | .cell a n agg :: rs, J => optJ ((ldA σ n (env a)).bind (packA agg)) fun r => retJ env σ rs fun l => J (r :: l)
@[simp] theorem retJ_nil {J : List A → Prop} : retJ env σ [] J = J [] := rfl
@[simp] theorem retJ_slot {t : Nat} {rs : List RS} {J : List A → Prop} : retJ env σ (.slot t :: rs) J = retJ env σ rs fun l => J (env t :: l) := rfl
@[simp] theorem retJ_cell {a n : Nat} {agg : Bool} {rs : List RS} {J : List A → Prop} : retJ env σ (.cell a n agg :: rs) J = optJ ((ldA σ n (env a)).bind (packA agg)) fun r => retJ env σ rs fun l => J (r :: l) := rfl
theorem retJ_eq : ∀ {rs : List RS} {J : List A → Prop}, retJ env σ rs J = match resListA env σ rs with | some l => J l | none => False
  | [], J => rfl
  | .slot t :: rs, J => by
    simp only [retJ, resListA, resOneA]
    rw [retJ_eq]
    cases resListA env σ rs <;> rfl
  | .cell a n agg :: rs, J => by
    simp only [retJ, resListA, resOneA]
    cases (ldA σ n (env a)).bind (packA agg) with
    | none => rfl
    | some r =>
      simp only [optJ]
      rw [retJ_eq]
      cases resListA env σ rs <;> rfl
@[simp] theorem retP_eq {rs : List RS} {R : Out → St → Prop} : retP rs R env σ = retJ env σ rs fun l => R (.ret (tupOf l)) σ := by
  rw [retJ_eq, retP, resA]
  cases resListA env σ rs with
  | none => rfl
  | some l =>
    cases l with
    | nil => rfl
    | cons x l => cases l <;> rfl
def RetQ (n : Nat) (r : A) (σ1 : St) (o : Out) (σ' : St) : Prop :=
  ∃ (r' : A) (ks : List Nat) (fuel : Nat), o = .ret r' ∧ (∀ i, i < n → ks[i]? = some i) ∧ ks.Nodup ∧ selOk σ' (seen σ' (posOf ks) fuel) (posOf ks) ks σ1 ∧
    (r = vw (seen σ' (posOf ks) fuel) (posOf ks) r' ∨ r = nrm0 (vw (seen σ' (posOf ks) fuel) (posOf ks) r'))
theorem ret_of_wp {f : FuncId} {fn : Func} {c : Code} {k : K} {rs : List RS} (hf : P.funcs[f]? = some fn) (hb : fn.body = some c) (hc : compile P fn.ntmps c = some k.erase) (hr : slotsOf P fn.results.toList = some rs)
    {args : List A} {σ0 σ1 : St} {r : A} (h : wpF P k rs args σ0 (RetQ σ0.length r σ1)) : Ret P f args σ0 r σ1 := ret_of_sel (callA_of_wp hf hb hc hr h)
theorem ret_of_wpH {hint : Nat → Option (List (Nat × Nat))} {f : FuncId} {fn : Func} {c : Code} {k : K} {rs : List RS} (hf : P.funcs[f]? = some fn) (hb : fn.body = some c) (hc : compileH P fn.ntmps hint c = some k.erase) (hr : slotsOf P fn.results.toList = some rs)
    {args : List A} {σ0 σ1 : St} {r : A} (h : wpF P k rs args σ0 (RetQ σ0.length r σ1)) : Ret P f args σ0 r σ1 := ret_of_sel (callA_of_wpH hf hb hc hr h)
theorem ret_end {r r' : A} {σ' : St} (fuel : Nat) (h : r = vw (seen σ' (fun _ => none) fuel) (fun _ => none) r' ∨ r = nrm0 (vw (seen σ' (fun _ => none) fuel) (fun _ => none) r')) : RetQ 0 r [] (.ret r') σ' :=
  ⟨r', [], fuel, rfl, fun i hi => by omega, by simp, trivial, h⟩
theorem ret_keep {n : Nat} {r r' : A} {σ1 σ' : St} (ks : List Nat) (fuel : Nat) (hk : ∀ i, i < n → ks[i]? = some i) (hd : ks.Nodup) (ho : selOk σ' (seen σ' (posOf ks) fuel) (posOf ks) ks σ1)
    (h : r = vw (seen σ' (posOf ks) fuel) (posOf ks) r' ∨ r = nrm0 (vw (seen σ' (posOf ks) fuel) (posOf ks) r')) : RetQ n r σ1 (.ret r') σ' := ⟨r', ks, fuel, rfl, hk, hd, ho, h⟩
theorem set_same : ∀ {s : St} {j : Nat} {o : AObj}, s[j]? = some o → s.set j o = s
  | [], _, _, h => by simp at h
  | x :: s, 0, o, h => by simp at h; simp [h]
  | x :: s, j + 1, o, h => by simp only [List.getElem?_cons_succ] at h; simp [set_same h]
theorem call0 {f : FuncId} {args args' : List A} {r : A} (h : Ret P f args [] r []) (ha : argOk [] args' args) (hr : ∀ m, vw anyRow (fun l => some (m + l)) r = r) (hq : K' (env.put d r) σ) : CallA P f args' σ (outK d env K' Qp) := by
  refine call_emb h [] (by simp) trivial ha ?_
  have : ren [] σ.length r = r := by
    have := hr σ.length
    simpa [ren] using this
  rw [this]
  simpa [outK] using hq
theorem dcall0 {f : FuncId} {args args' : List A} {r : A} (h : Ret P f args [] r []) (ha : argOk [] args' args) (hr : ∀ m, vw anyRow (fun l => some (m + l)) r = r) (hq : KD (env.put d r)) : wpDcall P σ d KD f args' env := by
  refine ⟨r, call_emb h [] (by simp) trivial ha ?_, hq⟩
  have : ren [] σ.length r = r := by
    have := hr σ.length
    simpa [ren] using this
  rw [this]
  simp
theorem callJ {f : FuncId} {args args' : List A} {σ0 σ1 : St} {r : A} (h : Ret P f args σ0 r σ1) (js : List Nat) (hd : js.Nodup) (ho : selOk σ anyRow (posOf js) js σ0) (ha : argOk js args' args)
    (hq : K' (env.put d (ren js σ.length r)) (putAll σ js (σ1.map (renO js σ.length)))) : CallA P f args' σ (outK d env K' Qp) := call_emb h js hd ho ha (by simpa [outK] using hq)
def LoopI {S : Type} (E : S → List (Nat × A)) (T : S → St) (I : S → Prop) (μ : S → Nat) (n : Nat) (e : Env) (t : St) : Prop := ∃ s, I s ∧ μ s = n ∧ e = mkEnv (E s) ∧ t = T s
theorem loopS {S : Type} {W : (Ex → Env → St → Prop) → Env → St → Prop} (E : S → List (Nat × A)) (T : S → St) (I : S → Prop) (μ : S → Nat) (s0 : S) (h0 : I s0) (start : Weak n0 (mkEnv (E s0)) (T s0) env σ)
    (round : ∀ s, I s → W (rnd n0 (LoopI E T I μ) (μ s) Q) (mkEnv (E s)) (T s)) : LoopP n0 W Q env σ := loop_at E T I μ s0 h0 start round
theorem roundS {S : Type} {E : S → List (Nat × A)} {T : S → St} {I : S → Prop} {μ : S → Nat} {n : Nat} (s : S) (hs : I s) (hm : μ s < n) (hw : Weak n0 (mkEnv (E s)) (T s) env σ) : rnd n0 (LoopI E T I μ) n Q .norm env σ :=
  rnd_at s hs hm hw
theorem selW (ks : List Nat) (fuel : Nat) {l : List (Nat × A)} {σ' : St} (hk : ∀ i, i < n0 → ks[i]? = some i) (hd : ks.Nodup) (ho : selOk σ (seen σ (posOf ks) fuel) (posOf ks) ks σ')
    (hl : ∀ p ∈ l, p.2 = vw (seen σ (posOf ks) fuel) (posOf ks) (env p.1) ∨ p.2 = nrm0 (vw (seen σ (posOf ks) fuel) (posOf ks) (env p.1))) : Weak n0 (mkEnv l) σ' env σ := Weak.sel ks fuel l hk hd ho hl
end
end Go.Abs
namespace Go.Abs
section
variable {P : Program} {KD : Env → Prop} {env : Env} {σ : St} {d : Option Nat}
theorem dcallF0 {f : FuncId} {args args' : List A} {r : A} (h : Ret P f args [] r []) (ha : argOk [] args' args) (hr : ∀ m, vw anyRow (fun l => some (m + l)) r = r) (hq : KD (env.put d r)) : wpDcallF P σ d KD f args' env := by
  refine ⟨r, fun τ _ => call_emb h [] (by simp) trivial ha ?_, hq⟩
  have : ren [] τ.length r = r := by
    have := hr τ.length
    simpa [ren] using this
  rw [this]
  simp
def sameAt (σ : St) (js : List Nat) : List Nat → St → Prop
  | [], [] => True
  | j :: ks, o :: os => (objAt σ[j]? fun p => (∃ cs, p = .box cs) ∧ (∀ n, renO js n o = p) ∧ (o = vwO anyRow (posOf js) p ∨ o = nrmO (vwO anyRow (posOf js) p))) ∧ sameAt σ js ks os
  | _, _ => False
@[simp] theorem sameAt_nil {js : List Nat} : sameAt σ js [] [] := trivial
@[simp] theorem sameAt_cons {js ks : List Nat} {j : Nat} {o : AObj} {os : St} : sameAt σ js (j :: ks) (o :: os) = ((objAt σ[j]? fun p => (∃ cs, p = .box cs) ∧ (∀ n, renO js n o = p) ∧ (o = vwO anyRow (posOf js) p ∨ o = nrmO (vwO anyRow (posOf js) p))) ∧ sameAt σ js ks os) := rfl
theorem sameAt_mono {js : List Nat} {τ : St} (hk : Keeps σ τ) : ∀ {ks : List Nat} {os : St}, sameAt σ js ks os → sameAt τ js ks os
  | [], [], _ => trivial
  | j :: ks, o :: os, h => by
    obtain ⟨h1, h2⟩ := h
    refine ⟨?_, sameAt_mono hk h2⟩
    cases hj : σ[j]? with
    | none => rw [hj] at h1; exact h1.elim
    | some p =>
      rw [hj] at h1
      obtain ⟨⟨cs, rfl⟩, h3⟩ := h1
      rw [hk j cs hj]
      exact ⟨⟨cs, rfl⟩, h3⟩
  | [], _ :: _, h => h.elim
  | _ :: _, [], h => h.elim
theorem sameAt_sel {js : List Nat} : ∀ {ks : List Nat} {os : St}, sameAt σ js ks os → selOk σ anyRow (posOf js) ks os
  | [], [], _ => trivial
  | j :: ks, o :: os, h => by
    obtain ⟨h1, h2⟩ := h
    refine ⟨?_, sameAt_sel h2⟩
    cases hj : σ[j]? with
    | none => rw [hj] at h1; exact h1.elim
    | some p => rw [hj] at h1; exact h1.2.2
  | [], _ :: _, h => h.elim
  | _ :: _, [], h => h.elim
theorem sameAt_put {js : List Nat} {n : Nat} : ∀ {ks : List Nat} {os : St}, sameAt σ js ks os → putAll σ ks (os.map (renO js n)) = σ
  | [], [], _ => by simp
  | j :: ks, o :: os, h => by
    obtain ⟨h1, h2⟩ := h
    cases hj : σ[j]? with
    | none => rw [hj] at h1; exact h1.elim
    | some p =>
      rw [hj] at h1
      simp only [List.map_cons, putAll_cons]
      rw [h1.2.1 n, set_same hj]
      exact sameAt_put h2
  | [], _ :: _, h => h.elim
  | _ :: _, [], h => h.elim
theorem dcallJF {f : FuncId} {args args' : List A} {σ0 : St} {r : A} (h : Ret P f args σ0 r σ0) (js : List Nat) (hd : js.Nodup) (ho : sameAt σ js js σ0) (ha : argOk js args' args) (hr : ∀ n, ren js n r = r) (hq : KD (env.put d r)) :
    wpDcallF P σ d KD f args' env := by
  refine ⟨r, fun τ hk => call_emb h js hd (sameAt_sel (sameAt_mono hk ho)) ha ?_, hq⟩
  rw [hr, sameAt_put (sameAt_mono hk ho)]
  simp
end
end Go.Abs
namespace Go.Abs
section
variable {P : Program} {Qp : Value → Env → St → Prop} {K' : Env → St → Prop} {env : Env} {σ : St} {d : Option Nat} {x y : Operand}
def nilcP (a : A) (J : A → Prop) : Prop := match a with
  | .ptr l o => J (.ptr l o)
  | .rptr cs => J (.rptr cs)
  | _ => False
@[simp] theorem nilcP_ptr {l o : Nat} {J : A → Prop} : nilcP (.ptr l o) J = J (.ptr l o) := rfl
@[simp] theorem nilcP_rptr {cs : List A} {J : A → Prop} : nilcP (.rptr cs) J = J (.rptr cs) := rfl
theorem nilc_pure {J : A → Prop} : pureP (pureO env σ (.nilc d x)) J = nilcP (ev env x) J := by
  simp only [pureO, nilcP, pureP]
  generalize ev env x = a
  cases a <;> simp
@[simp] theorem wpO_nilc : wpO P Qp K' (.nilc d x) env σ = nilcP (ev env x) fun r => K' (env.put d r) σ := nilc_pure (d := d)
@[simp] theorem wpDop_nilc {fl : Nat} : wpDop P fl K' (.nilc d x) env σ = wpO P noPan K' (.nilc d x) env σ := by simp [wpDop, KOp.lite, KOp.keeps]
def litsP : List A → (List Int → Prop) → Prop
  | [], J => J []
  | .lit (.int .i64 n) :: l, J => litsP l fun ks => J (n :: ks)
  | _, _ => False
@[simp] theorem litsP_nil {J : List Int → Prop} : litsP [] J = J [] := rfl
@[simp] theorem litsP_cons {n : Int} {l : List A} {J : List Int → Prop} : litsP (.lit (.int .i64 n) :: l) J = litsP l fun ks => J (n :: ks) := rfl
theorem litsP_eq : ∀ (l : List A) (J : List Int → Prop), litsP l J = match litsI l with | some ks => J ks | none => False
  | [], J => rfl
  | a :: l, J => by
    cases a <;> try rfl
    rename_i v
    cases v <;> try rfl
    rename_i k n
    cases k <;> try rfl
    simp only [litsP, litsI, litsP_eq l]
    cases litsI l <;> rfl
def keyP (nk : Nat) (k : A) (J : List Int → Prop) : Prop := match keyA nk k with
  | some ks => J ks
  | none => False
@[simp] theorem keyP_agg {nk : Nat} {cs : List A} {J : List Int → Prop} : keyP nk (.agg cs) J = litsP cs fun ks => ks.length = nk ∧ J ks := by
  simp only [keyP, keyA, litsP_eq]
  cases litsI cs with
  | none => rfl
  | some ks =>
    simp only
    by_cases h : ks.length = nk <;> simp [h]
def mpAt (o : Option AObj) (J : Bool → Nat → List (List Int × A) → Prop) : Prop := match o with
  | some (.mp fr nk es) => J fr nk es
  | _ => False
@[simp] theorem mpAt_some {fr : Bool} {nk : Nat} {es : List (List Int × A)} {J : Bool → Nat → List (List Int × A) → Prop} : mpAt (some (.mp fr nk es)) J = J fr nk es := rfl
def itAt (o : Option AObj) (J : Nat → Nat → List Nat → Prop) : Prop := match o with
  | some (.it m n met) => J m n met
  | _ => False
@[simp] theorem itAt_some {m n : Nat} {met : List Nat} {J : Nat → Nat → List Nat → Prop} : itAt (some (.it m n met)) J = J m n met := rfl
@[simp] theorem wpO_mop {m : MOp} {xs : List Operand} : wpO P Qp K' (.mop d m xs) env σ = mopW m (xs.map (ev env)) (fun r τ => K' (env.put d r) τ) σ := by simp only [wpO]
variable {K : A → St → Prop}
@[simp] theorem mopW_mk {nk : Nat} : mopW (.mk nk) [] K σ = K (.map σ.length) (σ ++ [.mp true nk []]) := rfl
@[simp] theorem mopW_get {nk l : Nat} {z : Value} {ok : Bool} {k : A} : mopW (.get nk z ok) [.map l, k] K σ = keyP nk k fun ks => mpAt σ[l]? fun _ nk' es => nk' = nk ∧ K (getR z ok (findI ks es)) σ := by
  simp only [mopW, keyP, mpAt]
  cases keyA nk k with
  | none => rfl
  | some ks =>
    cases σ[l]? with
    | none => rfl
    | some o => cases o <;> rfl
@[simp] theorem mopW_set {nk l : Nat} {k v : A} : mopW (.set nk) [.map l, k, v] K σ = keyP nk k fun ks => mpAt σ[l]? fun fr nk' es => nk' = nk ∧ K (.lit undef) (σ.set l (.mp fr nk (putI ks v es))) := by
  simp only [mopW, keyP, mpAt]
  cases keyA nk k with
  | none => rfl
  | some ks =>
    cases σ[l]? with
    | none => rfl
    | some o => cases o <;> rfl
@[simp] theorem mopW_del {nk l : Nat} {k : A} : mopW (.del nk) [.map l, k] K σ = keyP nk k fun ks => mpAt σ[l]? fun _ nk' es => nk' = nk ∧ K (.tup []) (σ.set l (.mp false nk (delI ks es))) := by
  simp only [mopW, keyP, mpAt]
  cases keyA nk k with
  | none => rfl
  | some ks =>
    cases σ[l]? with
    | none => rfl
    | some o => cases o <;> rfl
@[simp] theorem mopW_rng {l : Nat} : mopW .rng [.map l] K σ = mpAt σ[l]? fun fr _ es => fr = true ∧ K (.ptr σ.length 0) (σ ++ [.it l es.length []]) := by
  simp only [mopW, mpAt]
  cases σ[l]? with
  | none => rfl
  | some o =>
    cases o <;> try rfl
    rename_i fr nk es
    cases fr <;> simp
@[simp] theorem mopW_nxt {j : Nat} : mopW .nxt [.ptr j 0] K σ = itAt σ[j]? fun l n met => mpAt σ[l]? fun fr _ es => fr = true ∧ n = es.length ∧
    (∀ (i : Nat) (p : List Int × A), i ∉ met → es[i]? = some p → K (.tup [.lit (.bool true), keyB p.1, p.2]) (σ.set j (.it l n (met ++ [i])))) ∧ ((∀ i, i < n → i ∈ met) → K (.tup [.lit (.bool false)]) σ) := by
  simp only [mopW, mpAt, itAt]
  cases σ[j]? with
  | none => rfl
  | some o =>
    cases o <;> try rfl
    rename_i l n met
    simp only
    cases σ[l]? with
    | none => rfl
    | some o =>
      cases o <;> try rfl
      rename_i fr nk es
      cases fr <;> simp
@[simp] theorem mopW_ent {j : Nat} : mopW .ent [.ptr j 0] K σ = itAt σ[j]? fun l n met => mpAt σ[l]? fun fr _ es => fr = true ∧ ∃ i p, met.getLast? = some i ∧ es[i]? = some p ∧ n = es.length ∧ K (.tup [keyB p.1, p.2]) σ := by
  simp only [mopW, mpAt, itAt]
  cases σ[j]? with
  | none => rfl
  | some o =>
    cases o <;> try rfl
    rename_i l n met
    simp only
    cases σ[l]? with
    | none => rfl
    | some o =>
      cases o <;> try (cases met.getLast? <;> rfl)
      rename_i fr nk es
      cases fr
      · cases met.getLast? <;> simp
      · cases met.getLast? with
        | none => simp
        | some i =>
          simp only
          apply propext
          cases hp : es[i]? with
          | none =>
            refine ⟨fun h => h.2.elim, ?_⟩
            rintro ⟨_, i', p', h1, h2, _⟩
            have h1 := Option.some.inj h1
            subst h1
            rw [hp] at h2
            exact absurd h2 (by simp)
          | some p =>
            refine ⟨fun h => ⟨trivial, i, p, rfl, hp, h.1, h.2⟩, ?_⟩
            rintro ⟨_, i', p', h1, h2, h3, h4⟩
            have h1 := Option.some.inj h1
            subst h1
            rw [hp] at h2
            have h2 := Option.some.inj h2
            subst h2
            exact ⟨h3, h4⟩
@[simp] theorem mopW_clr {sz : Nat} {zs : List Value} {l n o k c : Nat} : mopW (.clr sz zs) [.win l n o k c] K σ = (match σ[l]? with
    | some (.row fz e s m cs) => (n = m ∧ s = sz ∧ fz = false ∧ o + k * sz ≤ cs.length) ∧ K (.tup []) (σ.set l (.row false e sz n (cs.take o ++ (List.replicate k (zs.map ofCell)).flatten ++ cs.drop (o + k * sz))))
    | _ => False) := rfl
@[simp] theorem mopW_mks {e : TypeId} {sz bytes : Nat} {zs : List Value} {k k' : IntKind} {n c : Int} : mopW (.mks e sz bytes zs) [.lit (.int k n), .lit (.int k' c)] K σ = ((0 ≤ n ∧ c = n ∧ n ≤ 1000000000000 ∧ bytes * n.toNat ≤ 281474976710656) ∧ K (.row σ.length n.toNat) (σ ++ [.row false e sz n.toNat ((List.replicate n.toNat (zs.map ofCell)).flatten)])) := rfl
@[simp] theorem mopW_cvt {k k' : IntKind} {n : Int} : mopW (.cvt k) [.lit (.int k' n)] K σ = K (.lit (.int k (k.wrap n))) σ := rfl
@[simp] theorem mopW_strF {n : Nat} {cs : List A} : mopW .str [.fsl n cs] K σ = (match litsU cs with
    | some xs => (xs.length = n ∧ n ≠ 0) ∧ K (.lit (.string (strOfNums xs))) σ
    | none => False) := rfl
@[simp] theorem mopW_boom {xs : List A} : mopW .boom xs K σ = False := by cases xs <;> rfl
@[simp] theorem vw_keyB {rf : Bool → Nat → Nat → A} {g : Nat → Option Nat} (ks : List Int) : vw rf g (keyB ks) = keyB ks := by
  have : ∀ ks : List Int, vwL rf g (ks.map fun n => A.lit (.int .i64 n)) = ks.map fun n => A.lit (.int .i64 n) := fun ks => by
    induction ks with
    | nil => rfl
    | cons k ks ih => simp [vwL, ih]
  simp [keyB, this]
end
end Go.Abs
