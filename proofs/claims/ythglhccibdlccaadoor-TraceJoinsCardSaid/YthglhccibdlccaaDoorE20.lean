/-
  Rules for simp on levels and contracts; the steps that a prover takes at calls, loops and returns.
-/
import Derived.Test.YthglhccibdlccaaDoorE17
import Derived.Test.YthglhccibdlccaaDoorE19
namespace Go.Abs

attribute [simp] KOp.dst

@[simp] theorem le_add_lit {a b n : Nat} (h : a ≤ b) : (a ≤ b + n) = True := eq_true (by omega)

@[simp] def int (n : Int) : A := .lit (.int .i64 n)
@[simp] def bl (b : Bool) : A := .lit (.bool b)

section
variable {P : Program} {n0 : Nat} {Qp : Value → Env → St → Prop} {K' : Env → St → Prop} {KD : Env → Prop} {Q : Ex → Env → St → Prop} {env : Env} {σ : St} {d : Option Nat}
variable {rf : Bool → Nat → Nat → A} {g : Nat → Option Nat}

def lvl (o : Option Nat) (f : Nat → A) (b : A) : A := match o with
  | some i => f i
  | none => b
@[simp] theorem lvl_some {i : Nat} {f : Nat → A} {b : A} : lvl (some i) f b = f i := rfl
@[simp] theorem lvl_none {f : Nat → A} {b : A} : lvl none f b = b := rfl
@[simp] theorem vw_ptr {l o : Nat} : vw rf g (.ptr l o) = lvl (g l) (.ptr · o) (rf true l o) := by
  simp only [vw, lvl]
  cases g l <;> rfl
@[simp] theorem vw_row {l n : Nat} : vw rf g (.row l n) = lvl (g l) (.row · n) (rf false l n) := by
  simp only [vw, lvl]
  cases g l <;> rfl
@[simp] theorem vw_rwp {l n o : Nat} : vw rf g (.rwp l n o) = lvl (g l) (.rwp · n o) .any := by
  simp only [vw, lvl]
  cases g l <;> rfl
@[simp] theorem vw_map {l : Nat} : vw rf g (.map l) = lvl (g l) .map .any := by
  simp only [vw, lvl]
  cases g l <;> rfl
@[simp] theorem vw_win {l n o k c : Nat} : vw rf g (.win l n o k c) = lvl (g l) (.win · n o k c) (cutA o k c (rf false l n)) := by
  simp only [vw, lvl]
  cases g l <;> rfl
@[simp] theorem cutA_sl {n o k c : Nat} {cs : List A} : cutA o k c (.sl n cs) = if k = 0 then .sl 0 [] else .sl k ((cs.drop o).take c) := rfl
@[simp] theorem vw_agg {cs : List A} : vw rf g (.agg cs) = .agg (vwL rf g cs) := by simp only [vw]
@[simp] theorem vw_tup {cs : List A} : vw rf g (.tup cs) = .tup (vwL rf g cs) := by simp only [vw]
@[simp] theorem vw_sl {n : Nat} {cs : List A} : vw rf g (.sl n cs) = .sl n (vwL rf g cs) := by simp only [vw]
@[simp] theorem vw_fsl {n : Nat} {cs : List A} : vw rf g (.fsl n cs) = .fsl n (vwL rf g cs) := by simp only [vw]
@[simp] theorem vw_rptr {cs : List A} : vw rf g (.rptr cs) = .rptr (vwL rf g cs) := by simp only [vw]
@[simp] theorem vw_clo {f : FuncId} {a b : List A} : vw rf g (.clo f a b) = .clo f (vwL rf g a) (vwL rf g b) := by simp only [vw]
@[simp] theorem vw_any : vw rf g .any = .any := by simp only [vw]
@[simp] theorem vw_nil : vw rf g .nil = .nil := by simp only [vw]
@[simp] theorem vw_lit {v : Value} : vw rf g (.lit v) = .lit v := by simp only [vw]
@[simp] theorem vw_yv {b : Nat} : vw rf g (yv b) = yv b := by simp only [yv, vw]
@[simp] theorem anyRow_eq {b : Bool} {l n : Nat} : anyRow b l n = .any := rfl
@[simp] theorem vwL_nil : vwL rf g [] = [] := by simp only [vwL]
@[simp] theorem vwL_cons {c : A} {cs : List A} : vwL rf g (c :: cs) = vw rf g c :: vwL rf g cs := by simp only [vwL]
@[simp] theorem vwL_append {cs ds : List A} : vwL rf g (cs ++ ds) = vwL rf g cs ++ vwL rf g ds := by
  induction cs with
  | nil => simp
  | cons c cs ih => simp [ih]
@[simp] theorem vwL_drop {cs : List A} {n : Nat} : vwL rf g (cs.drop n) = (vwL rf g cs).drop n := by
  induction cs generalizing n with
  | nil => simp
  | cons c cs ih => cases n <;> simp [ih]
@[simp] theorem vwL_take {cs : List A} {n : Nat} : vwL rf g (cs.take n) = (vwL rf g cs).take n := by
  induction cs generalizing n with
  | nil => simp
  | cons c cs ih => cases n <;> simp [ih]
@[simp] theorem nrm0_ptr {l o : Nat} : nrm0 (.ptr l o) = .ptr l o := by simp only [nrm0]
@[simp] theorem nrm0_row {l n : Nat} : nrm0 (.row l n) = .row l n := by simp only [nrm0]
@[simp] theorem nrm0_rwp {l n o : Nat} : nrm0 (.rwp l n o) = .rwp l n o := by simp only [nrm0]
@[simp] theorem nrm0_map {l : Nat} : nrm0 (.map l) = .map l := by simp only [nrm0]
@[simp] theorem nrm0_win {l n o k c : Nat} : nrm0 (.win l n o k c) = .win l n o k c := by simp only [nrm0]
@[simp] theorem nrm0_agg {cs : List A} : nrm0 (.agg cs) = .agg (nrm0L cs) := by simp only [nrm0]
@[simp] theorem nrm0_tup {cs : List A} : nrm0 (.tup cs) = .tup (nrm0L cs) := by simp only [nrm0]
@[simp] theorem nrm0_sl {n : Nat} {cs : List A} : nrm0 (.sl n cs) = .sl n (nrm0L cs) := by simp only [nrm0]
@[simp] theorem nrm0_fsl {n : Nat} {cs : List A} : nrm0 (.fsl n cs) = .sl n (nrm0L cs) := by simp only [nrm0]
@[simp] theorem nrm0_rptr {cs : List A} : nrm0 (.rptr cs) = .rptr (nrm0L cs) := by simp only [nrm0]
@[simp] theorem nrm0_clo {f : FuncId} {a b : List A} : nrm0 (.clo f a b) = .clo f (nrm0L a) (nrm0L b) := by simp only [nrm0]
@[simp] theorem nrm0_any : nrm0 .any = .any := by simp only [nrm0]
@[simp] theorem nrm0_nil : nrm0 .nil = .sl 0 [] := by simp only [nrm0]
@[simp] theorem nrm0_lit {v : Value} : nrm0 (.lit v) = .lit v := by simp only [nrm0]
@[simp] theorem nrm0_yv {b : Nat} : nrm0 (yv b) = yv b := by simp only [yv, nrm0]
@[simp] theorem nrm0L_nil : nrm0L [] = [] := by simp only [nrm0L]
@[simp] theorem nrm0L_cons {c : A} {cs : List A} : nrm0L (c :: cs) = nrm0 c :: nrm0L cs := by simp only [nrm0L]
@[simp] theorem nrm0L_append {cs ds : List A} : nrm0L (cs ++ ds) = nrm0L cs ++ nrm0L ds := by
  induction cs with
  | nil => simp
  | cons c cs ih => simp [ih]
@[simp] theorem nrm0L_drop {cs : List A} {n : Nat} : nrm0L (cs.drop n) = (nrm0L cs).drop n := by
  induction cs generalizing n with
  | nil => simp
  | cons c cs ih => cases n <;> simp [ih]
@[simp] theorem nrm0L_take {cs : List A} {n : Nat} : nrm0L (cs.take n) = (nrm0L cs).take n := by
  induction cs generalizing n with
  | nil => simp
  | cons c cs ih => cases n <;> simp [ih]

/-- Plain cells: no levels, slices as 'sl' alone. -/
def Plain (cs : List A) : Prop := nrm0L cs = cs ∧ ∀ rf g, vwL rf g cs = cs
theorem Plain.nil : Plain [] := ⟨by simp, by simp⟩
theorem Plain.append {cs ds : List A} (h : Plain cs) (k : Plain ds) : Plain (cs ++ ds) := ⟨by simp [h.1, k.1], fun rf g => by simp [h.2, k.2]⟩
theorem Plain.drop {cs : List A} (h : Plain cs) (n : Nat) : Plain (cs.drop n) := ⟨by simp [h.1], fun rf g => by simp [h.2]⟩
theorem Plain.take {cs : List A} (h : Plain cs) (n : Nat) : Plain (cs.take n) := ⟨by simp [h.1], fun rf g => by simp [h.2]⟩
theorem Plain.int {k : IntKind} {n : Int} {cs : List A} (h : Plain cs) : Plain (.lit (.int k n) :: cs) := ⟨by simp [h.1], fun rf g => by simp [h.2]⟩
theorem Plain.lit {v : Value} {cs : List A} (h : Plain cs) : Plain (.lit v :: cs) := ⟨by simp [h.1], fun rf g => by simp [h.2]⟩
theorem Plain.sl {n : Nat} {ds cs : List A} (k : Plain ds) (h : Plain cs) : Plain (.sl n ds :: cs) := ⟨by simp [h.1, k.1], fun rf g => by simp [h.2, k.2]⟩

@[simp] theorem posOf_nil {l : Nat} : posOf [] l = none := rfl
@[simp] theorem posOf_cons {k l : Nat} {ks : List Nat} : posOf (k :: ks) l = if l = k then some 0 else (posOf ks l).map (· + 1) := rfl
@[simp] theorem back_nil {n l : Nat} : back [] n l = n + l := by cases l <;> rfl
@[simp] theorem back_zero {j n : Nat} {js : List Nat} : back (j :: js) n 0 = j := rfl
@[simp] theorem back_succ {j n l : Nat} {js : List Nat} : back (j :: js) n (l + 1) = back js n l := rfl
@[simp] theorem putAll_nil {s t : St} : putAll s [] t = s ++ t := by simp only [putAll]
@[simp] theorem putAll_cons {s os : St} {j : Nat} {js : List Nat} {o : AObj} : putAll s (j :: js) (o :: os) = putAll (s.set j o) js os := rfl
@[simp] theorem argOk_nil {js : List Nat} : argOk js [] [] := trivial
@[simp] theorem argOk_cons {js : List Nat} {a a' : A} {as as' : List A} : argOk js (a' :: as') (a :: as) = ((a = vw anyRow (posOf js) a' ∨ a = nrm0 (vw anyRow (posOf js) a')) ∧ argOk js as' as) := rfl
def objAt (o : Option AObj) (J : AObj → Prop) : Prop := match o with
  | some o => J o
  | none => False
@[simp] theorem objAt_some {o : AObj} {J : AObj → Prop} : objAt (some o) J = J o := rfl
@[simp] theorem selOk_nil : selOk σ rf g [] [] := trivial
@[simp] theorem selOk_cons {j : Nat} {js : List Nat} {o : AObj} {os : St} : selOk σ rf g (j :: js) (o :: os) = (objAt σ[j]? (fun p => o = vwO rf g p ∨ o = nrmO (vwO rf g p)) ∧ selOk σ rf g js os) := by
  simp only [selOk, objAt]
  cases σ[j]? <;> rfl
@[simp] theorem vwO_box {cs : List A} : vwO rf g (.box cs) = .box (vwL rf g cs) := rfl
@[simp] theorem vwO_row {fz : Bool} {e : TypeId} {sz n : Nat} {cs : List A} : vwO rf g (.row fz e sz n cs) = .row fz e sz n (vwL rf g cs) := rfl
@[simp] theorem vwO_mp {fr : Bool} {nk : Nat} {es : List (List Int × A)} : vwO rf g (.mp fr nk es) = .mp fr nk (es.map fun p => (p.1, vw rf g p.2)) := rfl
@[simp] theorem vwO_rsv : vwO rf g .rsv = .rsv := rfl
@[simp] theorem nrmO_rsv : nrmO .rsv = .rsv := rfl
@[simp] theorem renO_rsv {js : List Nat} {n : Nat} : renO js n .rsv = .rsv := rfl
@[simp] theorem vwO_it {m n : Nat} {met : List Nat} : vwO rf g (.it m n met) = (match g m with | some i => AObj.it i n met | none => .dead) := rfl
@[simp] theorem nrmO_mp {fr : Bool} {nk : Nat} {es : List (List Int × A)} : nrmO (.mp fr nk es) = .mp fr nk (es.map fun p => (p.1, nrm0 p.2)) := rfl
@[simp] theorem nrmO_it {m n : Nat} {met : List Nat} : nrmO (.it m n met) = .it m n met := rfl
@[simp] theorem renO_mp {js : List Nat} {n : Nat} {fr : Bool} {nk : Nat} {es : List (List Int × A)} : renO js n (.mp fr nk es) = .mp fr nk (es.map fun p => (p.1, ren js n p.2)) := rfl
@[simp] theorem renO_it {js : List Nat} {n m k : Nat} {met : List Nat} : renO js n (.it m k met) = .it (back js n m) k met := rfl
@[simp] theorem vwO_lp {b M : Nat} {r : Loop} {es : List (Nat × A)} : vwO rf g (.lp b r M es) = .lp b r M (es.map fun p => (p.1, vw rf g p.2)) := rfl
@[simp] theorem nrmO_lp {b M : Nat} {r : Loop} {es : List (Nat × A)} : nrmO (.lp b r M es) = .lp b r M (es.map fun p => (p.1, nrm0 p.2)) := rfl
@[simp] theorem renO_lp {js : List Nat} {n b M : Nat} {r : Loop} {es : List (Nat × A)} : renO js n (.lp b r M es) = .lp b r M (es.map fun p => (p.1, ren js n p.2)) := rfl
@[simp] theorem nrmO_box {cs : List A} : nrmO (.box cs) = .box (nrm0L cs) := rfl
@[simp] theorem nrmO_row {fz : Bool} {e : TypeId} {sz n : Nat} {cs : List A} : nrmO (.row fz e sz n cs) = .row fz e sz n (nrm0L cs) := rfl
@[simp] theorem renO_box {js : List Nat} {n : Nat} {cs : List A} : renO js n (.box cs) = .box (renL js n cs) := rfl
@[simp] theorem renO_row {js : List Nat} {n : Nat} {fz : Bool} {e : TypeId} {sz m : Nat} {cs : List A} : renO js n (.row fz e sz m cs) = .row fz e sz m (renL js n cs) := rfl
@[simp] theorem ren_eq {js : List Nat} {n : Nat} {a : A} : ren js n a = vw anyRow (fun l => some (back js n l)) a := rfl
@[simp] theorem renL_eq {js : List Nat} {n : Nat} {cs : List A} : renL js n cs = vwL anyRow (fun l => some (back js n l)) cs := rfl
def seenP (k : Nat) (o : Option AObj) (n : Nat) (J : List A → A) : A := match o with
  | some (.row _ _ _ m cs) => if n = m then J cs else .any
  | _ => .any
@[simp] theorem seenP_some {k n m : Nat} {fz : Bool} {e : TypeId} {sz : Nat} {cs : List A} {J : List A → A} : seenP k (some (.row fz e sz m cs)) n J = if n = m then J cs else .any := rfl
@[simp] theorem seen_zero {b : Bool} {l n : Nat} : seen σ g 0 b l n = .any := rfl
@[simp] theorem seen_succ {k l n : Nat} : seen σ g (k + 1) false l n = seenP k σ[l]? n (fun cs => .sl n (vwL (seen σ g k) g cs)) := by
  simp only [seen, seenP]
  cases σ[l]? with
  | none => rfl
  | some o => cases o <;> rfl
def seenB (o : Option AObj) (J : List A → A) : A := match o with
  | some (.box cs) => J cs
  | _ => .any
@[simp] theorem seenB_box {cs : List A} {J : List A → A} : seenB (some (.box cs)) J = J cs := rfl
@[simp] theorem seenB_row {fz : Bool} {e : TypeId} {sz n : Nat} {cs : List A} {J : List A → A} : seenB (some (.row fz e sz n cs)) J = .any := rfl
@[simp] theorem seenB_none {J : List A → A} : seenB none J = .any := rfl
@[simp] theorem seen_box {k l n : Nat} : seen σ g (k + 1) true l n = seenB σ[l]? (fun cs => .rptr ((vwL (seen σ g k) g cs).drop n)) := by
  simp only [seen, seenB]
  cases σ[l]? with
  | none => rfl
  | some o => cases o <;> rfl

/-! ### results -/
def tupOf : List A → A
  | [x] => x
  | l => .tup l
@[simp] theorem tupOf_one {x : A} : tupOf [x] = x := rfl
@[simp] theorem tupOf_nil : tupOf [] = .tup [] := rfl
@[simp] theorem tupOf_two {x y : A} {l : List A} : tupOf (x :: y :: l) = .tup (x :: y :: l) := rfl
def retJ (env : Env) (σ : St) : List RS → (List A → Prop) → Prop
  | [], J => J []
  | .slot t :: rs, J => retJ env σ rs fun l => J (env t :: l)
  | .cell a n agg :: rs, J => optJ ((ldA σ n (env a)).bind (packA agg)) fun r => retJ env σ rs fun l => J (r :: l)
@[simp] theorem retJ_nil {J : List A → Prop} : retJ env σ [] J = J [] := rfl
@[simp] theorem retJ_slot {t : Nat} {rs : List RS} {J : List A → Prop} : retJ env σ (.slot t :: rs) J = retJ env σ rs fun l => J (env t :: l) := rfl
@[simp] theorem retJ_cell {a n : Nat} {agg : Bool} {rs : List RS} {J : List A → Prop} : retJ env σ (.cell a n agg :: rs) J = optJ ((ldA σ n (env a)).bind (packA agg)) fun r => retJ env σ rs fun l => J (r :: l) := rfl
theorem retJ_eq : ∀ {rs : List RS} {J : List A → Prop}, retJ env σ rs J = match resListA env σ rs with | some l => J l | none => False
  | [], J => rfl
  | .slot t :: rs, J => by
    simp only [retJ, resListA, resOneA]
    rw [retJ_eq]
    cases resListA env σ rs <;> rfl
  | .cell a n agg :: rs, J => by
    simp only [retJ, resListA, resOneA]
    cases (ldA σ n (env a)).bind (packA agg) with
    | none => rfl
    | some r =>
      simp only [optJ]
      rw [retJ_eq]
      cases resListA env σ rs <;> rfl
@[simp] theorem retP_eq {rs : List RS} {R : Out → St → Prop} : retP rs R env σ = retJ env σ rs fun l => R (.ret (tupOf l)) σ := by
  rw [retJ_eq, retP, resA]
  cases resListA env σ rs with
  | none => rfl
  | some l =>
    cases l with
    | nil => rfl
    | cons x l => cases l <;> rfl

/-! ### contracts -/

/-- What a walk of a function has to reach. -/
def RetQ (n : Nat) (r : A) (σ1 : St) (o : Out) (σ' : St) : Prop :=
  ∃ (r' : A) (ks : List Nat) (fuel : Nat), o = .ret r' ∧ (∀ i, i < n → ks[i]? = some i) ∧ ks.Nodup ∧ selOk σ' (seen σ' (posOf ks) fuel) (posOf ks) ks σ1 ∧
    (r = vw (seen σ' (posOf ks) fuel) (posOf ks) r' ∨ r = nrm0 (vw (seen σ' (posOf ks) fuel) (posOf ks) r'))

theorem ret_of_wp {f : FuncId} {fn : Func} {c : Code} {k : K} {rs : List RS} (hf : P.funcs[f]? = some fn) (hb : fn.body = some c) (hc : compile P fn.ntmps c = some k.erase) (hr : slotsOf P fn.results.toList = some rs)
    {args : List A} {σ0 σ1 : St} {r : A} (h : wpF P k rs args σ0 (RetQ σ0.length r σ1)) : Ret P f args σ0 r σ1 := ret_of_sel (callA_of_wp hf hb hc hr h)

theorem ret_of_wpH {hint : Nat → Option (List (Nat × Nat))} {f : FuncId} {fn : Func} {c : Code} {k : K} {rs : List RS} (hf : P.funcs[f]? = some fn) (hb : fn.body = some c) (hc : compileH P fn.ntmps hint c = some k.erase) (hr : slotsOf P fn.results.toList = some rs)
    {args : List A} {σ0 σ1 : St} {r : A} (h : wpF P k rs args σ0 (RetQ σ0.length r σ1)) : Ret P f args σ0 r σ1 := ret_of_sel (callA_of_wpH hf hb hc hr h)

/-- The end of a walk; nothing is kept. -/
theorem ret_end {r r' : A} {σ' : St} (fuel : Nat) (h : r = vw (seen σ' (fun _ => none) fuel) (fun _ => none) r' ∨ r = nrm0 (vw (seen σ' (fun _ => none) fuel) (fun _ => none) r')) : RetQ 0 r [] (.ret r') σ' :=
  ⟨r', [], fuel, rfl, fun i hi => by omega, by simp, trivial, h⟩
theorem ret_keep {n : Nat} {r r' : A} {σ1 σ' : St} (ks : List Nat) (fuel : Nat) (hk : ∀ i, i < n → ks[i]? = some i) (hd : ks.Nodup) (ho : selOk σ' (seen σ' (posOf ks) fuel) (posOf ks) ks σ1)
    (h : r = vw (seen σ' (posOf ks) fuel) (posOf ks) r' ∨ r = nrm0 (vw (seen σ' (posOf ks) fuel) (posOf ks) r')) : RetQ n r σ1 (.ret r') σ' := ⟨r', ks, fuel, rfl, hk, hd, ho, h⟩

theorem set_same : ∀ {s : St} {j : Nat} {o : AObj}, s[j]? = some o → s.set j o = s
  | [], _, _, h => by simp at h
  | x :: s, 0, o, h => by simp at h; simp [h]
  | x :: s, j + 1, o, h => by simp only [List.getElem?_cons_succ] at h; simp [set_same h]

/-- A call of a function that needs no object of the caller's. -/
theorem call0 {f : FuncId} {args args' : List A} {r : A} (h : Ret P f args [] r []) (ha : argOk [] args' args) (hr : ∀ m, vw anyRow (fun l => some (m + l)) r = r) (hq : K' (env.put d r) σ) : CallA P f args' σ (outK d env K' Qp) := by
  refine call_emb h [] (by simp) trivial ha ?_
  have : ren [] σ.length r = r := by
    have := hr σ.length
    simpa [ren] using this
  rw [this]
  simpa [outK] using hq
theorem dcall0 {f : FuncId} {args args' : List A} {r : A} (h : Ret P f args [] r []) (ha : argOk [] args' args) (hr : ∀ m, vw anyRow (fun l => some (m + l)) r = r) (hq : KD (env.put d r)) : wpDcall P σ d KD f args' env := by
  refine ⟨r, call_emb h [] (by simp) trivial ha ?_, hq⟩
  have : ren [] σ.length r = r := by
    have := hr σ.length
    simpa [ren] using this
  rw [this]
  simp

/-- A call of a function that works on the objects 'js' of the caller's. -/
theorem callJ {f : FuncId} {args args' : List A} {σ0 σ1 : St} {r : A} (h : Ret P f args σ0 r σ1) (js : List Nat) (hd : js.Nodup) (ho : selOk σ anyRow (posOf js) js σ0) (ha : argOk js args' args)
    (hq : K' (env.put d (ren js σ.length r)) (putAll σ js (σ1.map (renO js σ.length)))) : CallA P f args' σ (outK d env K' Qp) := call_emb h js hd ho ha (by simpa [outK] using hq)

/-- A loop, said by a family of states. -/
def LoopI {S : Type} (E : S → List (Nat × A)) (T : S → St) (I : S → Prop) (μ : S → Nat) (n : Nat) (e : Env) (t : St) : Prop := ∃ s, I s ∧ μ s = n ∧ e = mkEnv (E s) ∧ t = T s
theorem loopS {S : Type} {W : (Ex → Env → St → Prop) → Env → St → Prop} (E : S → List (Nat × A)) (T : S → St) (I : S → Prop) (μ : S → Nat) (s0 : S) (h0 : I s0) (start : Weak n0 (mkEnv (E s0)) (T s0) env σ)
    (round : ∀ s, I s → W (rnd n0 (LoopI E T I μ) (μ s) Q) (mkEnv (E s)) (T s)) : LoopP n0 W Q env σ := loop_at E T I μ s0 h0 start round
theorem roundS {S : Type} {E : S → List (Nat × A)} {T : S → St} {I : S → Prop} {μ : S → Nat} {n : Nat} (s : S) (hs : I s) (hm : μ s < n) (hw : Weak n0 (mkEnv (E s)) (T s) env σ) : rnd n0 (LoopI E T I μ) n Q .norm env σ :=
  rnd_at s hs hm hw

/-- A weaker state: the levels 'ks'. -/
theorem selW (ks : List Nat) (fuel : Nat) {l : List (Nat × A)} {σ' : St} (hk : ∀ i, i < n0 → ks[i]? = some i) (hd : ks.Nodup) (ho : selOk σ (seen σ (posOf ks) fuel) (posOf ks) ks σ')
    (hl : ∀ p ∈ l, p.2 = vw (seen σ (posOf ks) fuel) (posOf ks) (env p.1) ∨ p.2 = nrm0 (vw (seen σ (posOf ks) fuel) (posOf ks) (env p.1))) : Weak n0 (mkEnv l) σ' env σ := Weak.sel ks fuel l hk hd ho hl

end
end Go.Abs
