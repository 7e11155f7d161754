/-
  Rules for simp: the operations on maps, and the look whether a pointer is nil.
-/
import Derived.Test.YthglhccibdlccaaDoorE20
namespace Go.Abs

section
variable {P : Program} {Qp : Value → Env → St → Prop} {K' : Env → St → Prop} {env : Env} {σ : St} {d : Option Nat} {x y : Operand}

def nilcP (a : A) (J : A → Prop) : Prop := match a with
  | .ptr l o => J (.ptr l o)
  | .rptr cs => J (.rptr cs)
  | _ => False
@[simp] theorem nilcP_ptr {l o : Nat} {J : A → Prop} : nilcP (.ptr l o) J = J (.ptr l o) := rfl
@[simp] theorem nilcP_rptr {cs : List A} {J : A → Prop} : nilcP (.rptr cs) J = J (.rptr cs) := rfl
theorem nilc_pure {J : A → Prop} : pureP (pureO env σ (.nilc d x)) J = nilcP (ev env x) J := by
  simp only [pureO, nilcP, pureP]
  generalize ev env x = a
  cases a <;> simp
@[simp] theorem wpO_nilc : wpO P Qp K' (.nilc d x) env σ = nilcP (ev env x) fun r => K' (env.put d r) σ := nilc_pure (d := d)
@[simp] theorem wpDop_nilc {fl : Nat} : wpDop P fl K' (.nilc d x) env σ = wpO P noPan K' (.nilc d x) env σ := by simp [wpDop, KOp.lite, KOp.keeps]

/-! maps -/
def litsP : List A → (List Int → Prop) → Prop
  | [], J => J []
  | .lit (.int .i64 n) :: l, J => litsP l fun ks => J (n :: ks)
  | _, _ => False
@[simp] theorem litsP_nil {J : List Int → Prop} : litsP [] J = J [] := rfl
@[simp] theorem litsP_cons {n : Int} {l : List A} {J : List Int → Prop} : litsP (.lit (.int .i64 n) :: l) J = litsP l fun ks => J (n :: ks) := rfl
theorem litsP_eq : ∀ (l : List A) (J : List Int → Prop), litsP l J = match litsI l with | some ks => J ks | none => False
  | [], J => rfl
  | a :: l, J => by
    cases a <;> try rfl
    rename_i v
    cases v <;> try rfl
    rename_i k n
    cases k <;> try rfl
    simp only [litsP, litsI, litsP_eq l]
    cases litsI l <;> rfl
def keyP (nk : Nat) (k : A) (J : List Int → Prop) : Prop := match keyA nk k with
  | some ks => J ks
  | none => False
@[simp] theorem keyP_agg {nk : Nat} {cs : List A} {J : List Int → Prop} : keyP nk (.agg cs) J = litsP cs fun ks => ks.length = nk ∧ J ks := by
  simp only [keyP, keyA, litsP_eq]
  cases litsI cs with
  | none => rfl
  | some ks =>
    simp only
    by_cases h : ks.length = nk <;> simp [h]
def mpAt (o : Option AObj) (J : Bool → Nat → List (List Int × A) → Prop) : Prop := match o with
  | some (.mp fr nk es) => J fr nk es
  | _ => False
@[simp] theorem mpAt_some {fr : Bool} {nk : Nat} {es : List (List Int × A)} {J : Bool → Nat → List (List Int × A) → Prop} : mpAt (some (.mp fr nk es)) J = J fr nk es := rfl
def itAt (o : Option AObj) (J : Nat → Nat → List Nat → Prop) : Prop := match o with
  | some (.it m n met) => J m n met
  | _ => False
@[simp] theorem itAt_some {m n : Nat} {met : List Nat} {J : Nat → Nat → List Nat → Prop} : itAt (some (.it m n met)) J = J m n met := rfl

@[simp] theorem wpO_mop {m : MOp} {xs : List Operand} : wpO P Qp K' (.mop d m xs) env σ = mopW m (xs.map (ev env)) (fun r τ => K' (env.put d r) τ) σ := by simp only [wpO]
variable {K : A → St → Prop}
@[simp] theorem mopW_mk {nk : Nat} : mopW (.mk nk) [] K σ = K (.map σ.length) (σ ++ [.mp true nk []]) := rfl
@[simp] theorem mopW_get {nk l : Nat} {z : Value} {ok : Bool} {k : A} : mopW (.get nk z ok) [.map l, k] K σ = keyP nk k fun ks => mpAt σ[l]? fun _ nk' es => nk' = nk ∧ K (getR z ok (findI ks es)) σ := by
  simp only [mopW, keyP, mpAt]
  cases keyA nk k with
  | none => rfl
  | some ks =>
    cases σ[l]? with
    | none => rfl
    | some o => cases o <;> rfl
@[simp] theorem mopW_set {nk l : Nat} {k v : A} : mopW (.set nk) [.map l, k, v] K σ = keyP nk k fun ks => mpAt σ[l]? fun fr nk' es => nk' = nk ∧ K (.lit undef) (σ.set l (.mp fr nk (putI ks v es))) := by
  simp only [mopW, keyP, mpAt]
  cases keyA nk k with
  | none => rfl
  | some ks =>
    cases σ[l]? with
    | none => rfl
    | some o => cases o <;> rfl
@[simp] theorem mopW_del {nk l : Nat} {k : A} : mopW (.del nk) [.map l, k] K σ = keyP nk k fun ks => mpAt σ[l]? fun _ nk' es => nk' = nk ∧ K (.tup []) (σ.set l (.mp false nk (delI ks es))) := by
  simp only [mopW, keyP, mpAt]
  cases keyA nk k with
  | none => rfl
  | some ks =>
    cases σ[l]? with
    | none => rfl
    | some o => cases o <;> rfl
@[simp] theorem mopW_rng {l : Nat} : mopW .rng [.map l] K σ = mpAt σ[l]? fun fr _ es => fr = true ∧ K (.ptr σ.length 0) (σ ++ [.it l es.length []]) := by
  simp only [mopW, mpAt]
  cases σ[l]? with
  | none => rfl
  | some o =>
    cases o <;> try rfl
    rename_i fr nk es
    cases fr <;> simp
@[simp] theorem mopW_nxt {j : Nat} : mopW .nxt [.ptr j 0] K σ = itAt σ[j]? fun l n met => mpAt σ[l]? fun fr _ es => fr = true ∧ n = es.length ∧
    (∀ (i : Nat) (p : List Int × A), i ∉ met → es[i]? = some p → K (.tup [.lit (.bool true), keyB p.1, p.2]) (σ.set j (.it l n (met ++ [i])))) ∧ ((∀ i, i < n → i ∈ met) → K (.tup [.lit (.bool false)]) σ) := by
  simp only [mopW, mpAt, itAt]
  cases σ[j]? with
  | none => rfl
  | some o =>
    cases o <;> try rfl
    rename_i l n met
    simp only
    cases σ[l]? with
    | none => rfl
    | some o =>
      cases o <;> try rfl
      rename_i fr nk es
      cases fr <;> simp
@[simp] theorem mopW_ent {j : Nat} : mopW .ent [.ptr j 0] K σ = itAt σ[j]? fun l n met => mpAt σ[l]? fun fr _ es => fr = true ∧ ∃ i p, met.getLast? = some i ∧ es[i]? = some p ∧ n = es.length ∧ K (.tup [keyB p.1, p.2]) σ := by
  simp only [mopW, mpAt, itAt]
  cases σ[j]? with
  | none => rfl
  | some o =>
    cases o <;> try rfl
    rename_i l n met
    simp only
    cases σ[l]? with
    | none => rfl
    | some o =>
      cases o <;> try (cases met.getLast? <;> rfl)
      rename_i fr nk es
      cases fr
      · cases met.getLast? <;> simp
      · cases met.getLast? with
        | none => simp
        | some i =>
          simp only
          apply propext
          cases hp : es[i]? with
          | none =>
            refine ⟨fun h => h.2.elim, ?_⟩
            rintro ⟨_, i', p', h1, h2, _⟩
            have h1 := Option.some.inj h1
            subst h1
            rw [hp] at h2
            exact absurd h2 (by simp)
          | some p =>
            refine ⟨fun h => ⟨trivial, i, p, rfl, hp, h.1, h.2⟩, ?_⟩
            rintro ⟨_, i', p', h1, h2, h3, h4⟩
            have h1 := Option.some.inj h1
            subst h1
            rw [hp] at h2
            have h2 := Option.some.inj h2
            subst h2
            exact ⟨h3, h4⟩
@[simp] theorem mopW_clr {sz : Nat} {zs : List Value} {l n o k c : Nat} : mopW (.clr sz zs) [.win l n o k c] K σ = (match σ[l]? with
    | some (.row fz e s m cs) => (n = m ∧ s = sz ∧ fz = false ∧ o + k * sz ≤ cs.length) ∧ K (.tup []) (σ.set l (.row false e sz n (cs.take o ++ (List.replicate k (zs.map ofCell)).flatten ++ cs.drop (o + k * sz))))
    | _ => False) := rfl
@[simp] theorem mopW_boom {xs : List A} : mopW .boom xs K σ = False := by cases xs <;> rfl

@[simp] theorem vw_keyB {rf : Bool → Nat → Nat → A} {g : Nat → Option Nat} (ks : List Int) : vw rf g (keyB ks) = keyB ks := by
  have : ∀ ks : List Int, vwL rf g (ks.map fun n => A.lit (.int .i64 n)) = ks.map fun n => A.lit (.int .i64 n) := fun ks => by
    induction ks with
    | nil => rfl
    | cons k ks ih => simp [vwL, ih]
  simp [keyB, this]
end
end Go.Abs
