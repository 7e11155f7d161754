/-
  States that begin with a caller's, of a length that is not written out; calls of a yield; rows that are frozen; growing calls in regions that draw.
  IDs: how they are compared, and lists of them.
-/
import Derived.Test.YthglhccibdlccaaGreatDoorX14
import Derived.Test.YthglhccibdlccaaGreatDoorRows
import Derived.IntWalk
set_option linter.unusedVariables false
set_option linter.unusedSimpArgs false
namespace Go.Abs
attribute [simp] A.bnd zCU AObj.bnd zIN
@[simp] theorem qLJ {b k:Nat}:(yv b).bnd k=true:=rfl
section
variable {P:Program}{Qp:Value→Env→St→Prop}{Qd:Value→St→Prop}{K':Env→St→Prop}{env:Env} {σ : St}{d:Option Nat}{x:Operand}
def qBV:A→Option Int
 | .lit (.int _ j)=>some j
 | _=>none
@[simp] theorem qIa {k:IntKind}{j:Int}:qBV (.lit (.int k j))=some j:=rfl
@[simp] theorem zZq {n:Nat}:qO env n none=some (n:Int):=rfl
@[simp] theorem zZr {n:Nat}:qO env n (some x)=qBV (ev env x):=by
 simp only[qO,qBV];cases ev env x with
 | lit u=>cases u<;>rfl
 | _=>rfl
def zDD (a b:Option Int)(J:Int→Int→Prop):Prop:=match a,b with
 | some l,some h=>J l h
 | _,_=>False
@[simp] theorem qAB {l h:Int}{J:Int→Int→Prop}:zDD (some l) (some h) J=J l h:=rfl
def zVY (a:A)(lo:Option Int)(hi:Nat→Option Int)(sz:Nat)(J:A→Prop):Prop:=match a with
 | .sl n cs=>zDD lo (hi n) fun l h=>(0≤l∧l≤h∧h≤n)∧J (.sl (h-l).toNat ((cs.drop (l.toNat*sz)).take ((h-l).toNat*sz)))
 | .fsl n cs=>zDD lo (hi n) fun l h=>(0≤l∧l≤h∧h≤n)∧J (.sl (h-l).toNat ((cs.drop (l.toNat*sz)).take ((h-l).toNat*sz)))
 | .nil=>zDD lo (hi 0) fun l h=>(l=0∧h=0)∧J .nil
 | _=>False
@[simp] theorem qKZ {n:Nat}{cs:List A}{lo:Option Int}{hi:Nat→Option Int}{sz:Nat}{J:A→Prop}:zVY (.sl n cs) lo hi sz J=zDD lo (hi n) fun l h=>(0≤l∧l≤h∧h≤n)∧J (.sl (h-l).toNat ((cs.drop (l.toNat*sz)).take ((h-l).toNat*sz))):=rfl
@[simp] theorem qJc {n:Nat}{cs:List A}{lo:Option Int}{hi:Nat→Option Int}{sz:Nat}{J:A→Prop}:zVY (.fsl n cs) lo hi sz J=zDD lo (hi n) fun l h=>(0≤l∧l≤h∧h≤n)∧J (.sl (h-l).toNat ((cs.drop (l.toNat*sz)).take ((h-l).toNat*sz))):=rfl
@[simp] theorem qJd {lo:Option Int}{hi:Nat→Option Int}{sz:Nat}{J:A→Prop}:zVY .nil lo hi sz J=zDD lo (hi 0) fun l h=>(l=0∧h=0)∧J .nil:=rfl
@[simp] theorem qLI {sz:Nat}{lo hi:Option Operand}:wpO P Qp K' (.slc d x sz lo hi none) env σ = zVY (ev env x) (qO env 0 lo) (fun n=>qO env n hi) sz fun r=>K' (env.put d r) σ:=by
 show qY (zO env σ (.slc d x sz lo hi none)) _=_;simp only[zO,zVY];generalize ev env x=a;cases a<;>try rfl
 all_goals
  simp only[zDD];generalize qO env _ lo=u;generalize qO env _ hi=v;cases u<;>cases v<;>rfl
def zFd (o:Option AObj)(n sz:Nat)(J:Prop):Prop:=match o with
 | some (.row _ _ s m _)=>if n=m∧s=sz then J else False
 | _=>False
@[simp] theorem qCz {fz:Bool}{e s n m sz:Nat}{cs:List A}{J:Prop}:zFd (some (.row fz e s m cs)) n sz J=((n=m∧s=sz)∧J):=by simp only[zFd];by_cases h:n=m∧s=sz<;>simp[h]
def zMp (σ : St)(a:A)(lo:Option Int)(hi:Nat→Option Int)(sz:Nat)(J:A→Prop):Prop:=match a with
 | .row l n=>zFd σ[l]? n sz (zDD lo (hi n) fun l' h=>(0≤l'∧l'≤h∧h≤n)∧J (.win l n (l'.toNat*sz) (h-l').toNat ((h-l').toNat*sz)))
 | .win l n o k _=>zFd σ[l]? n sz (zDD lo (hi k) fun l' h=>(0≤l'∧l'≤h∧h≤k)∧J (.win l n (o+l'.toNat*sz) (h-l').toNat ((h-l').toNat*sz)))
 | _=>False
@[simp] theorem qEd {l n:Nat}{lo:Option Int}{hi:Nat→Option Int}{sz:Nat}{J:A→Prop}:zMp σ (.row l n) lo hi sz J=zFd σ[l]? n sz (zDD lo (hi n) fun l' h=>(0≤l'∧l'≤h∧h≤n)∧J (.win l n (l'.toNat*sz) (h-l').toNat ((h-l').toNat*sz))):=rfl
@[simp] theorem qEe {l n o k c:Nat}{lo:Option Int}{hi:Nat→Option Int}{sz:Nat}{J:A→Prop}:zMp σ (.win l n o k c) lo hi sz J=zFd σ[l]? n sz (zDD lo (hi k) fun l' h=>(0≤l'∧l'≤h∧h≤k)∧J (.win l n (o+l'.toNat*sz) (h-l').toNat ((h-l').toNat*sz))):=rfl
theorem zMq {sz:Nat}{lo hi:Option Operand}{J:A→Prop}:qY (zO env σ (.rslc d x sz lo hi)) J=zMp σ (ev env x) (qO env 0 lo) (fun n=>qO env n hi) sz J:=by
 simp only[zO,zMp];generalize ev env x=a;have key:∀(ob:Option AObj) (n k:Nat) (f:Int→Int→Prop×A),qY (match ob with
  | some (.row _ _ s m _)=>if n=m∧s=sz then (match qO env 0 lo,qO env k hi with
   | some l',some h=>some (f l' h)
   | _,_=>none) else none
  | _=>none) J=zFd ob n sz (zDD (qO env 0 lo) (qO env k hi) fun l' h=>(f l' h).1∧J (f l' h).2):=by
  intro ob n k f;simp only[zFd,zDD];cases ob with
  | none=>rfl
  | some ob =>
   cases ob<;>try rfl
   simp only;split
   ·generalize qO env 0 lo=u;generalize qO env k hi=v;cases u<;>cases v<;>rfl
   ·rfl
 cases a<;>try rfl
 ·rename_i l n;exact key σ[l]? n n fun l' h=>(0≤l'∧l'≤h∧h≤n,.win l n (l'.toNat*sz) (h-l').toNat ((h-l').toNat*sz))
 ·rename_i l n o k c;exact key σ[l]? n k fun l' h=>(0≤l'∧l'≤h∧h≤k,.win l n (o+l'.toNat*sz) (h-l').toNat ((h-l').toNat*sz))
@[simp] theorem qJ9 {sz:Nat}{lo hi:Option Operand}:wpO P Qp K' (.rslc d x sz lo hi) env σ = zMp σ (ev env x) (qO env 0 lo) (fun n=>qO env n hi) sz fun r=>K' (env.put d r) σ:=zMq (d:=d)
@[simp] theorem qCQ {fl sz:Nat}{lo hi:Option Operand}:jF P Qd fl K' (.rslc d x sz lo hi) env σ = zMp (zDn fl σ) (ev env x) (qO env 0 lo) (fun n=>qO env n hi) sz fun r=>K' (env.put d r) σ:=zMq (d:=d)
@[simp] theorem qHC {sz l n:Nat}{k:IntKind}{j:Int}{J:A→Prop}:zLx σ sz (.row l n) (.lit (.int k j)) J=zFd σ[l]? n sz ((0≤j∧j<n)∧J (.rwp l n (j.toNat*sz))):=by
 simp only[zLx,zFd];cases σ[l]? with
 | none=>rfl
 | some o=>cases o<;>rfl
@[simp] theorem qHD {sz l n o k' c:Nat}{k:IntKind}{j:Int}{J:A→Prop}:zLx σ sz (.win l n o k' c) (.lit (.int k j)) J=zFd σ[l]? n sz ((0≤j∧j<k')∧J (.rwp l n (o+j.toNat*sz))):=by
 simp only[zLx,zFd];cases σ[l]? with
 | none=>rfl
 | some o=>cases o<;>rfl
def zJq (o:Option AObj)(n:Nat)(J:Prop):Prop:=match o with
 | some (.row _ _ _ m _)=>if n=m then J else False
 | _=>False
@[simp] theorem qCy {fz:Bool}{e s n m:Nat}{cs:List A}{J:Prop}:zJq (some (.row fz e s m cs)) n J=(n=m∧J):=by simp only[zJq];by_cases h:n=m<;>simp[h]
@[simp] theorem qHY {l n:Nat}{J:A→Prop}:zIs σ (.row l n) J=zJq σ[l]? n (J (.lit (.int .i64 n))):=by
 simp only[zIs,zJq];cases σ[l]? with
 | none=>rfl
 | some o=>cases o<;>rfl
@[simp] theorem qHZ {l n o k c:Nat}{J:A→Prop}:zIs σ (.win l n o k c) J=zJq σ[l]? n (J (.lit (.int .i64 k))):=by
 simp only[zIs,zJq];cases σ[l]? with
 | none=>rfl
 | some o=>cases o<;>rfl
@[simp] theorem qHV {l n o k c:Nat}{J:A→Prop}:zLy σ (.win l n o k c) J=zJq σ[l]? n (J (.lit (.int .i64 k))):=by
 simp only[zLy,zJq];cases σ[l]? with
 | none=>rfl
 | some o=>cases o<;>rfl
def zTF (ob:Option AObj)(l n o off:Nat):Option A:=match ob with
 | some (.row _ _ _ m _)=>if n=m then some (.rwp l n (o+off)) else none
 | _=>none
@[simp] theorem qA7 {fz:Bool}{e s n m l o off:Nat}{cs:List A}:zTF (some (.row fz e s m cs)) l n o off=if n=m then some (.rwp l n (o+off)) else none:=rfl
@[simp] theorem qCW {l n o off:Nat}:zHb σ off (.rwp l n o)=zTF σ[l]? l n o off:=by
 simp only[zHb,zTF];cases σ[l]? with
 | none=>rfl
 | some o=>cases o<;>rfl
end
mutual
theorem zWo {rf:Bool→Nat→Nat→A}{g:Nat→Option Nat}{k:Nat}(hg:∀l,l<k→g l=some l):∀(a:A),a.bnd k=true→vw rf g a=a
 | .any,_=>by simp
 | .nil,_=>by simp
 | .lit _,_=>by simp
 | .agg cs,h=>by simp[zDQ hg cs h]
 | .tup cs,h=>by simp[zDQ hg cs h]
 | .sl _ cs,h=>by simp[zDQ hg cs h]
 | .fsl _ cs,h=>by simp[zDQ hg cs h]
 | .rptr cs,h=>by simp[zDQ hg cs h]
 | .ptr l _,h=>by simp[hg l (by simpa using h)]
 | .row l _,h=>by simp[hg l (by simpa using h)]
 | .rwp l _ _,h=>by simp[hg l (by simpa using h)]
 | .win l _ _ _ _,h=>by simp[hg l (by simpa [A.bnd] using h)]
 | .map l,h=>by simp only[vw]; rw[hg l (by simpa using h)]
 | .clo _ fs cs,h=>by simp only[A.bnd,Bool.and_eq_true]at h;simp[zDQ hg fs h.1,zDQ hg cs h.2]
theorem zDQ {rf:Bool→Nat→Nat→A}{g:Nat→Option Nat}{k:Nat}(hg:∀l,l<k→g l=some l):∀(cs:List A),zCU k cs=true→vwL rf g cs=cs
 | [],_=>by simp
 | c::cs,h=>by simp only[zCU,Bool.and_eq_true]at h;simp[zWo hg c h.1,zDQ hg cs h.2]
end
def Cl (m:Nat)(S:St):Prop:=S.length=m∧∀o∈S,o.bnd m=true
theorem Cl.app {m k:Nat}{S own:St}(h:Cl m S)(hk:own.length=k)(ho:∀o∈own,o.bnd (m+k)=true):Cl (m+k) (S++own):=by
 refine⟨by simp[h.1,hk],fun o hm=>?_⟩;rcases List.mem_append.1 hm with hm | hm
 ·exact AObj.bnd_mono (Nat.le_add_right m k) _ (h.2 o hm)
 ·exact ho o hm
section
variable {P:Program}{n0:Nat}{Qp:Value→Env→St→Prop}{Qd:Value→St→Prop}{K':Env→St→Prop}{KD:Env→Prop}{Q:Ex→Env→St→Prop}{env:Env} {σ : St}{d:Option Nat}
theorem zXZ {H:Mem}{L:List LI}{w:World}(hs:RelSt H L σ w){l n:Nat}{e:TypeId}{sz:Nat}{cs:List A}{v:Value}(hσ : σ[l]?=some (.row false e sz n cs))(hv:Rel H L (.row l n) v) :
 ∃H',Nxt H L w H' L (σ.set l (.row true e sz n cs)) w∧Rel H' L (.sl n cs) v:=by
 simp only[Rel]at hv;obtain⟨_,li,e1,e2,e3,hv⟩:=hv;have hob:=hs.obj l li _ e1 hσ;simp only[zW]at hob;obtain⟨_,hln,hcl,hob⟩:=hob;have hv:=hv hln.symm;rcases hob with ⟨hb,h0⟩ | ⟨b,cur,hb,hh,k1,k2,k3,k4,k5,k6⟩
 ·rw[hb]at hv;subst h0;have hcs:cs=[]:=List.eq_nil_of_length_eq_zero (by simpa using hcl);refine⟨H,⟨⟨hs.pers,by simp[hs.len],fun i x o hL ho=>?_,hs.inj,hs.lt⟩,Step.refl _ _ _,LLe.refl _,fun _ h=>.inl h⟩,?_⟩
  ·by_cases hi:i=l
   ·subst hi;rw[e1]at hL;cases hL;rw[List.getElem?_set_self (List.getElem?_eq_some_iff.1 hσ).1]at ho;cases ho;simp only[zW];exact⟨e2,hln,hcl,.inl ⟨hb,trivial⟩⟩
   ·rw[List.getElem?_set_ne (Ne.symm hi)]at ho;exact hs.obj i x o hL ho
  ·simp only[Rel];exact⟨none,0,hv,Nat.le_refl _,Nat.zero_le _,.inl ⟨trivial,hcs⟩⟩
 ·rw[hb]at hv;have hcell:∀(j:Nat) u,(cur.toList.take (n*sz))[j]?=some u→w.cell? ⟨b,j,none⟩=some u:=fun j u hu=>by
   rw[cell_of_row w b j cur e (0,0) hh];rw[List.getElem?_take]at hu;split at hu
   ·simpa using hu
   ·cases hu
  have hA:=zEC (H:=H) (B:=b) (us:=cur.toList.take (n*sz)) (fun o v hv'=>by rw[k6]at hv'; cases hv');have hle:HLe H (zMK H b (cur.toList.take (n*sz))):=fun b' o' v' hv'=>by
   simp only[hA];split
   ·rename_i e; subst e; rw[k6]at hv'; cases hv'
   ·exact hv'
  have hat:At (zMK H b (cur.toList.take (n*sz))) b 0 (cur.toList.take (n*sz)):=fun i u hu=>by simp[hA,hu]
  refine⟨zMK H b (cur.toList.take (n*sz)),zGk hs e1 hb rfl rfl rfl rfl (fun d=>by rw[hh]; simp) rfl (fun _ _=>rfl) hle (fun b' o' v' hv'=>?_) (fun o' v' hv'=>?_) ?_,?_⟩
  ·simp only[hA]at hv';split at hv'
   ·rename_i e; exact .inr e
   ·exact .inl hv'
  ·simp only[hA,if_true]at hv';exact hcell _ _ hv'
  ·simp only[zW];refine⟨e2,hln,hcl,.inr ⟨b,cur,hb,hh,k1,k2,k3,zX.mono hle (LLe.refl _) _ k4,k5,hat,fun o ho=>?_⟩⟩;simp only[hA,if_true];rw[List.getElem?_eq_none];simp only[List.length_take];omega
  ·simp only[Rel];exact⟨_,_,hv,k1,k2,.inr ⟨b,0,_,rfl,zX.mono hle (LLe.refl _) _ k4,k5,hat⟩⟩
theorem zIB {H:Mem}{L:List LI}{w:World}(hs:RelSt H L σ w){l:Nat}{o o':AObj}(hl : σ[l]?=some o)(h:∀li,zW H L w li o→zW H L w li o'):RelSt H L (σ.set l o') w:=by
 refine⟨hs.pers,by simp[hs.len],fun i x p hL hp=>?_,hs.inj,hs.lt⟩;by_cases hi:i=l
 ·subst hi;rw[List.getElem?_set_self (List.getElem?_eq_some_iff.1 hl).1]at hp;cases hp;exact h x (hs.obj i x o hL hl)
 ·rw[List.getElem?_set_ne (Ne.symm hi)]at hp;exact hs.obj i x p hL hp
theorem zAf {l o:Nat}{cs:List A}(hl : σ[l]?=some (.box cs))(hc:cs[o]?=some .nil)(e:TypeId)(sz:Nat):zBz n0 env (σ.set l (.box (cs.set o (.row σ.length 0)))++[AObj.row false e sz 0 []]) env σ:=by
 intro H0 L0 w0 H L w N tmps h0 h1 h2;have hn:=zC7 h1.st e sz;have hlt:l < σ.length:=(List.getElem?_eq_some_iff.1 hl).1;have hl':(σ++[AObj.row false e sz 0 []])[l]?=some (.box cs):=by rw[List.getElem?_append_left hlt]; exact hl
 have hs:=zIB (o':=.box (cs.set o (.row σ.length 0))) hn.st hl' (fun li hob=>by
  simp only[zW]at hob ⊢;obtain⟨g0,b,vs,e',g1,g2,g3,g4,g5⟩:=hob;obtain⟨v,hv,hrel⟩:=g3.get hc;simp only[Rel]at hrel;subst hrel;have hset:vs=vs.set o (.slice none 0 0):=by
   apply List.ext_getElem?;intro i;by_cases hi:i=o
   ·subst hi; rw[List.getElem?_set_self (List.getElem?_eq_some_iff.1 hv).1,hv]
   ·rw[List.getElem?_set_ne (Ne.symm hi)]
  refine⟨g0,b,vs,e',g1,g2,?_,g4,g5⟩;rw[hset];refine g3.set o ?_;simp only[Rel];exact⟨rfl,⟨none,0,0,true⟩,by rw[←h1.st.len]; simp,rfl,Nat.le_refl _,fun _=>rfl⟩)
 rw[List.set_append_left _ _ hlt]at hs;have hm:=h1.trans hn;exact⟨H,_,⟨hs,hm.step,hm.lle,hm.own⟩,h2.1,fun x=>Rel.mono (HLe.refl _) hn.lle _ (h2.2 x)⟩
theorem zUw {K:Env→St→Prop}{f:FuncId}{args args':List A} {σ0:St}{Q0:Out→St→Prop}(h:yN P f args σ0 Q0)(js:List Nat)(hd:js.Nodup)(ho:zAt σ jQ (qU js) js σ0)(ha:zBo js args' args)(hnp:∀v σ1,¬Q0 (.pan v) σ1)
 (hq:∀r σ1,Q0 (.ret r) σ1→yW σ (jO σ js (σ1.map (zB0 js σ.length)))∧K (env.put d (ren js σ.length r)) (jO σ js (σ1.map (zB0 js σ.length)))):zLf P σ d K f args' env :=
 zLA (C:=fun vs w R=>Calls P f vs.toArray w R) (zEy P f) h js hd ho ha hnp fun r σ1 hr=>⟨_,rfl,hq r σ1 hr⟩
theorem zQR {K:Env→St→Prop}{f:FuncId}{args args':List A}{r:A} {σ1:St}(h:Ret P f args [] r σ1)(hn:∀o∈σ1,o≠AObj.rsv)(ha:zBo [] args' args)(hq:K (env.put d (ren [] σ.length r)) (σ++σ1.map (zB0 [] σ.length))):zHR P σ d K f args' env :=
 ⟨_,_,fun o ho=>by
  obtain⟨o',ho',rfl⟩:=List.mem_map.1 ho;have:=hn o' ho';cases o'<;>first | (exact(this rfl).elim) | (simp only[zB0,vwO]; first | (split<;>simp) | simp),fun τ hl _=>by
  rw[←hl];exact zAw h [] (by simp) trivial ha ⟨rfl,by simp⟩,hq⟩
theorem zHG {rf:Bool→Nat→Nat→A}{g:Nat→Option Nat} {σ τ : St}(hk:zB1 σ τ):∀{js:List Nat} {os:St},(∀o∈os,o≠AObj.rsv)→zAt σ rf g js os→zAt τ rf g js os
 | [],[],_,h=>h
 | j::js,o::os,hn,h=>by
  simp only[zAt]at h⊢;cases hj : σ[j]? with
  | none=>rw[hj]at h; exact h.1.elim
  | some x =>
   rw[hj]at h;have hx:x≠AObj.rsv:=fun e=>by
    subst e;rcases h.1 with e | e
    ·exact hn o (List.mem_cons_self ..) (by simpa [vwO] using e)
    ·exact hn o (List.mem_cons_self ..) (by simpa [vwO] using e)
   rw[hk j x hj hx];exact⟨h.1,zHG hk (fun o ho=>hn o (List.mem_cons_of_mem _ ho)) h.2⟩
 | [],_::_,_,h=>h
 | _::_,[],_,h=>h
theorem zQS {K:Env→St→Prop}{f:FuncId}{args args':List A}{r:A}{s0:St}(h:Ret P f args s0 r s0)(js:List Nat)(hjs:js.Nodup)(hn:∀o∈s0,o≠AObj.rsv)(hd:zAt σ jQ (qU js) js s0)(ha:zBo js args' args)
 (hput:∀τ : St,zB1 σ τ→jO τ js (s0.map (zB0 js τ.length)) = τ)(hq:K (env.put d (ren js σ.length r)) σ):zHR P σ d K f args' env :=
 ⟨ren js σ.length r,[],fun o ho=>(by cases ho),fun τ hl hk=>by rw[←hl];exact zAw h js hjs (zHG hk hn hd) ha ⟨rfl,by simp[hput τ hk]⟩,by simpa using hq⟩
theorem zI7 {c:Nat}:∀{js:List Nat} {σ s1:St},(∀j∈js,j<c)→(∀j∈js,j < σ.length)→s1.length=js.length→KA c σ (jO σ js s1)
 | [],σ,s1,_,_,hl=>by
  have:s1=[]:=List.eq_nil_of_length_eq_zero hl;subst this
  simpa [jO] using KA.refl c σ
 | j::js,σ,o::s1,hc,hj,hl=>by have h1:=hc j (List.mem_cons_self ..);have ih:=zI7 (c:=c) (js:=js) (σ:=σ.set j o) (s1:=s1) (fun i hi=>hc i (List.mem_cons_of_mem _ hi)) (fun i hi=>by rw[List.length_set]; exact hj i (List.mem_cons_of_mem _ hi)) (by simpa using hl);intro l cs hle hσ;exact ih l cs hle (by rw[List.getElem?_set_ne (by omega)]; exact hσ)
 | _::_,_,[],_,_,hl=>by simp at hl
theorem zAr {K:Env→St→Prop}{f:FuncId}{args args':List A}{r:A}{s0 s1:St}(h:Ret P f args s0 r s1)(js:List Nat)(hjs:js.Nodup)(hd:zAt σ jQ (qU js) js s0)(ha:zBo js args' args)
 (hq:K (env.put d (ren js σ.length r)) (jO σ js (s1.map (zB0 js σ.length)))):zFO P σ d K f args' env:=⟨_,_,zAw h js hjs hd ha ⟨rfl,rfl⟩,hq⟩
theorem yX {K:Env→St→Prop}{c:Nat}{f:FuncId}{args args':List A}{r:A}{s0 s1:St}(h:Ret P f args s0 r s1)(js:List Nat)(hjs:js.Nodup)(hd:zAt σ jQ (qU js) js s0)(ha:zBo js args' args)
 (hc:∀j∈js,j<c)(hlt:∀j∈js,j < σ.length)(hl:s1.length=js.length)(hq:K (env.put d (ren js σ.length r)) (jO σ js (s1.map (zB0 js σ.length)))):zLe P c σ d K f args' env :=
 ⟨_,_,zI7 hc hlt (by simpa using hl),zAw h js hjs hd ha ⟨rfl,rfl⟩,hq⟩
theorem zQT {K:Env→St→Prop}{c:Nat}{f:FuncId}{args args':List A}{r:A}{s0 s1:St}(h:Ret P f args s0 r s1)(js:List Nat)(hjs:js.Nodup)(hd:zAt σ jQ (qU js) js s0)(ha:zBo js args' args)
 (hc:∀j∈js,j<c)(hlt:∀j∈js,j < σ.length)(hl:s1.length=js.length)(hr:zLk σ (jO σ js (s1.map (zB0 js σ.length))))(hq:K (env.put d (ren js σ.length r)) (jO σ js (s1.map (zB0 js σ.length)))):zLd P c σ d K f args' env :=
 ⟨_,_,⟨zI7 hc hlt (by simpa using hl),hr⟩,zAw h js hjs hd ha ⟨rfl,rfl⟩,hq⟩
end
end Go.Abs
namespace Go.Proofs.YthglhccibdlccaaGreatDoor
open Go.Abs
def K70:K:=G [kMb 2 false] (G [M 3 0,M 4 0,kQ 5 3 4 true,M 2 5] kr)
theorem c70:zL Tryz.prog Tryz.f156.ntmps (Tryz.f156.body.getD .skip)=some K70.erase:=by kernel_rfl
@[simp] theorem qPx:zA Tryz.prog 156=true:=by kernel_rfl
def K47:K:=G [kMi 4 0] (G [M 7 0,kC 8 156 [(kt 7)],M 5 8] (G [M 9 1,kC 10 156 [(kt 9)],M 6 10] (Z (G [M 11 5] (Y 11 (Z (G [M 12 6] (Y 12 (G [kMi 4 0] kr) ks)) (G [⟨none,.mov (some 4) (kc (-1))⟩] kr)) ks)) (Z (G [M 13 6] (Y 13 (G [kMi 4 1] kr) ks)) (Z (G [M 14 0,M 15 1,kB 16 14 15 .lss] (Y 16 (G [⟨none,.mov (some 4) (kc (-1))⟩] kr) ks)) (Z (G [M 17 0,M 18 1,kB 19 17 18 .gtr] (Y 19 (G [kMi 4 1] kr) ks)) (G [kMi 4 0] kr)))))))
theorem c47:zL Tryz.prog Tryz.f135.ntmps (Tryz.f135.body.getD .skip)=some K47.erase:=by kernel_rfl
@[simp] theorem qPv:zA Tryz.prog 135=true:=by kernel_rfl
def K46:K:=G [kMi 2 0] (G [kMi 3 0] (Z (G [M 6 0,kN 7 6,kMi 8 0] (K.block 0 (K.loop (G [kB 9 8 7 .lss] (Z (Y 9 ks (K.exit 0)) (Z (K.block 1 (G [kX 10 6 8 1,L 11 10 1,M 5 11] (G [M 12 5,M 13 3,kQ 14 12 13 true] (Y 14 (G [M 15 5,M 2 15] kr) ks)))) (K.ops [kBi 16 8 1 .add,M 8 16]))))))) (G [M 17 3,M 2 17] kr)))
theorem c46:zL Tryz.prog Tryz.f134.ntmps (Tryz.f134.body.getD .skip)=some K46.erase:=by kernel_rfl
@[simp] theorem qPu:zA Tryz.prog 134=true:=by kernel_rfl
def K27:K:=G [kO 2 0,kO 3 1,kMi 4 0] (Z (K.dops [(0,0,D 5 2 0),(1,0,L 6 5 1),(2,0,D 7 3 0),(3,0,L 8 7 1),(4,0,kC 9 135 [(kt 6),(kt 8)]),(5,0,D 10 2 1),(6,0,L 11 10 1),(7,0,D 12 3 1),(8,0,L 13 12 1),(9,0,kC 14 135 [(kt 11),(kt 13)]),(10,0,D 15 2 2),(11,0,L 16 15 1),(12,0,D 17 3 2),(13,0,L 18 17 1),(14,0,kC 19 135 [(kt 16),(kt 18)]),(15,0,kd 20 3 1 3 [ki,ki,ki] [(0,1,(kt 9)),(1,1,(kt 14)),(2,1,(kt 19))]),(16,0,kC 21 134 [(kt 20)]),(17,0,M 4 21)]) kr)
theorem c27:zL Tryz.prog Tryz.f96.ntmps (Tryz.f96.body.getD .skip)=some K27.erase:=by kernel_rfl
@[simp] theorem qPs:zA Tryz.prog 96=true:=by kernel_rfl
@[simp] theorem qPw:zA Tryz.prog 110=true:=by kernel_rfl
@[simp] theorem qPr:zA Tryz.prog 23=true:=by kernel_rfl
def K13:K:=G [kMb 4 false] (Z (G [M 6 0,kN 7 6,M 8 1,kN 9 8,kQ 10 7 9 true] (Y 10 (G [kMb 4 false] kr) ks)) (Z (G [kMi 5 0] (K.block 0 (K.loop (Z (G [M 11 5,M 12 0,kN 13 12,kB 14 11 13 .lss] (Y 14 ks (K.exit 0))) (Z (K.block 1 (Z (K.dops [(0,0,M 17 0),(1,0,M 18 5),(2,0,kX 19 17 18 3),(3,0,J 20 19 3),(4,0,M 21 1),(5,0,M 22 5),(6,0,kX 23 21 22 3),(7,0,J 24 23 3),(8,0,⟨none,.eqs (some 25) true [.i,.i,.i] (kt 20) (kt 24)⟩)]) (Y 25 (G [kMb 4 false] kr) ks))) (K.ops [M 15 5,kBi 16 15 1 .add,M 5 16])))))) (G [kMb 4 true] kr)))
theorem c13:zL Tryz.prog Tryz.f20.ntmps (Tryz.f20.body.getD .skip)=some K13.erase:=by kernel_rfl
@[simp] theorem qPq:zA Tryz.prog 20=true:=by kernel_rfl
theorem zOe (n:Int):Ret Tryz.prog 156 [int n] [] (bl false) []:=by refine zK Tryz.func156 rfl c70 (rs:=[.slot 2]) (by kernel_rfl) ?_;unfold K70;simp;exact zC 0 (by simp)
def zB4 (a b:Int):Int:=if a<b then -1 else if b<a then 1 else 0
theorem zC4 (a b:Int):Ret Tryz.prog 135 [int a,int b] [] (int (zB4 a b)) []:=by
 refine zK Tryz.func135 rfl c47 (rs:=[.slot 4]) (by kernel_rfl) ?_;unfold K47;simp;refine zR (zOe a) (by simp) (by simp) ?_;simp;refine zR (zOe b) (by simp) (by simp) ?_;simp;refine jV (fun h=>?_) (fun h=>?_)<;>simp at h<;>simp
 ·exact zC 0 (by simp[zB4,h])
 refine jV (fun h'=>?_) (fun h'=>?_)<;>simp at h'<;>simp
 ·exact zC 0 (by simp[zB4,h',Int.not_lt.2 h])
 ·exact zC 0 (by simp[zB4,Int.not_lt.2 h,Int.not_lt.2 h'])
def orI:List Int→Int
 | []=>0
 | a::l=>if a=0 then orI l else a
def yF (l:List Int):List A:=l.map int
theorem zGM:∀(l:List Int),jE (yF l)
 | []=>jE.nil
 | _::l=>jE.lit (zGM l)
@[simp] theorem qHE (l:List Int):(yF l).length=l.length:=by simp[yF]
@[simp] theorem qDQ (l:List Int):jG (yF l)=yF l:=(zGM l).1
@[simp] theorem qLr {rf g}(l:List Int):vwL rf g (yF l)=yF l:=(zGM l).2 _ _
@[simp] theorem qHF:yF []=[]:=rfl
@[simp] theorem qD4 (n:Int)(l:List Int):yF (n::l)=.lit (.int .i64 n)::yF l:=rfl
@[simp] theorem zCQ (a b:List Int):yF (a++b)=yF a++yF b:=by simp[yF]
theorem zGd {l:List Int}{i:Nat}(h:i<l.length):(yF l).drop i=.lit (.int .i64 l[i])::yF (l.drop (i+1)):=by rw[yF,←List.map_drop,List.drop_eq_getElem_cons h]; rfl
theorem qB {i n:Nat}(h:i<n)(hn:n≤maxLen):IntKind.i64.wrap ((i:Int)+1)=(i:Int)+1:=IntWalk.i64_in _ (by simp[maxLen]at hn; omega)
theorem qAi (l:List Int):Ret Tryz.prog 134 [.sl l.length (yF l)] [] (int (orI l)) []:=by
 refine zK Tryz.func134 rfl c46 (rs:=[.slot 2]) (by kernel_rfl) ?_;unfold K46;simp;intro hl;refine qZ (S:=Nat) (fun i=>[(3,int 0),(6,.sl l.length (yF l)),(7,int l.length),(8,int i)]) (fun s=>[]) (fun i=>i≤l.length∧orI l=orI (l.drop i)) (fun i=>l.length-i) 0 (by simp)
  (zS [] 0 (by simp) (by simp) (by simp) (by simp)) ?_
 rintro i ⟨hi,ho⟩;simp;refine jV (fun h=>?_) (fun h=>?_)<;>simp at h
 ·simp[h,zGd h];have hd:l.drop i=l[i]::l.drop (i+1):=List.drop_eq_getElem_cons h;refine jV (fun h'=>?_) (fun h'=>?_)<;>simp at h'<;>simp
  ·exact zC 0 (by rw[ho,hd]; simp[orI,h'])
  ·refine zT (i+1) ⟨h,by rw[ho,hd]; simp[orI,h']⟩ (by omega) (zS [] 0 (by simp) (by simp) (by simp) (by simp[qB h hl]))
 ·simp;have:i=l.length:=by omega
  exact zC 0 (by rw[ho,this]; simp[orI])
structure Id where
 a:Int
 b:Int
 c:Int
 deriving DecidableEq
theorem Id.eq_iff {x y:Id}:x=y↔x.a=y.a∧x.b=y.b∧x.c=y.c:=by cases x; cases y; simp
def qX (d:Id):List A:=[.lit (.int .i64 d.a),.lit (.int .i64 d.b),.lit (.int .i64 d.c)]
def zBb (d:Id):List Int:=[d.a,d.b,d.c]
def qF:List Id→List A
 | []=>[]
 | d::l=>.lit (.int .i64 d.a)::.lit (.int .i64 d.b)::.lit (.int .i64 d.c)::qF l
@[simp] theorem qBh:qF []=[]:=rfl
@[simp] theorem zDE (d:Id)(l:List Id):qF (d::l)=.lit (.int .i64 d.a)::.lit (.int .i64 d.b)::.lit (.int .i64 d.c)::qF l:=rfl
@[simp] theorem zPw:∀l:List Id,(qF l).length=l.length*3
 | []=>rfl
 | d::l=>by simp[zPw l]; omega
theorem jJ:∀(a b:List Id),qF (a++b)=qF a++qF b
 | [],b=>rfl
 | d::a,b=>by simp[jJ a b]
theorem zBD:∀(l:List Id),jE (qF l)
 | []=>jE.nil
 | _::l=>jE.lit (jE.lit (jE.lit (zBD l)))
@[simp] theorem zZX (l:List Id):jG (qF l)=qF l:=(zBD l).1
@[simp] theorem qEx {rf g}(l:List Id):vwL rf g (qF l)=qF l:=(zBD l).2 _ _
theorem yK:∀{l:List Id} {i:Nat} (h:i<l.length),(qF l).drop (i*3)=.lit (.int .i64 l[i].a)::.lit (.int .i64 l[i].b)::.lit (.int .i64 l[i].c)::qF (l.drop (i+1))
 | v::l,0,h=>by simp
 | v::l,i+1,h=>by
  have e:(i+1)*3=i*3+3:=by omega
  rw[e,zDE]
  simpa using yK (l:=l) (i:=i) (by simpa using h)
theorem zIT:∀(l:List Id) (i:Nat),(qF l).take (i*3)=qF (l.take i)
 | [],i=>by simp
 | v::l,0=>by simp
 | v::l,i+1=>by
  have e:(i+1)*3=i*3+3:=by omega
  rw[e,zDE]
  simpa using zIT l i
def zFg (x y:Id):Int:=orI [zB4 x.a y.a,zB4 x.b y.b,zB4 x.c y.c]
def zBR (x y:Id):Bool:=if x.a≠y.a then decide (x.a<y.a) else if x.b≠y.b then decide (x.b<y.b) else decide (x.c<y.c)
theorem zVG (x y:Id):Ret Tryz.prog 96 [.agg (qX x),.agg (qX y)] [] (int (zFg x y)) []:=by refine zK Tryz.func96 rfl c27 (rs:=[.slot 4]) (by kernel_rfl) ?_;unfold K27;simp[qX];refine qE (zC4 x.a y.a) (by simp) (by simp) ?_;simp;refine qE (zC4 x.b y.b) (by simp) (by simp) ?_;simp;refine qE (zC4 x.c y.c) (by simp) (by simp) ?_;simp;refine qE (qAi [zB4 x.a y.a,zB4 x.b y.b,zB4 x.c y.c]) (by simp) (by simp) ?_;simp;exact zC 0 (by simp[zFg])
theorem zKM (a b:List Id):Ret Tryz.prog 20 [.sl a.length (qF a),.sl b.length (qF b)] [] (bl (decide (a=b))) []:=by
 refine zK Tryz.func20 rfl c13 (rs:=[.slot 4]) (by kernel_rfl) ?_;unfold K13;by_cases hab:a.length=b.length
 ·have hab':(a.length:Int)=b.length:=by omega
  simp[hab];intro hlb;refine qZ (S:=Nat) (fun i=>[(0,.sl a.length (qF a)),(1,.sl b.length (qF b)),(5,int i)]) (fun s=>[]) (fun i=>i≤a.length∧a.take i=b.take i) (fun i=>a.length-i) 0 (by simp)
   (zS [] 0 (by simp) (by simp) (by simp) (by simp[hab])) ?_
  rintro i ⟨hi,hn⟩;by_cases h:i<a.length
  ·have hb:i<b.length:=by omega
   simp[h,hb,yK h,yK hb];intro hl;refine jV (fun h'=>?_) (fun h'=>?_)<;>simp at h'<;>simp
   ·have hx:a[i]≠b[i]:=fun e=>by rw[e]at h'; simp at h'
    have hne:a≠b:=fun e=>hx (by subst e; rfl)
    exact zC 0 (by simp[hne])
   ·have hx:a[i]=b[i]:=Id.eq_iff.2 h';refine zT (i+1) ⟨h,?_⟩ (by omega) (zS [] 0 (by simp) (by simp) (by simp) (by simp[qB h hl]));rw[List.take_succ_eq_append_getElem h,List.take_succ_eq_append_getElem hb,hn,hx]
  ·have:i=a.length:=by omega
   subst this;simp;have:a=b:=by rw[List.take_length,hab,List.take_length]at hn; exact hn
   exact fun _=>zC 0 (by simp[this])
 ·have hne:a≠b:=fun e=>hab (by rw[e])
  have hab':¬(a.length:Int)=b.length:=by omega
  simp[hab'];exact fun _ _=>zC 0 (by simp[hne])
end Go.Proofs.YthglhccibdlccaaGreatDoor
