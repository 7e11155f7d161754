/-
  States that begin with a caller's, of a length that is not written out; calls of a yield; rows that are frozen; growing calls in regions that draw.
  IDs: how they are compared, and lists of them.
-/
import Derived.Test.YthglhccibdlccaaGreatDoorX15
import Derived.Test.YthglhccibdlccaaGreatDoorRows
import Derived.IntWalk
set_option linter.unusedVariables false
set_option linter.unusedSimpArgs false
namespace Go.Abs
attribute [simp] A.bnd zCF AObj.bnd zIo
@[simp] theorem qKR {b k:Nat}:(yv b).bnd k=true:=rfl
section
variable {P:Program}{Qp:Value→Env→St→Prop}{Qd:Value→St→Prop}{K':Env→St→Prop}{env:Env} {σ : St}{d:Option Nat}{x:Operand}
def qBr:A→Option Int
 | .lit (.int _ j)=>some j
 | _=>none
@[simp] theorem qHl {k:IntKind}{j:Int}:qBr (.lit (.int k j))=some j:=rfl
@[simp] theorem zYC {n:Nat}:qI env n none=some (n:Int):=rfl
@[simp] theorem zYD {n:Nat}:qI env n (some x)=qBr (ev env x):=by
 simp only[qI,qBr];cases ev env x with
 | lit u=>cases u<;>rfl
 | _=>rfl
def zDv (a b:Option Int)(J:Int→Int→Prop):Prop:=match a,b with
 | some l,some h=>J l h
 | _,_=>False
@[simp] theorem zZX {l h:Int}{J:Int→Int→Prop}:zDv (some l) (some h) J=J l h:=rfl
def zVy (a:A)(lo:Option Int)(hi:Nat→Option Int)(sz:Nat)(J:A→Prop):Prop:=match a with
 | .sl n cs=>zDv lo (hi n) fun l h=>(0≤l∧l≤h∧h≤n)∧J (.sl (h-l).toNat ((cs.drop (l.toNat*sz)).take ((h-l).toNat*sz)))
 | .fsl n cs=>zDv lo (hi n) fun l h=>(0≤l∧l≤h∧h≤n)∧J (.sl (h-l).toNat ((cs.drop (l.toNat*sz)).take ((h-l).toNat*sz)))
 | .nil=>zDv lo (hi 0) fun l h=>(l=0∧h=0)∧J .nil
 | _=>False
@[simp] theorem qKh {n:Nat}{cs:List A}{lo:Option Int}{hi:Nat→Option Int}{sz:Nat}{J:A→Prop}:zVy (.sl n cs) lo hi sz J=zDv lo (hi n) fun l h=>(0≤l∧l≤h∧h≤n)∧J (.sl (h-l).toNat ((cs.drop (l.toNat*sz)).take ((h-l).toNat*sz))):=rfl
@[simp] theorem qIo {n:Nat}{cs:List A}{lo:Option Int}{hi:Nat→Option Int}{sz:Nat}{J:A→Prop}:zVy (.fsl n cs) lo hi sz J=zDv lo (hi n) fun l h=>(0≤l∧l≤h∧h≤n)∧J (.sl (h-l).toNat ((cs.drop (l.toNat*sz)).take ((h-l).toNat*sz))):=rfl
@[simp] theorem qIp {lo:Option Int}{hi:Nat→Option Int}{sz:Nat}{J:A→Prop}:zVy .nil lo hi sz J=zDv lo (hi 0) fun l h=>(l=0∧h=0)∧J .nil:=rfl
@[simp] theorem qKQ {sz:Nat}{lo hi:Option Operand}:wpO P Qp K' (.slc d x sz lo hi none) env σ = zVy (ev env x) (qI env 0 lo) (fun n=>qI env n hi) sz fun r=>K' (env.put d r) σ:=by
 show qP (zK env σ (.slc d x sz lo hi none)) _=_;simp only[zK,zVy];generalize ev env x=a;cases a<;>try rfl
 all_goals
  simp only[zDv];generalize qI env _ lo=u;generalize qI env _ hi=v;cases u<;>cases v<;>rfl
def zEF (o:Option AObj)(n sz:Nat)(J:Prop):Prop:=match o with
 | some (.row _ _ s m _)=>if n=m∧s=sz then J else False
 | _=>False
@[simp] theorem qBL {fz:Bool}{e s n m sz:Nat}{cs:List A}{J:Prop}:zEF (some (.row fz e s m cs)) n sz J=((n=m∧s=sz)∧J):=by simp only[zEF];by_cases h:n=m∧s=sz<;>simp[h]
def zLC (σ : St)(a:A)(lo:Option Int)(hi:Nat→Option Int)(sz:Nat)(J:A→Prop):Prop:=match a with
 | .row l n=>zEF σ[l]? n sz (zDv lo (hi n) fun l' h=>(0≤l'∧l'≤h∧h≤n)∧J (.win l n (l'.toNat*sz) (h-l').toNat ((h-l').toNat*sz)))
 | .win l n o k _=>zEF σ[l]? n sz (zDv lo (hi k) fun l' h=>(0≤l'∧l'≤h∧h≤k)∧J (.win l n (o+l'.toNat*sz) (h-l').toNat ((h-l').toNat*sz)))
 | _=>False
@[simp] theorem qDz {l n:Nat}{lo:Option Int}{hi:Nat→Option Int}{sz:Nat}{J:A→Prop}:zLC σ (.row l n) lo hi sz J=zEF σ[l]? n sz (zDv lo (hi n) fun l' h=>(0≤l'∧l'≤h∧h≤n)∧J (.win l n (l'.toNat*sz) (h-l').toNat ((h-l').toNat*sz))):=rfl
@[simp] theorem qD0 {l n o k c:Nat}{lo:Option Int}{hi:Nat→Option Int}{sz:Nat}{J:A→Prop}:zLC σ (.win l n o k c) lo hi sz J=zEF σ[l]? n sz (zDv lo (hi k) fun l' h=>(0≤l'∧l'≤h∧h≤k)∧J (.win l n (o+l'.toNat*sz) (h-l').toNat ((h-l').toNat*sz))):=rfl
theorem zLD {sz:Nat}{lo hi:Option Operand}{J:A→Prop}:qP (zK env σ (.rslc d x sz lo hi)) J=zLC σ (ev env x) (qI env 0 lo) (fun n=>qI env n hi) sz J:=by
 simp only[zK,zLC];generalize ev env x=a;have key:∀(ob:Option AObj) (n k:Nat) (f:Int→Int→Prop×A),qP (match ob with
  | some (.row _ _ s m _)=>if n=m∧s=sz then (match qI env 0 lo,qI env k hi with
   | some l',some h=>some (f l' h)
   | _,_=>none) else none
  | _=>none) J=zEF ob n sz (zDv (qI env 0 lo) (qI env k hi) fun l' h=>(f l' h).1∧J (f l' h).2):=by
  intro ob n k f;simp only[zEF,zDv];cases ob with
  | none=>rfl
  | some ob =>
   cases ob<;>try rfl
   simp only;split
   ·generalize qI env 0 lo=u;generalize qI env k hi=v;cases u<;>cases v<;>rfl
   ·rfl
 cases a<;>try rfl
 ·rename_i l n;exact key σ[l]? n n fun l' h=>(0≤l'∧l'≤h∧h≤n,.win l n (l'.toNat*sz) (h-l').toNat ((h-l').toNat*sz))
 ·rename_i l n o k c;exact key σ[l]? n k fun l' h=>(0≤l'∧l'≤h∧h≤k,.win l n (o+l'.toNat*sz) (h-l').toNat ((h-l').toNat*sz))
@[simp] theorem qIL {sz:Nat}{lo hi:Option Operand}:wpO P Qp K' (.rslc d x sz lo hi) env σ = zLC σ (ev env x) (qI env 0 lo) (fun n=>qI env n hi) sz fun r=>K' (env.put d r) σ:=zLD (d:=d)
@[simp] theorem qCl {fl sz:Nat}{lo hi:Option Operand}:qZ P Qd fl K' (.rslc d x sz lo hi) env σ = zLC (zDk fl σ) (ev env x) (qI env 0 lo) (fun n=>qI env n hi) sz fun r=>K' (env.put d r) σ:=zLD (d:=d)
@[simp] theorem qGR {sz l n:Nat}{k:IntKind}{j:Int}{J:A→Prop}:zKH σ sz (.row l n) (.lit (.int k j)) J=zEF σ[l]? n sz ((0≤j∧j<n)∧J (.rwp l n (j.toNat*sz))):=by
 simp only[zKH,zEF];cases σ[l]? with
 | none=>rfl
 | some o=>cases o<;>rfl
@[simp] theorem qGS {sz l n o k' c:Nat}{k:IntKind}{j:Int}{J:A→Prop}:zKH σ sz (.win l n o k' c) (.lit (.int k j)) J=zEF σ[l]? n sz ((0≤j∧j<k')∧J (.rwp l n (o+j.toNat*sz))):=by
 simp only[zKH,zEF];cases σ[l]? with
 | none=>rfl
 | some o=>cases o<;>rfl
def zID (o:Option AObj)(n:Nat)(J:Prop):Prop:=match o with
 | some (.row _ _ _ m _)=>if n=m then J else False
 | _=>False
@[simp] theorem qBK {fz:Bool}{e s n m:Nat}{cs:List A}{J:Prop}:zID (some (.row fz e s m cs)) n J=(n=m∧J):=by simp only[zID];by_cases h:n=m<;>simp[h]
@[simp] theorem qHj {l n:Nat}{J:A→Prop}:zHL σ (.row l n) J=zID σ[l]? n (J (.lit (.int .i64 n))):=by
 simp only[zHL,zID];cases σ[l]? with
 | none=>rfl
 | some o=>cases o<;>rfl
@[simp] theorem qHk {l n o k c:Nat}{J:A→Prop}:zHL σ (.win l n o k c) J=zID σ[l]? n (J (.lit (.int .i64 k))):=by
 simp only[zHL,zID];cases σ[l]? with
 | none=>rfl
 | some o=>cases o<;>rfl
@[simp] theorem qHg {l n o k c:Nat}{J:A→Prop}:zKI σ (.win l n o k c) J=zID σ[l]? n (J (.lit (.int .i64 k))):=by
 simp only[zKI,zID];cases σ[l]? with
 | none=>rfl
 | some o=>cases o<;>rfl
def zTu (ob:Option AObj)(l n o off:Nat):Option A:=match ob with
 | some (.row _ _ _ m _)=>if n=m then some (.rwp l n (o+off)) else none
 | _=>none
@[simp] theorem zZT {fz:Bool}{e s n m l o off:Nat}{cs:List A}:zTu (some (.row fz e s m cs)) l n o off=if n=m then some (.rwp l n (o+off)) else none:=rfl
@[simp] theorem qCr {l n o off:Nat}:zG5 σ off (.rwp l n o)=zTu σ[l]? l n o off:=by
 simp only[zG5,zTu];cases σ[l]? with
 | none=>rfl
 | some o=>cases o<;>rfl
end
mutual
theorem zVG {rf:Bool→Nat→Nat→A}{g:Nat→Option Nat}{k:Nat}(hg:∀l,l<k→g l=some l):∀(a:A),a.bnd k=true→vw rf g a=a
 | .any,_=>by simp
 | .nil,_=>by simp
 | .lit _,_=>by simp
 | .agg cs,h=>by simp[zD7 hg cs h]
 | .tup cs,h=>by simp[zD7 hg cs h]
 | .sl _ cs,h=>by simp[zD7 hg cs h]
 | .fsl _ cs,h=>by simp[zD7 hg cs h]
 | .rptr cs,h=>by simp[zD7 hg cs h]
 | .ptr l _,h=>by simp[hg l (by simpa using h)]
 | .row l _,h=>by simp[hg l (by simpa using h)]
 | .rwp l _ _,h=>by simp[hg l (by simpa using h)]
 | .win l _ _ _ _,h=>by simp[hg l (by simpa [A.bnd] using h)]
 | .map l,h=>by simp only[vw]; rw[hg l (by simpa using h)]
 | .clo _ fs cs,h=>by simp only[A.bnd,Bool.and_eq_true]at h;simp[zD7 hg fs h.1,zD7 hg cs h.2]
theorem zD7 {rf:Bool→Nat→Nat→A}{g:Nat→Option Nat}{k:Nat}(hg:∀l,l<k→g l=some l):∀(cs:List A),zCF k cs=true→vwL rf g cs=cs
 | [],_=>by simp
 | c::cs,h=>by simp only[zCF,Bool.and_eq_true]at h;simp[zVG hg c h.1,zD7 hg cs h.2]
end
def Cl (m:Nat)(S:St):Prop:=S.length=m∧∀o∈S,o.bnd m=true
theorem Cl.app {m k:Nat}{S own:St}(h:Cl m S)(hk:own.length=k)(ho:∀o∈own,o.bnd (m+k)=true):Cl (m+k) (S++own):=by
 refine⟨by simp[h.1,hk],fun o hm=>?_⟩;rcases List.mem_append.1 hm with hm | hm
 ·exact AObj.bnd_mono (Nat.le_add_right m k) _ (h.2 o hm)
 ·exact ho o hm
section
variable {P:Program}{n0:Nat}{Qp:Value→Env→St→Prop}{Qd:Value→St→Prop}{K':Env→St→Prop}{KD:Env→Prop}{Q:Ex→Env→St→Prop}{env:Env} {σ : St}{d:Option Nat}
theorem zXt {H:Mem}{L:List LI}{w:World}(hs:RelSt H L σ w){l n:Nat}{e:TypeId}{sz:Nat}{cs:List A}{v:Value}(hσ : σ[l]?=some (.row false e sz n cs))(hv:Rel H L (.row l n) v) :
 ∃H',Nxt H L w H' L (σ.set l (.row true e sz n cs)) w∧Rel H' L (.sl n cs) v:=by
 simp only[Rel]at hv;obtain⟨_,li,e1,e2,e3,hv⟩:=hv;have hob:=hs.obj l li _ e1 hσ;simp only[zS]at hob;obtain⟨_,hln,hcl,hob⟩:=hob;have hv:=hv hln.symm;rcases hob with ⟨hb,h0⟩ | ⟨b,cur,hb,hh,k1,k2,k3,k4,k5,k6⟩
 ·rw[hb]at hv;subst h0;have hcs:cs=[]:=List.eq_nil_of_length_eq_zero (by simpa using hcl);refine⟨H,⟨⟨hs.pers,by simp[hs.len],fun i x o hL ho=>?_,hs.inj,hs.lt⟩,Step.refl _ _ _,LLe.refl _,fun _ h=>.inl h⟩,?_⟩
  ·by_cases hi:i=l
   ·subst hi;rw[e1]at hL;cases hL;rw[List.getElem?_set_self (List.getElem?_eq_some_iff.1 hσ).1]at ho;cases ho;simp only[zS];exact⟨e2,hln,hcl,.inl ⟨hb,trivial⟩⟩
   ·rw[List.getElem?_set_ne (Ne.symm hi)]at ho;exact hs.obj i x o hL ho
  ·simp only[Rel];exact⟨none,0,hv,Nat.le_refl _,Nat.zero_le _,.inl ⟨trivial,hcs⟩⟩
 ·rw[hb]at hv;have hcell:∀(j:Nat) u,(cur.toList.take (n*sz))[j]?=some u→w.cell? ⟨b,j,none⟩=some u:=fun j u hu=>by
   rw[cell_of_row w b j cur e (0,0) hh];rw[List.getElem?_take]at hu;split at hu
   ·simpa using hu
   ·cases hu
  have hA:=zEo (H:=H) (B:=b) (us:=cur.toList.take (n*sz)) (fun o v hv'=>by rw[k6]at hv'; cases hv');have hle:HLe H (zMd H b (cur.toList.take (n*sz))):=fun b' o' v' hv'=>by
   simp only[hA];split
   ·rename_i e; subst e; rw[k6]at hv'; cases hv'
   ·exact hv'
  have hat:At (zMd H b (cur.toList.take (n*sz))) b 0 (cur.toList.take (n*sz)):=fun i u hu=>by simp[hA,hu]
  refine⟨zMd H b (cur.toList.take (n*sz)),zF6 hs e1 hb rfl rfl rfl rfl (fun d=>by rw[hh]; simp) rfl (fun _ _=>rfl) hle (fun b' o' v' hv'=>?_) (fun o' v' hv'=>?_) ?_,?_⟩
  ·simp only[hA]at hv';split at hv'
   ·rename_i e; exact .inr e
   ·exact .inl hv'
  ·simp only[hA,if_true]at hv';exact hcell _ _ hv'
  ·simp only[zS];refine⟨e2,hln,hcl,.inr ⟨b,cur,hb,hh,k1,k2,k3,zV.mono hle (LLe.refl _) _ k4,k5,hat,fun o ho=>?_⟩⟩;simp only[hA,if_true];rw[List.getElem?_eq_none];simp only[List.length_take];omega
  ·simp only[Rel];exact⟨_,_,hv,k1,k2,.inr ⟨b,0,_,rfl,zV.mono hle (LLe.refl _) _ k4,k5,hat⟩⟩
theorem zIc {H:Mem}{L:List LI}{w:World}(hs:RelSt H L σ w){l:Nat}{o o':AObj}(hl : σ[l]?=some o)(h:∀li,zS H L w li o→zS H L w li o'):RelSt H L (σ.set l o') w:=by
 refine⟨hs.pers,by simp[hs.len],fun i x p hL hp=>?_,hs.inj,hs.lt⟩;by_cases hi:i=l
 ·subst hi;rw[List.getElem?_set_self (List.getElem?_eq_some_iff.1 hl).1]at hp;cases hp;exact h x (hs.obj i x o hL hl)
 ·rw[List.getElem?_set_ne (Ne.symm hi)]at hp;exact hs.obj i x p hL hp
theorem zAa {l o:Nat}{cs:List A}(hl : σ[l]?=some (.box cs))(hc:cs[o]?=some .nil)(e:TypeId)(sz:Nat):zBG n0 env (σ.set l (.box (cs.set o (.row σ.length 0)))++[AObj.row false e sz 0 []]) env σ:=by
 intro H0 L0 w0 H L w N tmps h0 h1 h2;have hn:=zCv h1.st e sz;have hlt:l < σ.length:=(List.getElem?_eq_some_iff.1 hl).1;have hl':(σ++[AObj.row false e sz 0 []])[l]?=some (.box cs):=by rw[List.getElem?_append_left hlt]; exact hl
 have hs:=zIc (o':=.box (cs.set o (.row σ.length 0))) hn.st hl' (fun li hob=>by
  simp only[zS]at hob ⊢;obtain⟨g0,b,vs,e',g1,g2,g3,g4,g5⟩:=hob;obtain⟨v,hv,hrel⟩:=g3.get hc;simp only[Rel]at hrel;subst hrel;have hset:vs=vs.set o (.slice none 0 0):=by
   apply List.ext_getElem?;intro i;by_cases hi:i=o
   ·subst hi; rw[List.getElem?_set_self (List.getElem?_eq_some_iff.1 hv).1,hv]
   ·rw[List.getElem?_set_ne (Ne.symm hi)]
  refine⟨g0,b,vs,e',g1,g2,?_,g4,g5⟩;rw[hset];refine g3.set o ?_;simp only[Rel];exact⟨rfl,⟨none,0,0,true⟩,by rw[←h1.st.len]; simp,rfl,Nat.le_refl _,fun _=>rfl⟩)
 rw[List.set_append_left _ _ hlt]at hs;have hm:=h1.trans hn;exact⟨H,_,⟨hs,hm.step,hm.lle,hm.own⟩,h2.1,fun x=>Rel.mono (HLe.refl _) hn.lle _ (h2.2 x)⟩
theorem zUc {K:Env→St→Prop}{f:FuncId}{args args':List A} {σ0:St}{Q0:Out→St→Prop}(h:yR P f args σ0 Q0)(js:List Nat)(hd:js.Nodup)(ho:zA3 σ jO (qQ js) js σ0)(ha:zBA js args' args)(hnp:∀v σ1,¬Q0 (.pan v) σ1)
 (hq:∀r σ1,Q0 (.ret r) σ1→yS σ (jU σ js (σ1.map (zBD js σ.length)))∧K (env.put d (ren js σ.length r)) (jU σ js (σ1.map (zBD js σ.length)))):zK1 P σ d K f args' env :=
 zKU (C:=fun vs w R=>Calls P f vs.toArray w R) (zJi P f) h js hd ho ha hnp fun r σ1 hr=>⟨_,rfl,hq r σ1 hr⟩
theorem zQx {K:Env→St→Prop}{f:FuncId}{args args':List A}{r:A} {σ1:St}(h:Ret P f args [] r σ1)(hn:∀o∈σ1,o≠AObj.rsv)(ha:zBA [] args' args)(hq:K (env.put d (ren [] σ.length r)) (σ++σ1.map (zBD [] σ.length))):zHv P σ d K f args' env :=
 ⟨_,_,fun o ho=>by
  obtain⟨o',ho',rfl⟩:=List.mem_map.1 ho;have:=hn o' ho';cases o'<;>first | (exact(this rfl).elim) | (simp only[zBD,vwO]; first | (split<;>simp) | simp),fun τ hl _=>by
  rw[←hl];exact zAw h [] (by simp) trivial ha ⟨rfl,by simp⟩,hq⟩
theorem zHl {rf:Bool→Nat→Nat→A}{g:Nat→Option Nat} {σ τ : St}(hk:zBv σ τ):∀{js:List Nat} {os:St},(∀o∈os,o≠AObj.rsv)→zA3 σ rf g js os→zA3 τ rf g js os
 | [],[],_,h=>h
 | j::js,o::os,hn,h=>by
  simp only[zA3]at h⊢;cases hj : σ[j]? with
  | none=>rw[hj]at h; exact h.1.elim
  | some x =>
   rw[hj]at h;have hx:x≠AObj.rsv:=fun e=>by
    subst e;rcases h.1 with e | e
    ·exact hn o (List.mem_cons_self ..) (by simpa [vwO] using e)
    ·exact hn o (List.mem_cons_self ..) (by simpa [vwO] using e)
   rw[hk j x hj hx];exact⟨h.1,zHl hk (fun o ho=>hn o (List.mem_cons_of_mem _ ho)) h.2⟩
 | [],_::_,_,h=>h
 | _::_,[],_,h=>h
theorem zQy {K:Env→St→Prop}{f:FuncId}{args args':List A}{r:A}{s0:St}(h:Ret P f args s0 r s0)(js:List Nat)(hjs:js.Nodup)(hn:∀o∈s0,o≠AObj.rsv)(hd:zA3 σ jO (qQ js) js s0)(ha:zBA js args' args)
 (hput:∀τ : St,zBv σ τ→jU τ js (s0.map (zBD js τ.length)) = τ)(hq:K (env.put d (ren js σ.length r)) σ):zHv P σ d K f args' env :=
 ⟨ren js σ.length r,[],fun o ho=>(by cases ho),fun τ hl hk=>by rw[←hl];exact zAw h js hjs (zHl hk hn hd) ha ⟨rfl,by simp[hput τ hk]⟩,by simpa using hq⟩
theorem zHZ {c:Nat}:∀{js:List Nat} {σ s1:St},(∀j∈js,j<c)→(∀j∈js,j < σ.length)→s1.length=js.length→KA c σ (jU σ js s1)
 | [],σ,s1,_,_,hl=>by
  have:s1=[]:=List.eq_nil_of_length_eq_zero hl;subst this
  simpa [jU] using KA.refl c σ
 | j::js,σ,o::s1,hc,hj,hl=>by have h1:=hc j (List.mem_cons_self ..);have ih:=zHZ (c:=c) (js:=js) (σ:=σ.set j o) (s1:=s1) (fun i hi=>hc i (List.mem_cons_of_mem _ hi)) (fun i hi=>by rw[List.length_set]; exact hj i (List.mem_cons_of_mem _ hi)) (by simpa using hl);intro l cs hle hσ;exact ih l cs hle (by rw[List.getElem?_set_ne (by omega)]; exact hσ)
 | _::_,_,[],_,_,hl=>by simp at hl
theorem zAn {K:Env→St→Prop}{f:FuncId}{args args':List A}{r:A}{s0 s1:St}(h:Ret P f args s0 r s1)(js:List Nat)(hjs:js.Nodup)(hd:zA3 σ jO (qQ js) js s0)(ha:zBA js args' args)
 (hq:K (env.put d (ren js σ.length r)) (jU σ js (s1.map (zBD js σ.length)))):zFr P σ d K f args' env:=⟨_,_,zAw h js hjs hd ha ⟨rfl,rfl⟩,hq⟩
theorem yU {K:Env→St→Prop}{c:Nat}{f:FuncId}{args args':List A}{r:A}{s0 s1:St}(h:Ret P f args s0 r s1)(js:List Nat)(hjs:js.Nodup)(hd:zA3 σ jO (qQ js) js s0)(ha:zBA js args' args)
 (hc:∀j∈js,j<c)(hlt:∀j∈js,j < σ.length)(hl:s1.length=js.length)(hq:K (env.put d (ren js σ.length r)) (jU σ js (s1.map (zBD js σ.length)))):zK0 P c σ d K f args' env :=
 ⟨_,_,zHZ hc hlt (by simpa using hl),zAw h js hjs hd ha ⟨rfl,rfl⟩,hq⟩
theorem zQz {K:Env→St→Prop}{c:Nat}{f:FuncId}{args args':List A}{r:A}{s0 s1:St}(h:Ret P f args s0 r s1)(js:List Nat)(hjs:js.Nodup)(hd:zA3 σ jO (qQ js) js s0)(ha:zBA js args' args)
 (hc:∀j∈js,j<c)(hlt:∀j∈js,j < σ.length)(hl:s1.length=js.length)(hr:zK4 σ (jU σ js (s1.map (zBD js σ.length))))(hq:K (env.put d (ren js σ.length r)) (jU σ js (s1.map (zBD js σ.length)))):zKz P c σ d K f args' env :=
 ⟨_,_,⟨zHZ hc hlt (by simpa using hl),hr⟩,zAw h js hjs hd ha ⟨rfl,rfl⟩,hq⟩
end
end Go.Abs
namespace Go.Proofs.YthglhccibdlccaaGreatDoor
open Go.Abs
def K70:K:=G [kMb 2 false] (G [M 3 0,M 4 0,kQ 5 3 4 true,M 2 5] kr)
theorem c70:zL Tryz.prog Tryz.f156.ntmps (Tryz.f156.body.getD .skip)=some K70.erase:=by kernel_rfl
@[simp] theorem qOv:zA Tryz.prog 156=true:=by kernel_rfl
def K47:K:=G [kMi 4 0] (G [M 7 0,kC 8 156 [(kt 7)],M 5 8] (G [M 9 1,kC 10 156 [(kt 9)],M 6 10] (Z (G [M 11 5] (Y 11 (Z (G [M 12 6] (Y 12 (G [kMi 4 0] kr) ks)) (G [⟨none,.mov (some 4) (kc (-1))⟩] kr)) ks)) (Z (G [M 13 6] (Y 13 (G [kMi 4 1] kr) ks)) (Z (G [M 14 0,M 15 1,kB 16 14 15 .lss] (Y 16 (G [⟨none,.mov (some 4) (kc (-1))⟩] kr) ks)) (Z (G [M 17 0,M 18 1,kB 19 17 18 .gtr] (Y 19 (G [kMi 4 1] kr) ks)) (G [kMi 4 0] kr)))))))
theorem c47:zL Tryz.prog Tryz.f135.ntmps (Tryz.f135.body.getD .skip)=some K47.erase:=by kernel_rfl
@[simp] theorem qOt:zA Tryz.prog 135=true:=by kernel_rfl
def K46:K:=G [kMi 2 0] (G [kMi 3 0] (Z (G [M 6 0,kN 7 6,kMi 8 0] (K.block 0 (K.loop (G [kB 9 8 7 .lss] (Z (Y 9 ks (K.exit 0)) (Z (K.block 1 (G [kX 10 6 8 1,L 11 10 1,M 5 11] (G [M 12 5,M 13 3,kQ 14 12 13 true] (Y 14 (G [M 15 5,M 2 15] kr) ks)))) (K.ops [kBi 16 8 1 .add,M 8 16]))))))) (G [M 17 3,M 2 17] kr)))
theorem c46:zL Tryz.prog Tryz.f134.ntmps (Tryz.f134.body.getD .skip)=some K46.erase:=by kernel_rfl
@[simp] theorem qOs:zA Tryz.prog 134=true:=by kernel_rfl
def K27:K:=G [kO 2 0,kO 3 1,kMi 4 0] (Z (K.dops [(0,0,D 5 2 0),(1,0,L 6 5 1),(2,0,D 7 3 0),(3,0,L 8 7 1),(4,0,kC 9 135 [(kt 6),(kt 8)]),(5,0,D 10 2 1),(6,0,L 11 10 1),(7,0,D 12 3 1),(8,0,L 13 12 1),(9,0,kC 14 135 [(kt 11),(kt 13)]),(10,0,D 15 2 2),(11,0,L 16 15 1),(12,0,D 17 3 2),(13,0,L 18 17 1),(14,0,kC 19 135 [(kt 16),(kt 18)]),(15,0,kd 20 3 1 3 [ki,ki,ki] [(0,1,(kt 9)),(1,1,(kt 14)),(2,1,(kt 19))]),(16,0,kC 21 134 [(kt 20)]),(17,0,M 4 21)]) kr)
theorem c27:zL Tryz.prog Tryz.f96.ntmps (Tryz.f96.body.getD .skip)=some K27.erase:=by kernel_rfl
@[simp] theorem qOq:zA Tryz.prog 96=true:=by kernel_rfl
@[simp] theorem qOu:zA Tryz.prog 110=true:=by kernel_rfl
def K19:K:=G [kO 3 1,kMb 4 false] (Z (G [kMi 5 0] (K.block 0 (K.loop (Z (G [M 6 5,M 7 0,kN 8 7,kB 9 6 8 .lss] (Y 9 ks (K.exit 0))) (Z (K.block 1 (Z (K.dops [(0,0,M 12 0),(1,0,M 13 5),(2,0,kX 14 12 13 3),(3,0,J 15 14 3),(4,0,J 16 3 3),(5,0,⟨none,.eqs (some 17) false [.i,.i,.i] (kt 15) (kt 16)⟩)]) (Y 17 (G [kMb 4 true] kr) ks))) (K.ops [M 10 5,kBi 11 10 1 .add,M 5 11])))))) (G [kMb 4 false] kr))
theorem c19:zL Tryz.prog Tryz.f23.ntmps (Tryz.f23.body.getD .skip)=some K19.erase:=by kernel_rfl
@[simp] theorem qOp:zA Tryz.prog 23=true:=by kernel_rfl
@[simp] theorem qOo:zA Tryz.prog 20=true:=by kernel_rfl
theorem zN5 (n:Int):Ret Tryz.prog 156 [int n] [] (bl false) []:=by refine zI Tryz.func156 rfl c70 (rs:=[.slot 2]) (by kernel_rfl) ?_;unfold K70;simp;exact zC 0 (by simp)
def zDf (a b:Int):Int:=if a<b then -1 else if b<a then 1 else 0
theorem zCs (a b:Int):Ret Tryz.prog 135 [int a,int b] [] (int (zDf a b)) []:=by
 refine zI Tryz.func135 rfl c47 (rs:=[.slot 4]) (by kernel_rfl) ?_;unfold K47;simp;refine zQ (zN5 a) (by simp) (by simp) ?_;simp;refine zQ (zN5 b) (by simp) (by simp) ?_;simp;refine zAk (fun h=>?_) (fun h=>?_)<;>simp at h<;>simp
 ·exact zC 0 (by simp[zDf,h])
 refine zAk (fun h'=>?_) (fun h'=>?_)<;>simp at h'<;>simp
 ·exact zC 0 (by simp[zDf,h',Int.not_lt.2 h])
 ·exact zC 0 (by simp[zDf,Int.not_lt.2 h,Int.not_lt.2 h'])
def orI:List Int→Int
 | []=>0
 | a::l=>if a=0 then orI l else a
def yA (l:List Int):List A:=l.map int
theorem zGm:∀(l:List Int),qW (yA l)
 | []=>qW.nil
 | _::l=>qW.lit (zGm l)
@[simp] theorem qGT (l:List Int):(yA l).length=l.length:=by simp[yA]
@[simp] theorem qDl (l:List Int):qV (yA l)=yA l:=(zGm l).1
@[simp] theorem qKz {rf g}(l:List Int):vwL rf g (yA l)=yA l:=(zGm l).2 _ _
@[simp] theorem qGU:yA []=[]:=rfl
@[simp] theorem qCO (n:Int)(l:List Int):yA (n::l)=.lit (.int .i64 n)::yA l:=rfl
@[simp] theorem zCB (a b:List Int):yA (a++b)=yA a++yA b:=by simp[yA]
theorem zF0 {l:List Int}{i:Nat}(h:i<l.length):(yA l).drop i=.lit (.int .i64 l[i])::yA (l.drop (i+1)):=by rw[yA,←List.map_drop,List.drop_eq_getElem_cons h]; rfl
theorem qD {i n:Nat}(h:i<n)(hn:n≤maxLen):IntKind.i64.wrap ((i:Int)+1)=(i:Int)+1:=IntWalk.i64_in _ (by simp[maxLen]at hn; omega)
theorem zZ5 (l:List Int):Ret Tryz.prog 134 [.sl l.length (yA l)] [] (int (orI l)) []:=by
 refine zI Tryz.func134 rfl c46 (rs:=[.slot 2]) (by kernel_rfl) ?_;unfold K46;simp;intro hl;refine qY (S:=Nat) (fun i=>[(3,int 0),(6,.sl l.length (yA l)),(7,int l.length),(8,int i)]) (fun s=>[]) (fun i=>i≤l.length∧orI l=orI (l.drop i)) (fun i=>l.length-i) 0 (by simp)
  (zR [] 0 (by simp) (by simp) (by simp) (by simp)) ?_
 rintro i ⟨hi,ho⟩;simp;refine zAk (fun h=>?_) (fun h=>?_)<;>simp at h
 ·simp[h,zF0 h];have hd:l.drop i=l[i]::l.drop (i+1):=List.drop_eq_getElem_cons h;refine zAk (fun h'=>?_) (fun h'=>?_)<;>simp at h'<;>simp
  ·exact zC 0 (by rw[ho,hd]; simp[orI,h'])
  ·refine zT (i+1) ⟨h,by rw[ho,hd]; simp[orI,h']⟩ (by omega) (zR [] 0 (by simp) (by simp) (by simp) (by simp[qD h hl]))
 ·simp;have:i=l.length:=by omega
  exact zC 0 (by rw[ho,this]; simp[orI])
structure Id where
 a:Int
 b:Int
 c:Int
 deriving DecidableEq
theorem Id.eq_iff {x y:Id}:x=y↔x.a=y.a∧x.b=y.b∧x.c=y.c:=by cases x; cases y; simp
def qF (d:Id):List A:=[.lit (.int .i64 d.a),.lit (.int .i64 d.b),.lit (.int .i64 d.c)]
def zAY (d:Id):List Int:=[d.a,d.b,d.c]
def zX:List Id→List A
 | []=>[]
 | d::l=>.lit (.int .i64 d.a)::.lit (.int .i64 d.b)::.lit (.int .i64 d.c)::zX l
@[simp] theorem qA2:zX []=[]:=rfl
@[simp] theorem zDw (d:Id)(l:List Id):zX (d::l)=.lit (.int .i64 d.a)::.lit (.int .i64 d.b)::.lit (.int .i64 d.c)::zX l:=rfl
@[simp] theorem zOS:∀l:List Id,(zX l).length=l.length*3
 | []=>rfl
 | d::l=>by simp[zOS l]; omega
theorem jD:∀(a b:List Id),zX (a++b)=zX a++zX b
 | [],b=>rfl
 | d::a,b=>by simp[jD a b]
theorem zB1:∀(l:List Id),qW (zX l)
 | []=>qW.nil
 | _::l=>qW.lit (qW.lit (qW.lit (zB1 l)))
@[simp] theorem zZt (l:List Id):qV (zX l)=zX l:=(zB1 l).1
@[simp] theorem qDI {rf g}(l:List Id):vwL rf g (zX l)=zX l:=(zB1 l).2 _ _
theorem yE:∀{l:List Id} {i:Nat} (h:i<l.length),(zX l).drop (i*3)=.lit (.int .i64 l[i].a)::.lit (.int .i64 l[i].b)::.lit (.int .i64 l[i].c)::zX (l.drop (i+1))
 | v::l,0,h=>by simp
 | v::l,i+1,h=>by
  have e:(i+1)*3=i*3+3:=by omega
  rw[e,zDw]
  simpa using yE (l:=l) (i:=i) (by simpa using h)
theorem zIu:∀(l:List Id) (i:Nat),(zX l).take (i*3)=zX (l.take i)
 | [],i=>by simp
 | v::l,0=>by simp
 | v::l,i+1=>by
  have e:(i+1)*3=i*3+3:=by omega
  rw[e,zDw]
  simpa using zIu l i
def zEG (x y:Id):Int:=orI [zDf x.a y.a,zDf x.b y.b,zDf x.c y.c]
def zBC (x y:Id):Bool:=if x.a≠y.a then decide (x.a<y.a) else if x.b≠y.b then decide (x.b<y.b) else decide (x.c<y.c)
theorem zVh (x y:Id):Ret Tryz.prog 96 [.agg (qF x),.agg (qF y)] [] (int (zEG x y)) []:=by refine zI Tryz.func96 rfl c27 (rs:=[.slot 4]) (by kernel_rfl) ?_;unfold K27;simp[qF];refine qO (zCs x.a y.a) (by simp) (by simp) ?_;simp;refine qO (zCs x.b y.b) (by simp) (by simp) ?_;simp;refine qO (zCs x.c y.c) (by simp) (by simp) ?_;simp;refine qO (zZ5 [zDf x.a y.a,zDf x.b y.b,zDf x.c y.c]) (by simp) (by simp) ?_;simp;exact zC 0 (by simp[zEG])
theorem zGl (l:List Id)(x:Id):Ret Tryz.prog 23 [.sl l.length (zX l),.agg (qF x)] [] (bl (decide (x∈l))) []:=by
 refine zI Tryz.func23 rfl c19 (rs:=[.slot 4]) (by kernel_rfl) ?_;unfold K19;simp[qF];refine qY (S:=Nat) (fun i=>[(0,.sl l.length (zX l)),(3,.ptr 0 0),(5,int i)]) (fun s=>[.box (qF x)]) (fun i=>i≤l.length∧x∉l.take i) (fun i=>l.length-i) 0 (by simp)
  (zR [0] 0 (by simp) (by simp) (by simp[qF]) (by simp)) ?_
 rintro i ⟨hi,hn⟩;by_cases h:i<l.length
 ·simp[h,yE h,qF];intro hl;refine zAk (fun h'=>?_) (fun h'=>?_)<;>simp at h'<;>simp
  ·have hx:l[i]=x:=Id.eq_iff.2 h';exact zC 0 (by simp[←hx])
  ·have hx:l[i]≠x:=fun e=>h' (by rw[←e]) (by rw[←e]) (by rw[←e])
   refine zT (i+1) ⟨h,?_⟩ (by omega) (zR [0] 0 (by simp) (by simp) (by simp[qF]) (by simp[qD h hl]));rw[List.take_succ_eq_append_getElem h];simp only[List.mem_append,List.mem_singleton,not_or];exact⟨hn,fun e=>hx e.symm⟩
 ·have:i=l.length:=by omega
  subst this;simp;rw[List.take_length]at hn;exact fun _=>zC 0 (by simp[hn])
end Go.Proofs.YthglhccibdlccaaGreatDoor
