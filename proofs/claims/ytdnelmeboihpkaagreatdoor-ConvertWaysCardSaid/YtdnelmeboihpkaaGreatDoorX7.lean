/-
  Code; weakening; loops; the body of a function.
  Weakening a state; calls of functions that only compute.
  Functions that only compute: their contracts, and how a call meets them.
-/
import Derived.Test.YtdnelmeboihpkaaGreatDoorX6
import Derived.Deep.LoopGhost
import Derived.RangeFuncRecord
set_option linter.unusedVariables false
set_option maxHeartbeats 8000000
set_option maxRecDepth 100000
set_option linter.unusedSimpArgs false
namespace Go.Abs
mutual
def A.bnd (k:Nat):A→Bool
 | .any | .nil | .lit _=>true
 | .agg cs | .tup cs | .sl _ cs | .fsl _ cs | .rptr cs=>zBe k cs
 | .ptr l _ | .row l _ | .rwp l _ _ | .map l | .win l _ _ _ _=>decide (l<k)
 | .clo _ fs cs=>zBe k fs&&zBe k cs
def zBe (k:Nat):List A→Bool
 | []=>true
 | c::cs=>c.bnd k&&zBe k cs
end
def AObj.bnd (k:Nat):AObj→Bool
 | .dead=>true
 | .box cs=>zBe k cs
 | .row _ _ _ _ cs=>zBe k cs
 | .lp _ _ _ es=>es.all fun p=>p.2.bnd k
 | .mp _ _ es=>es.all fun p=>p.2.bnd k
 | .it m _ _=>decide (m<k)
 | .rsv=>true
mutual
theorem A.bnd_mono {k k':Nat}(h:k≤k'):∀(a:A),a.bnd k=true→a.bnd k'=true
 | .any,_=>rfl
 | .nil,_=>rfl
 | .lit _,_=>rfl
 | .agg cs,hb=>zBw h cs hb
 | .tup cs,hb=>zBw h cs hb
 | .sl _ cs,hb=>zBw h cs hb
 | .fsl _ cs,hb=>zBw h cs hb
 | .rptr cs,hb=>zBw h cs hb
 | .ptr l _,hb=>by simp only[A.bnd,decide_eq_true_eq]at hb ⊢; omega
 | .row l _,hb=>by simp only[A.bnd,decide_eq_true_eq]at hb ⊢; omega
 | .rwp l _ _,hb=>by simp only[A.bnd,decide_eq_true_eq]at hb ⊢; omega
 | .map l,hb=>by simp only[A.bnd,decide_eq_true_eq]at hb ⊢; omega
 | .win l _ _ _ _,hb=>by simp only[A.bnd,decide_eq_true_eq]at hb ⊢; omega
 | .clo _ fs cs,hb=>by simp only[A.bnd,jA6]at hb ⊢;exact⟨zBw h fs hb.1,zBw h cs hb.2⟩
theorem zBw {k k':Nat}(h:k≤k'):∀(cs:List A),zBe k cs=true→zBe k' cs=true
 | [],_=>rfl
 | c::cs,hb=>by simp only[zBe,jA6]at hb ⊢;exact⟨A.bnd_mono h c hb.1,zBw h cs hb.2⟩
end
theorem AObj.bnd_mono {k k':Nat}(h:k≤k')(o:AObj)(hb:o.bnd k=true):o.bnd k'=true:=by
 cases o with
 | dead=>rfl
 | box cs=>exact zBw h cs hb
 | row fz e sz n cs=>exact zBw h cs hb
 | lp b r M es =>
  simp only[AObj.bnd,jAz]at hb ⊢;exact fun p hp=>A.bnd_mono h _ (hb p hp)
 | mp fr nk es =>
  simp only[AObj.bnd,jAz]at hb ⊢;exact fun p hp=>A.bnd_mono h _ (hb p hp)
 | it m n met=>simp only[AObj.bnd,decide_eq_true_eq]at hb ⊢; omega
 | rsv=>rfl
theorem zFt {k:Nat}:∀{cs ds:List A},zBe k (cs++ds)=(zBe k cs&&zBe k ds)
 | [],ds=>by simp[zBe]
 | c::cs,ds=>by simp[zBe,zFt,Bool.and_assoc]
section
variable {P:Program}{H:Mem}{L L':List LI}
mutual
theorem Rel.levels {k:Nat}(hl:∀l,l<k→L'[l]?=L[l]?):∀(a:A) {v:Value},a.bnd k=true→Rel H L a v→Rel H L' a v
 | .any,_,_,_=>by simp[Rel]
 | .nil,_,_,h=>by simpa [Rel] using h
 | .lit _,_,_,h=>by simpa [Rel] using h
 | .agg cs,v,hb,h=>by simp only[Rel]at h⊢;obtain⟨vs,rfl,h1,h2⟩:=h;exact⟨vs,rfl,zQ.levels hl cs (by simpa [A.bnd] using hb) h1,h2⟩
 | .tup cs,v,hb,h=>by simp only[Rel]at h⊢;obtain⟨vs,rfl,h1⟩:=h;exact⟨vs,rfl,zQ.levels hl cs (by simpa [A.bnd] using hb) h1⟩
 | .sl n cs,v,hb,h=>by
  simp only[Rel]at h⊢;obtain⟨a,cap,rfl,h1,h2,h3⟩:=h;refine⟨a,cap,rfl,h1,h2,?_⟩;rcases h3 with h3 | ⟨b,o,us,rfl,h4,h5,h6⟩
  ·exact .inl h3
  ·exact .inr ⟨b,o,us,rfl,zQ.levels hl cs (by simpa [A.bnd] using hb) h4,h5,h6⟩
 | .fsl n cs,v,hb,h=>by
  simp only[Rel]at h⊢;obtain⟨a,rfl,h1,h3⟩:=h;refine⟨a,rfl,h1,?_⟩;rcases h3 with h3 | ⟨b,o,us,rfl,h4,h5,h6⟩
  ·exact .inl h3
  ·exact .inr ⟨b,o,us,rfl,zQ.levels hl cs (by simpa [A.bnd] using hb) h4,h5,h6⟩
 | .ptr l off,v,hb,h=>by simp only[Rel]at h⊢;rw[hl l (by simpa [A.bnd] using hb)];exact h
 | .rptr cs,v,hb,h=>by simp only[Rel]at h⊢;obtain⟨b,o,us,rfl,h4,h5,h6⟩:=h;exact⟨b,o,us,rfl,zQ.levels hl cs (by simpa [A.bnd] using hb) h4,h5,h6⟩
 | .row l n,v,hb,h=>by simp only[Rel]at h⊢;rw[hl l (by simpa [A.bnd] using hb)];exact h
 | .rwp l n off,v,hb,h=>by simp only[Rel]at h⊢;rw[hl l (by simpa [A.bnd] using hb)];exact h
 | .map l,v,hb,h=>by simp only[Rel]at h⊢;rw[hl l (by simpa [A.bnd] using hb)];exact h
 | .win l n o k c,v,hb,h=>by simp only[Rel]at h⊢;rw[hl l (by simpa [A.bnd] using hb)];exact h
 | .clo f first cap,v,hb,h=>by simp only[Rel]at h⊢;simp only[A.bnd,jA6]at hb;obtain⟨fs,cs,rfl,h1,h2⟩:=h;exact⟨fs,cs,rfl,zQ.levels hl first hb.1 h1,zQ.levels hl cap hb.2 h2⟩
theorem zQ.levels {k:Nat}(hl:∀l,l<k→L'[l]?=L[l]?):∀(cs:List A) {vs:List Value},zBe k cs=true→zQ H L cs vs→zQ H L' cs vs
 | [],vs,_,h=>by simpa [zQ] using h
 | c::cs,vs,hb,h=>by simp only[zBe,jA6]at hb;simp only[zQ]at h⊢;obtain⟨u,us,rfl,h1,h2⟩:=h;exact⟨u,us,rfl,Rel.levels hl c hb.1 h1,zQ.levels hl cs hb.2 h2⟩
end
theorem zN.levels {w:World}{k:Nat}(hl:∀l,l<k→L'[l]?=L[l]?){li:LI}{o:AObj}(hb:o.bnd k=true)(h:zN H L w li o):zN H L' w li o:=by
 cases o with
 | dead=>trivial
 | box cs =>
  simp only[zN]at h⊢;obtain⟨h0,b,vs,e,h1,h2,h3,h4,h5⟩:=h;exact⟨h0,b,vs,e,h1,h2,zQ.levels hl cs hb h3,h4,h5⟩
 | row fz e sz n cs =>
  simp only[zN]at h⊢;obtain⟨h0,h1,h2,h3⟩:=h;refine⟨h0,h1,h2,?_⟩;rcases h3 with h3 | ⟨b,cur,g1,g2,g3,g4,g5,g6,g7,g8⟩
  ·exact .inl h3
  ·exact .inr ⟨b,cur,g1,g2,g3,g4,g5,zQ.levels hl cs hb g6,g7,g8⟩
 | lp b r M es =>
  simp only[zN]at h⊢;obtain⟨h0,h1,tmps,h2,h3,h4⟩:=h;simp only[AObj.bnd,jAz]at hb;exact⟨h0,h1,tmps,h2,h3,fun p hp=>Rel.levels hl _ (hb p hp) (h4 p hp)⟩
 | mp fr nk es =>
  simp only[zN]at h⊢;obtain⟨h0,b,ents,ck,h1,h2,h3,h4⟩:=h;simp only[AObj.bnd,jAz]at hb;have:=zAk.map id (fun p hp v hv=>Rel.levels hl _ (hb p hp) hv) h3;exact⟨h0,b,ents,ck,h1,h2,by simpa using this,h4⟩
 | it m n met =>
  simp only[zN]at h⊢;simp only[AObj.bnd,decide_eq_true_eq]at hb;rw[hl m hb];exact h
 | rsv=>exact h
def qU:List (Nat×A)→Env
 | []=>fun _=>.any
 | (t,a)::l=>fun x=>if x=t then a else qU l x
theorem zDi:∀(l:List (Nat×A)) (t:Nat),qU l t=.any∨(t,qU l t)∈l
 | [],t=>.inl rfl
 | (u,a)::l,t=>by
  simp only[qU];split
  ·rename_i h; subst h; exact .inr (jAk ..)
  ·exact(zDi l t).imp id (jAh _)
theorem zRT {H0:Mem}{L0:List LI}{w0:World} {σ τ : St}{w:World}(hn:L0.length≤σ.length)(ho:∀o∈σ,o.bnd σ.length=true)(h1:Nxt H0 L0 w0 H L (σ++τ) w) :
 ∃L',Nxt H0 L0 w0 H L' σ w∧∀(a:A) v,a.bnd σ.length=true→Rel H L a v→Rel H L' a v:=by
 have hlen:L.length = σ.length + τ.length:=by rw[h1.st.len,jA5]
 have hget:∀i,i < σ.length→(L.take σ.length)[i]?=L[i]?:=fun i hi=>by rw[jB6,if_pos hi]
 have hinv:∀{i:Nat} {x:LI},(L.take σ.length)[i]?=some x→L[i]?=some x∧i < σ.length:=fun {i x} hx=>by
  rw[jB6]at hx;split at hx
  ·exact⟨hx,by assumption⟩
  ·cases hx
 refine⟨L.take σ.length,⟨⟨h1.st.pers,by simp[hlen],fun i x o hx hσ=>?_,fun i j x y b hi hj hx hy=>h1.st.inj i j x y b (hinv hi).1 (hinv hj).1 hx hy,fun i x b hi hx=>h1.st.lt i x b (hinv hi).1 hx⟩,
  h1.step,fun i x hx=>?_,fun b ⟨i,x,hi,hx⟩=>h1.own b ⟨i,x,(hinv hi).1,hx⟩⟩,fun a v hb ha=>Rel.levels (fun l hl=>hget l hl) a hb ha⟩
 ·obtain⟨hL,hi⟩:=hinv hx;exact(h1.st.obj i x o hL (by rw[jAd hi]; exact hσ)).levels (fun l hl=>hget l hl) (ho o (jC2 hσ))
 ·obtain⟨x',hx',hr⟩:=h1.lle i x hx;have hi:i<L0.length:=(jA1.1 hx).1;exact⟨x',by rw[hget i (by omega)]; exact hx',hr⟩
theorem zNo {σ : St}{w:World}(hs:RelSt H L σ w){l b M:Nat}{r r':Loop}{es:List (Nat×A)}{li:LI}(hl:L[l]?=some li)(hσ : σ[l]?=some (.lp b r M es)) :
 ∃tmps:Array Value,w.heap[b]?=some (.loop {r with tmps:=tmps})∧M≤tmps.size∧zFp H L es tmps∧Nxt H L w H L (σ.set l (.lp b r' M es)) (w.putObj b (.loop {r' with tmps:=tmps})):=by
 have hob:=hs.obj l li _ hl hσ;simp only[zN]at hob;obtain⟨h0,h1,tmps,h2,h3,h4⟩:=hob;have hlt:=hs.lt l li b hl h1;have hnone:∀o,H b o=none:=fun o=>by
  cases hH:H b o with
  | none=>rfl
  | some v =>
   have:=hs.pers b o v hH;simp[World.cell?,h2]at this
 refine⟨tmps,h2,h3,h4,?_⟩;refine zGs hs hl h1 rfl rfl rfl rfl (fun d=>by rw[h2]; simp) (by simp) (fun k hk=>World.putObj_heap_other hk) (HLe.refl _) (fun _ _ _ h=>.inl h) (fun o' v hv=>by rw[hnone]at hv; cases hv) ?_;simp only[zN];exact⟨h0,h1,tmps,World.putObj_heap_same hlt,h3,h4⟩
theorem zTq {σ : St}{w:World}(hs:RelSt H L σ w){M:Nat}{r:Loop}{es:List (Nat×A)}(hM:M≤r.tmps.size)(he:zFp H L es r.tmps) :
 Nxt H L w H (L++[(⟨some w.heap.size,0,0,false⟩:LI)]) (σ++[AObj.lp w.heap.size r M es]) (w.alloc (.loop r)):=by
 have hll:=LLe.append L [(⟨some w.heap.size,0,0,false⟩:LI)];refine⟨⟨fun b o v hv=>?_,by simp[hs.len],fun i l o hL hσ=>?_,fun i j l l' b hi hj hb hb'=>?_,fun i l b hL hb=>?_⟩,
  ⟨rfl,rfl,rfl,by simp,fun k hk _=>heap_alloc_old w _ (h:=hk),HLe.refl _,fun b o v hv=>.inl hv,jA _,zDA (fun k hk=>heap_alloc_old w _ (h:=hk))⟩,hll,fun b ⟨i,l,hL,hb⟩=>?_⟩
 ·rw[World.cell?_alloc_lt _ _ _ (hs.h_lt hv)];exact hs.pers b o v hv
 ·rcases qZ hL with hL' | ⟨rfl,rfl⟩
  ·have hi:i<L.length:=(jA1.1 hL').1;rw[jAd (by rw[←hs.len]; exact hi)]at hσ;exact(hs.obj i l o hL' hσ).carry (fun b hb=>heap_alloc_old w _ (h:=hs.lt i l b hL' hb)) (HLe.refl _) hll (fun _ _ _=>rfl)
  ·rw[hs.len]at hσ;rw[jAp (jA _)]at hσ;simp only[jBw,jAx,jA0]at hσ;subst hσ;simp only[zN];exact⟨trivial,trivial,r.tmps,heap_alloc_new w _,hM,he.mono (HLe.refl _) hll⟩
 ·rcases qZ hi with hi' | ⟨rfl,rfl⟩
  ·rcases qZ hj with hj' | ⟨rfl,rfl⟩
   ·exact hs.inj i j l l' b hi' hj' hb hb'
   ·cases hb'; have:=hs.lt i l _ hi' hb; omega
  ·cases hb;rcases qZ hj with hj' | ⟨rfl,rfl⟩
   ·have:=hs.lt j l' _ hj' hb'; omega
   ·rfl
 ·rcases qZ hL with hL' | ⟨rfl,rfl⟩
  ·have:=hs.lt i l b hL' hb; simp; omega
  ·cases hb; simp
 ·rcases qZ hL with hL' | ⟨rfl,rfl⟩
  ·exact .inl ⟨i,l,hL',hb⟩
  ·cases hb; exact .inr (jA _)
theorem zX6 {σ : St}{w:World}(hs:RelSt H L σ w)(d:Option (List Deferred)):Nxt H L w H L σ (w.alloc (.deferred d)):=by
 refine⟨⟨fun b o v hv=>?_,hs.len,fun i l o hL hσ=>?_,hs.inj,fun i l b hL hb=>?_⟩,
  ⟨rfl,rfl,rfl,by simp,fun k hk _=>heap_alloc_old w _ (h:=hk),HLe.refl _,fun b o v hv=>.inl hv,jA _,zDA (fun k hk=>heap_alloc_old w _ (h:=hk))⟩,LLe.refl _,fun b hb=>.inl hb⟩
 ·rw[World.cell?_alloc_lt _ _ _ (hs.h_lt hv)];exact hs.pers b o v hv
 ·exact(hs.obj i l o hL hσ).carry (fun b hb=>heap_alloc_old w _ (h:=hs.lt i l b hL hb)) (HLe.refl _) (LLe.refl _) (fun _ _ _=>rfl)
 ·have:=hs.lt i l b hL hb; simp; omega
end
def yv (b:Nat):A:=.lit (.func (.yield b) ⟨[]⟩ ⟨[]⟩)
def zRq (P:Program)(g:FuncId)(first cap:List A)(X:List (List A)):Prop :=
 ∀(b m:Nat) (T:Nat→St),(∀i,i≤X.length→(T i).length=m∧∀o∈T i,o.bnd m=true) →
  (∀i (h:i<X.length),zCg P b X[i] (T i) fun o τ=>o=.ret (.lit (.bool true))∧τ = T (i+1)) →
  yV P g (first++[yv b]++cap) (T 0) fun o τ=>(∃r,o=.ret r)∧τ = T X.length
def zFR (env:Env):List Nat→List A→Env
 | p::ps,x::xs=>zFR (env.put (some p) x) ps xs
 | _,_=>env
def zA4 (n0:Nat)(env':Env) (σ':St)(env:Env) (σ : St):Prop :=
 ∀(H0:Mem) (L0:List LI) (w0:World) (H:Mem) (L:List LI) (w:World) (N:Nat) (tmps:Array Value),L0.length=n0→Nxt H0 L0 w0 H L σ w→zX H L N env tmps →
  ∃H' L',Nxt H0 L0 w0 H' L' σ' w∧zX H' L' N env' tmps
def Wk (n0:Nat)(J:Env→St→Prop)(env:Env) (σ : St):Prop:=∃env' σ',zA4 n0 env' σ' env σ∧J env' σ'
theorem zA4.refl (n0:Nat)(env:Env) (σ : St):zA4 n0 env σ env σ:=fun _ _ _ H L _ _ _ _ h1 h2=>⟨H,L,h1,h2⟩
theorem zA4.trans {n0:Nat}{e1 e2 e3:Env}{s1 s2 s3:St}(h:zA4 n0 e2 s2 e1 s1)(k:zA4 n0 e3 s3 e2 s2):zA4 n0 e3 s3 e1 s1:=by intro H0 L0 w0 H L w N tmps h0 h1 h2;obtain⟨H',L',h3,h4⟩:=h H0 L0 w0 H L w N tmps h0 h1 h2;exact k H0 L0 w0 H' L' w N tmps h0 h3 h4
theorem Wk.here {n0:Nat}{J:Env→St→Prop}{env:Env} {σ : St}(h:J env σ):Wk n0 J env σ:=⟨env,σ,zA4.refl _ _ _,h⟩
theorem Wk.by {n0:Nat}{J:Env→St→Prop}{env env':Env} {σ σ':St}(h:zA4 n0 env' σ' env σ)(k:Wk n0 J env' σ'):Wk n0 J env σ:=by obtain⟨e,s,h1,h2⟩:=k;exact⟨e,s,h.trans h1,h2⟩
def thn (J:Env→St→Prop)(Q:Ex→Env→St→Prop):Ex→Env→St→Prop
 | .norm=>J
 | x=>Q x
def blk (id:Nat)(Q:Ex→Env→St→Prop):Ex→Env→St→Prop
 | .exit i=>if i=id then Q .norm else Q (.exit i)
 | x=>Q x
def rnd (n0:Nat)(I:Nat→Env→St→Prop)(n:Nat)(Q:Ex→Env→St→Prop):Ex→Env→St→Prop
 | .norm=>fun env σ=>∃m,m<n∧Wk n0 (I m) env σ
 | x=>Q x
def zNE (n0:Nat)(W:(Ex→Env→St→Prop)→Env→St→Prop)(Q:Ex→Env→St→Prop)(env:Env) (σ : St):Prop :=
 ∃I:Nat→Env→St→Prop,(∃n,Wk n0 (I n) env σ)∧∀n env σ,I n env σ→W (rnd n0 I n Q) env σ
def zW6 (S:St)(J:Env→St→Prop):Ex→Env→St→Prop
 | .norm=>fun env σ=>σ = S∧J env σ
 | _=>fun _ _=>False
def zWN (n0:Nat)(S:St):Ex→Env→St→Prop
 | .norm=>fun env σ=>Wk n0 (fun _ σ'=>σ'=S) env σ
 | _=>fun _ _=>False
def zZQ (P:Program)(n0:Nat)(f:Operand)(ps:List Nat)(Wa Wb:Nat→(Ex→Env→St→Prop)→Env→St→Prop)(Q:Ex→Env→St→Prop)(env:Env) (σ : St):Prop :=
 ∃(E:List (Nat×A)) (m:Nat) (X:List (List A)) (T:Nat→St) (g:FuncId) (first cap:List A),
  ev (qU E) f=.clo g first cap∧zA P g=true∧zRq P g first cap X∧zA4 n0 (qU E) (T 0) env σ∧n0≤m ∧
  (∀i,i≤X.length→(T i).length=m∧∀o∈T i,o.bnd m=true)∧(∀p∈E,p.2.bnd m=true∧qU E p.1=p.2)∧(∀x∈X,x.length=ps.length) ∧
  (∀i (_:i<X.length) (b M:Nat) (r r':Loop),Wa (m+1) (zW6 (T i++[.lp b r M E]) fun env1 _=>Wb (m+1) (zWN (m+1) (T (i+1)++[.lp b r' M E])) env1 (T i++[.lp b r' M E])) (zFR (qU E) ps X[i]) (T i++[.lp b r M E])) ∧
  Q .norm (qU E) (T X.length)
noncomputable def wpK (P:Program):Nat→K→(Ex→Env→St→Prop)→Env→St→Prop
 | _,.skip,Q,env,σ=>Q .norm env σ
 | n0,.seq a b,Q,env,σ=>wpK P n0 a (thn (wpK P n0 b Q) Q) env σ
 | n0,.cond c a b,Q,env,σ=>match ev env c with
  | .lit (.bool t)=>zFe t (wpK P n0 a Q) (wpK P n0 b Q) env σ
  | _=>False
 | n0,.block id b,Q,env,σ=>wpK P n0 b (blk id Q) env σ
 | n0,.loop b,Q,env,σ=>zNE n0 (wpK P n0 b) Q env σ
 | _,.exit id,Q,env,σ=>Q (.exit id) env σ
 | _,.ret,Q,env,σ=>Q .ret env σ
 | _,.ops l,Q,env,σ=>zC0 P (fun v=>Q (.pan v)) (Q .norm) l env σ
 | _,.dops l,Q,env,σ=>wpD P (zKE Q) (Q .norm) l env σ
 | n0,.rng f ps a b,Q,env,σ=>zZQ P n0 f ps (fun n=>wpK P n a) (fun n=>wpK P n b) Q env σ
 | n0,.wk b,Q,env,σ=>Wk n0 (wpK P n0 b Q) env σ
section
variable {P:Program}{N:Nat}
theorem zGH.then {H0:Mem}{L0:List LI}{w0:World}{Q:Ex→Env→St→Prop}{dfs:List Deferred}{R:Exit→Act→World→Prop}{e:Exit}{a:Act}{w:World}{Q':Ex→Env→St→Prop}
 (h:zGH H0 L0 w0 N Q' dfs e a w)(hn:∀env σ H L,Q' .norm env σ→Mk w0 w dfs a.defers→zX H L N env a.tmps→Nxt H0 L0 w0 H L σ w→R .normal a w)
 (hx:∀x env σ,x≠.norm→Q' x env σ→Q x env σ)(hR:zGH H0 L0 w0 N Q dfs e a w→e≠.normal→R e a w):R e a w:=by
 obtain⟨x,env,σ,H,L,rfl,h2,h3,h4,h5⟩:=h;cases x with
 | norm=>exact hn env σ H L h5 h2 h3 h4
 | exit id=>exact hR ⟨.exit id,env,σ,H,L,rfl,h2,h3,h4,hx _ _ _ (by simp) h5⟩ (by simp[Ex.exit?])
 | ret=>exact hR ⟨.ret,env,σ,H,L,rfl,h2,h3,h4,hx _ _ _ (by simp) h5⟩ (by simp[Ex.exit?])
 | pan v=>exact hR ⟨.pan v,env,σ,H,L,rfl,h2,h3,h4,hx _ _ _ (by simp) h5⟩ (by simp[Ex.exit?])
theorem zPC {F:Fence}{rm:Nat}{Q:Exit→Act→World→Prop}{a:Act}{w:World}{c:Code}(I:Nat→Act→World→Prop) (n₀ : Nat) (h₀ : I n₀ a w)
 (round:∀n a w,I n a w→c.wpIn F rm P (Exit.then (fun a' w'=>∃n',n'<n∧I n' a' w') Q) a w):(Code.loop c).wpIn F rm P Q a w:=by
 refine wpIn_loop (fun a w=>∃n,I n a w) (fun a w=>leastOf (fun n=>I n a w)) ⟨n₀,h₀⟩ ?_;intro a w hI;refine wpIn_mono (round _ a w (leastOf_spec hI).1) ?_;intro e a' w' hq;cases e with
 | normal =>
  obtain⟨n',hlt,hI'⟩:=hq;exact show (∃n,I n a' w')∧leastOf (fun n=>I n a' w')<leastOf (fun n=>I n a w) from ⟨⟨n',hI'⟩,Nat.lt_of_le_of_lt ((leastOf_spec ⟨n',hI'⟩).2 n' hI') hlt⟩
 | exit id=>exact hq
 | goto l=>exact hq
 | ret=>exact hq
 | panic ch=>exact hq
 | outgrown=>exact hq
theorem zAO:∀(k:K),k.erase.noRng=k.noRng
 | .skip=>rfl
 | .seq a b=>by simp only[K.erase,K.noRng,zAO a,zAO b]
 | .cond c a b=>by simp only[K.erase,K.noRng,zAO a,zAO b]
 | .block id b=>by simp only[K.erase,K.noRng,zAO b]
 | .loop b=>by simp only[K.erase,K.noRng,zAO b]
 | .exit _=>rfl
 | .ret=>rfl
 | .ops _=>rfl
 | .dops _=>rfl
 | .rng ..=>rfl
 | .wk b=>by simp only[K.erase,K.noRng,zAO b]
theorem zMv {H:Mem}{L:List LI}{tmps0:Array Value}:∀{ps:List Nat} {xs:List A} {vs:List Value} {env:Env} {tmps:Array Value},zX H L N env tmps→zQ H L xs vs→(∀p∈ps,p<N)→zX H L N (zFR env ps xs) ((ps.zip vs).foldl (fun t p=>t.setIfInBounds p.1 p.2) tmps)
 | [],xs,vs,env,tmps,he,hr,hp=>by simpa [zFR] using he
 | p::ps,[],vs,env,tmps,he,hr,hp=>by rw[qY hr]; simpa [zFR] using he
 | p::ps,x::xs,vs,env,tmps,he,hr,hp=>by obtain⟨v,vs',rfl,h1,h2⟩:=zS hr;simp only[zFR,List.zip_cons_cons,jBz];have:=zX.put (a:={tmps:=tmps,defers:=[]}) he (d:=some p) (fun x hx=>by cases hx; exact hp p (jAk ..)) h1;exact zMv (tmps0:=tmps0) this h2 (fun q hq=>hp q (jAh _ hq))
theorem zNu {H:Mem}{L:List LI}{E:List (Nat×A)}{tmps:Array Value}(hN:N≤tmps.size)(h:zFp H L E tmps):zX H L N (qU E) tmps :=
 ⟨hN,fun t=>by
  rcases zDi E t with e | e
  ·rw[e]; simp[Rel]
  ·exact h _ e⟩
theorem zVM {hint:Nat→Option (List (Nat×Nat))}{ka kb:K}{ca cb:Code}{ps:Array Tmp}(hca:qE P N hint ca=some ka.erase)(hcb:qE P N hint cb=some kb.erase)(hps:∀p∈ps.toList,p<N)
 (iha:∀(Q:Ex→Env→St→Prop)(H0:Mem)(L0:List LI)(w0:World)(H:Mem)(L:List LI) (σ : St)(w:World)(env:Env)(a:Act)(ro:Option Nat),zX H L N env a.tmps→Nxt H0 L0 w0 H L σ w→wpK P L0.length ka Q env σ→ca.wpIn (Wr ro) 0 P (zGH H0 L0 w0 N Q a.defers) a w)
 (ihb:∀(Q:Ex→Env→St→Prop)(H0:Mem)(L0:List LI)(w0:World)(H:Mem)(L:List LI) (σ : St)(w:World)(env:Env)(a:Act)(ro:Option Nat),zX H L N env a.tmps→Nxt H0 L0 w0 H L σ w→wpK P L0.length kb Q env σ→cb.wpIn (Wr ro) 0 P (zGH H0 L0 w0 N Q a.defers) a w)
 {E:List (Nat×A)}{m b:Nat}{xs:List A}(hxs:xs.length=ps.size){S S':St}(hS:S.length=m)(hS':S'.length=m){r0:Loop}(hr:r0.state=.ready)(hp:r0.pending=none)(hps0:r0.params=ps)(hra:r0.assign=ca)(hrb:r0.body=cb)
 (h:∀(r r':Loop),wpK P (m+1) ka (zW6 (S++[.lp b r N E]) fun env1 _=>wpK P (m+1) kb (zWN (m+1) (S'++[.lp b r' N E])) env1 (S++[.lp b r' N E])) (zFR (qU E) ps.toList xs) (S++[.lp b r N E])) :
 zCg P b xs (S++[.lp b r0 N E]) fun o τ=>o=.ret (.lit (.bool true))∧τ = S'++[.lp b r0 N E]:=by
 intro H L w vs hs hvs;have hlL:L.length=m+1:=by rw[hs.len]; simp[hS]
 have hσ : (S++[AObj.lp b r0 N E])[m]?=some (.lp b r0 N E):=by rw[←hS]; simp
 have hL:L[m]?=some L[m]:=jA2 (by omega);have hset:∀(T:St) (r r':Loop),T.length=m→(T++[AObj.lp b r N E]).set m (.lp b r' N E)=T++[AObj.lp b r' N E]:=fun T r r' hT=>by rw[←hT]; simp
 obtain⟨tmps,hb,hN,hes,_⟩:=zNo (r':=r0) hs hL hσ;have hsz:vs.toArray.size=ps.size:=by rw[jBo,hvs.length,hxs]
 have hy:=run_yield (P:=P) (args:=vs.toArray) hb (by rw[hsz,hps0]);refine⟨_,_,_,_,hy,?_⟩;refine roundIn_of_wpIn (F:=Fence.wide) trivial ?_;have hzip:((r0.params.zip vs.toArray).foldl (fun tmps (x:Tmp×Value)=>tmps.setIfInBounds x.1 x.2) tmps)=(ps.toList.zip vs).foldl (fun t p=>t.setIfInBounds p.1 p.2) tmps:=by rw[hps0,←Array.foldl_toList]; simp
 have he1:zX H L N (zFR (qU E) ps.toList xs) ((r0.params.zip vs.toArray).foldl (fun tmps (x:Tmp×Value)=>tmps.setIfInBounds x.1 x.2) tmps):=by rw[hzip]; exact zMv (tmps0:=tmps) (zNu hN hes) hvs hps
 have h0:=h r0 {r0 with state:=.busy};rw[←hlL]at h0;have wa:=iha _ H L w H L _ w _ {tmps:=(r0.params.zip vs.toArray).foldl (fun tmps (x:Tmp×Value)=>tmps.setIfInBounds x.1 x.2) tmps,defers:=[]} (some b) he1 (Nxt.refl hs) h0;simp only[hra,hrb];refine wpIn_mono wa fun e a1 w1 hp1=>?_
 obtain⟨x,env1,σ1,H1,L1,rfl,hm1,he1',hn1,hq1⟩:=hp1;cases x with
 | norm =>
  simp only[zW6]at hq1;obtain⟨rfl,hq1⟩:=hq1;have hlL1:L1.length=m+1:=by rw[hn1.st.len]; simp[hS]
  have hL1:L1[m]?=some L1[m]:=jA2 (by omega);obtain⟨tmps1,hb1,hN1,hes1,hnx⟩:=zNo (r':={r0 with state:=.busy}) hn1.st hL1 hσ;rw[hset S _ _ hS]at hnx;have hbr:=run_beginRound (P:=P) hb1 (by exact hr);refine⟨_,hbr,?_⟩;have wb:=ihb _ H L w H1 L1 _ _ _ a1 (some b) he1' (hn1.trans hnx) hq1;refine wpIn_mono wb fun e2 a2 w2 hp2=>?_
  obtain⟨x2,env2,σ2,H2,L2,rfl,hm2,he2,hn2,hq2⟩:=hp2;cases x2 with
  | norm =>
   simp only[zWN]at hq2;obtain⟨env3,σ3,hw,hq3⟩:=hq2;obtain⟨H3,L3,hn3,_⟩:=hw H L w H2 L2 w2 N a2.tmps rfl hn2 he2;subst hq3;have hlL3:L3.length=m+1:=by rw[hn3.st.len]; simp[hS']
   have hL3:L3[m]?=some L3[m]:=jA2 (by omega);have hσ3:(S'++[AObj.lp b {r0 with state:=.busy} N E])[m]?=some (.lp b {r0 with state:=.busy} N E):=by rw[←hS']; simp
   obtain⟨tmps3,hb3,_,_,hnx3⟩:=zNo (r':=r0) hn3.st hL3 hσ3;rw[hset S' _ _ hS']at hnx3;have her:=run_endRound (P:=P) none hb3;have heq:({state:=if (none:Option Code).isNone=true then LoopState.ready else LoopState.done,pending:=none,fn:=r0.fn,tmps:=tmps3,params:=r0.params,assign:=r0.assign,body:=r0.body,defers:=r0.defers}:Loop)={r0 with tmps:=tmps3}:=by cases r0; simp_all
   refine⟨_,_,her,?_⟩;refine⟨.ret (.lit (.bool true)),_,H3,L3,⟨_,rfl,by simp[Rel]⟩,?_,rfl,rfl⟩;have:=hn3.trans hnx3;simp only[Option.isNone_none,if_true]at heq ⊢;rw[heq];exact this
  | exit id=>exact hq2.elim
  | ret=>exact hq2.elim
  | pan v=>exact hq2.elim
 | exit id=>exact hq1.elim
 | ret=>exact hq1.elim
 | pan v=>exact hq1.elim
theorem zV0 {H:Mem}{L:List LI} {σ : St}{w:World}(hs:RelSt H L σ w){D:Nat}{d:Option (List Deferred)}(hD:w.heap[D]?=some (.deferred d))(o':Obj):RelSt H L σ (w.putObj D o')∧∀b o v,H b o=some v→b≠D:=by
 have hH:∀b o v,H b o=some v→b≠D:=fun b o v hv e=>by subst e;have:=hs.pers b o v hv;simp[World.cell?,hD]at this
 refine⟨⟨fun b o v hv=>?_,hs.len,fun i l o hL hσ=>?_,hs.inj,fun i l b hL hb=>by rw[World.putObj_size]; exact hs.lt i l b hL hb⟩,hH⟩
 ·have hc:=hs.pers b o v hv;simp only[World.cell?]at hc ⊢;rw[World.putObj_heap_other (hH b o v hv)];exact hc
 ·have hob:=hs.obj i l o hL hσ;cases o with
  | dead=>trivial
  | box cs =>
   refine hob.carry (fun b hb=>World.putObj_heap_other fun e=>?_) (HLe.refl _) (LLe.refl _) (fun _ _ _=>rfl);subst e;simp only[zN]at hob;obtain⟨_,b',vs,e,h1,h2,_⟩:=hob;rw[hb]at h1; cases h1;rw[hD]at h2; cases h2
  | row fz e sz n cs =>
   refine hob.carry (fun b hb=>World.putObj_heap_other fun e=>?_) (HLe.refl _) (LLe.refl _) (fun _ _ _=>rfl);subst e;simp only[zN]at hob;obtain⟨_,_,_,⟨h1,_⟩ | ⟨b',cur,h1,h2,_⟩⟩:=hob
   ·rw[hb]at h1; cases h1
   ·rw[hb]at h1; cases h1;rw[hD]at h2; cases h2
  | lp b' r M es =>
   refine hob.carry (fun b hb=>World.putObj_heap_other fun e=>?_) (HLe.refl _) (LLe.refl _) (fun _ _ _=>rfl);subst e;simp only[zN]at hob;obtain⟨_,h1,tmps,h2,_⟩:=hob;rw[hb]at h1; cases h1;rw[hD]at h2; cases h2
  | mp fr nk es =>
   refine hob.carry (fun b hb=>World.putObj_heap_other fun e=>?_) (HLe.refl _) (LLe.refl _) (fun _ _ _=>rfl);subst e;simp only[zN]at hob;obtain⟨_,b',ents,ck,h1,h2,_⟩:=hob;rw[hb]at h1; cases h1;rw[hD]at h2; cases h2
  | it m n met =>
   refine hob.carry (fun b hb=>World.putObj_heap_other fun e=>?_) (HLe.refl _) (LLe.refl _) (fun _ _ _=>rfl);subst e;simp only[zN]at hob;obtain⟨_,b',mb,lm,h1,_,_,_,h2⟩:=hob;rw[hb]at h1; cases h1;rw[hD]at h2; cases h2
  | rsv=>exact hob
theorem zVC {H H':Mem}{L L':List LI} {σ':St}{w w':World}(h:Nxt H L w H' L' σ' w'){D:Nat}{d:Option (List Deferred)}(hD:w'.heap[D]?=some (.deferred d))(hw:w.heap.size≤D)(o':Obj):Nxt H L w H' L' σ' (w'.putObj D o'):=by
 obtain⟨h1,h2⟩:=zV0 h.st hD o';refine⟨h1,⟨h.step.os,h.step.tape,h.step.output,by rw[World.putObj_size]; exact h.step.size,fun k hk hn=>?_,h.step.hle,h.step.hnew,h.step.drawn,fun k e hk=>?_⟩,h.lle,h.own⟩
 ·rw[World.putObj_heap_other (by omega)]; exact h.step.keep k hk hn
 ·have:=(jCo.1 hk).1;rw[World.putObj_heap_other (by omega)]; exact h.step.dfr k e hk
theorem zER {fn:Func}{tmps:Array Value}{R:Ending→World→Prop}{H H':Mem}{L L':List LI} {σ':St}{w:World}{u:FrameMode}(hu:u≠.run)
 (hR:∀w',Nxt H L w H' L' σ' w'→LeavesIn Fence.wide 0 P fn tmps R [] u w'):∀(Ds:List Nat) (w':World),Ds.Nodup→(∀D∈Ds,w.heap.size≤D∧w'.heap[D]?=some (.deferred (some [])))→Nxt H L w H' L' σ' w' →
  LeavesInM Fence.wide 0 P fn tmps R (Ds.map zQF) u w'
 | [],w',_,_,hn=>hR w' hn
 | D::Ds,w',hd,h,hn=>by
  rw[jD9]at hd;obtain⟨h1,h2⟩:=h D (jAk ..);refine⟨hu,.inl ⟨D,_,rfl,run_takeDeferred h2,?_⟩⟩;refine zER hu hR Ds _ hd.2 (fun D' hD'=>?_) (zVC hn h2 h1 _);have hne:D'≠D:=fun e=>hd.1 (e▸hD')
  rw[World.putObj_heap_other hne];exact h D' (jAh _ hD')
theorem zBy {hint:Nat→Option (List (Nat×Nat))}:∀(k:K) (c:Code) (Q:Ex→Env→St→Prop) (H0:Mem) (L0:List LI) (w0:World) (dfs:List Deferred) (H:Mem) (L:List LI) (σ : St) (w:World) (env:Env) (a:Act) (ro:Option Nat),(ro=none∨k.noRng=true)→qE P N hint c=some k.erase →
 zX H L N env a.tmps→Nxt H0 L0 w0 H L σ w→Mk w0 w dfs a.defers→wpK P L0.length k Q env σ→c.wpIn (Wr ro) 0 P (zGH H0 L0 w0 N Q dfs) a w
 | .skip,c,Q,H0,L0,w0,dfs,H,L,σ,w,env,a,ro,hro,hc,he,hn,hd,h=>by
  cases c<;>simp only[qE,K.erase]at hc<;>try (cases hc; done)
  case skip=>exact wpIn_skip ⟨.norm,env,σ,H,L,rfl,hd,he,hn,h⟩
  all_goals (exfalso; revert hc; (repeat' split)<;>simp_all)
 | .exit id,c,Q,H0,L0,w0,dfs,H,L,σ,w,env,a,ro,hro,hc,he,hn,hd,h=>by
  cases c<;>simp only[qE,K.erase]at hc<;>try (cases hc; done)
  case exit id' =>
   simp only[jA0,K.exit.injEq]at hc;subst hc;exact wpIn_exit ⟨.exit id',env,σ,H,L,rfl,hd,he,hn,h⟩
  all_goals (exfalso; revert hc; (repeat' split)<;>simp_all)
 | .ret,c,Q,H0,L0,w0,dfs,H,L,σ,w,env,a,ro,hro,hc,he,hn,hd,h=>by
  cases c<;>simp only[qE,K.erase]at hc<;>try (cases hc; done)
  case ret=>exact wpIn_ret ⟨.ret,env,σ,H,L,rfl,hd,he,hn,h⟩
  all_goals (exfalso; revert hc; (repeat' split)<;>simp_all)
 | .wk b,c,Q,H0,L0,w0,dfs,H,L,σ,w,env,a,ro,hro,hc,he,hn,hd,h=>by simp only[wpK]at h;obtain⟨env',σ',hw,h⟩:=h;obtain⟨H',L',hn',he'⟩:=hw H0 L0 w0 H L w N a.tmps rfl hn he;exact zBy b c Q H0 L0 w0 dfs H' L' σ' w env' a ro (by simpa only[K.noRng] using hro) (by simpa only[K.erase] using hc) he' hn' hd h
 | .seq x y,c,Q,H0,L0,w0,dfs,H,L,σ,w,env,a,ro,hro,hc,he,hn,hd,h=>by
  have hr1:ro=none∨x.noRng=true:=hro.imp id fun h=>by simp only[K.noRng,jA6]at h; exact h.1
  have hr2:ro=none∨y.noRng=true:=hro.imp id fun h=>by simp only[K.noRng,jA6]at h; exact h.2
  cases c<;>simp only[qE,K.erase]at hc<;>try (cases hc; done)
  case seq c1 c2 =>
   split at hc<;>try (cases hc; done)
   rename_i k1 k2 h1 h2;simp only[jA0,K.seq.injEq]at hc;obtain⟨rfl,rfl⟩:=hc;simp only[wpK]at h;refine wpIn_seq (wpIn_mono (zBy x c1 _ H0 L0 w0 dfs H L σ w env a ro hr1 h1 he hn hd h) fun e b v hp=>?_);refine hp.then (Q:=Q) (fun env' σ' H' L' hk hdf hre hnx=>?_) (fun z env' σ' hz hk=>?_) (fun hpq hne=>?_)
   ·exact zBy y c2 Q H0 L0 w0 dfs H' L' σ' v env' b ro hr2 h2 hre hnx hdf hk
   ·cases z<;>first | exact(hz rfl).elim | exact hk
   ·cases e<;>first | exact(hne rfl).elim | exact hpq
  all_goals (exfalso; revert hc; (repeat' split)<;>simp_all)
 | .cond c' x y,c,Q,H0,L0,w0,dfs,H,L,σ,w,env,a,ro,hro,hc,he,hn,hd,h=>by
  have hr1:ro=none∨x.noRng=true:=hro.imp id fun h=>by simp only[K.noRng,jA6]at h; exact h.1
  have hr2:ro=none∨y.noRng=true:=hro.imp id fun h=>by simp only[K.noRng,jA6]at h; exact h.2
  cases c<;>simp only[qE,K.erase]at hc<;>try (cases hc; done)
  case cond c1 a1 b1 =>
   split at hc<;>try (cases hc; done)
   rename_i k1 k2 h1 h2;simp only[jA0,K.cond.injEq]at hc;obtain⟨rfl,rfl,rfl⟩:=hc;simp only[wpK]at h;split at h
   ·rename_i t ht;have hr:=qG he c1;rw[ht]at hr;simp only[Rel]at hr;exact wpIn_cond_split hr (fun e=>zBy x a1 Q H0 L0 w0 dfs H L σ w env a ro hr1 h1 he hn hd (h.1 e)) (fun e=>zBy y b1 Q H0 L0 w0 dfs H L σ w env a ro hr2 h2 he hn hd (h.2 e))
   ·exact h.elim
  all_goals (exfalso; revert hc; (repeat' split)<;>simp_all)
 | .block id x,c,Q,H0,L0,w0,dfs,H,L,σ,w,env,a,ro,hro,hc,he,hn,hd,h=>by
  cases c<;>simp only[qE,K.erase]at hc<;>try (cases hc; done)
  case block id' b1 =>
   simp only[jAe,K.block.injEq]at hc;obtain⟨k1,h1,rfl,rfl⟩:=hc;simp only[wpK]at h;refine wpIn_block (wpIn_mono (zBy x b1 _ H0 L0 w0 dfs H L σ w env a ro (by simpa only[K.noRng] using hro) h1 he hn hd h) fun e b v hp=>?_);obtain⟨z,env',σ',H',L',rfl,g2,g3,g4,g5⟩:=hp;cases z with
   | norm=>exact⟨.norm,env',σ',H',L',rfl,g2,g3,g4,g5⟩
   | ret=>exact⟨.ret,env',σ',H',L',rfl,g2,g3,g4,g5⟩
   | pan v=>exact⟨.pan v,env',σ',H',L',rfl,g2,g3,g4,g5⟩
   | exit i =>
    simp only[Ex.exit?,Exit.inBlock];simp only[blk]at g5;split
    ·rename_i hi; rw[if_pos hi]at g5; exact⟨.norm,env',σ',H',L',rfl,g2,g3,g4,g5⟩
    ·rename_i hi; rw[if_neg hi]at g5; exact⟨.exit i,env',σ',H',L',rfl,g2,g3,g4,g5⟩
  all_goals (exfalso; revert hc; (repeat' split)<;>simp_all)
 | .loop x,c,Q,H0,L0,w0,dfs,H,L,σ,w,env,a,ro,hro,hc,he,hn,hd,h=>by
  cases c<;>simp only[qE,K.erase]at hc<;>try (cases hc; done)
  case loop b1 =>
   simp only[jAe,K.loop.injEq]at hc;obtain⟨k1,h1,rfl⟩:=hc;simp only[wpK,zNE]at h;obtain⟨I,⟨n,hI⟩,hround⟩:=h;let J:Nat→Act→World→Prop:=fun n a w=>∃env σ H L,Mk w0 w dfs a.defers∧zX H L N env a.tmps∧Nxt H0 L0 w0 H L σ w∧I n env σ
   have take:∀(n:Nat) (H:Mem) (L:List LI) (σ : St) (w:World) (env:Env) (a:Act),zX H L N env a.tmps→Nxt H0 L0 w0 H L σ w→Mk w0 w dfs a.defers→Wk L0.length (I n) env σ→J n a w:=by intro n H L σ w env a he hn hd hI;obtain⟨env',σ',hw,hI⟩:=hI;obtain⟨H',L',g1,g2⟩:=hw H0 L0 w0 H L w N a.tmps rfl hn he;exact⟨env',σ',H',L',hd,g2,g1,hI⟩
   refine zPC J n (take n H L σ w env a he hn hd hI) ?_;rintro n a w ⟨env,σ,H,L,hd,he,hn,hI⟩;refine wpIn_mono (zBy x b1 _ H0 L0 w0 dfs H L σ w env a ro (by simpa only[K.noRng] using hro) h1 he hn hd (hround n env σ hI)) fun e b v hp=>?_
   obtain⟨z,env',σ',H',L',rfl,g2,g3,g4,g5⟩:=hp;cases z with
   | norm =>
    obtain⟨m,hm,hw⟩:=g5;exact⟨m,hm,take m H' L' σ' v env' b g3 g4 g2 hw⟩
   | ret=>exact⟨.ret,env',σ',H',L',rfl,g2,g3,g4,g5⟩
   | pan v=>exact⟨.pan v,env',σ',H',L',rfl,g2,g3,g4,g5⟩
   | exit i=>exact⟨.exit i,env',σ',H',L',rfl,g2,g3,g4,g5⟩
  all_goals (exfalso; revert hc; (repeat' split)<;>simp_all)
 | .ops l,c,Q,H0,L0,w0,dfs,H,L,σ,w,env,a,ro,hro,hc,he,hn,hd,h=>by
  cases c<;>simp only[qE,K.erase]at hc<;>try (cases hc; done)
  case region id ops draw =>
   split at hc<;>try (cases hc; done)
   rename_i l' hl;split at hc
   ·revert hc; (repeat' split)<;>simp
   ·rename_i hdr;simp only[jA0,K.ops.injEq]at hc;subst hc;simp only[jCf]at hdr;subst hdr;simp only[wpK]at h;have hall:∀o∈ops.toList,∀x,o.dst=some x→x<N:=by
     obtain⟨hlen,hget⟩:=zCj hl;intro o ho;obtain⟨i,hi⟩:=jCj ho;have hlt:i<(l.map KG.erase).length:=by rw[hlen]; exact(jA1.1 hi).1
     exact(yS (hget i o _ hi (jA2 hlt))).2.1
    refine wpIn_region_list (zGb (Q:=Q) (dfs:=a.defers) hall ops.toList l (zJT hl) he hn.st rfl h fun e b v hp=>?_);exact hp.next hn hd
  all_goals (exfalso; revert hc; (repeat' split)<;>simp_all)
 | .dops l,c,Q,H0,L0,w0,dfs,H,L,σ,w,env,a,ro,hro,hc,he,hn,hd,h=>by
  cases c<;>simp only[qE,K.erase]at hc<;>try (cases hc; done)
  case region id ops draw =>
   split at hc<;>try (cases hc; done)
   rename_i l' hl;split at hc
   ·rename_i hdr;split at hc<;>try (cases hc; done)
    rename_i r hr;split at hc<;>try (cases hc; done)
    rename_i hb;simp only[jA6]at hb;simp only[jA0,K.dops.injEq]at hc;subst hc;subst hdr;simp only[wpK]at h;have hmem:∀x∈r,∃g,l'[x.1]?=some g∧x.2.2.erase=g.erase:=fun x hx=>by
     split at hr
     ·exact zIC hr hx
     ·cases hr; exact⟨_,zJc hx,rfl⟩
    exact zTI (Q:=Q) (dfs:=a.defers) hb.1.2 hb.1.1 hb.2 hl hmem he hn.st rfl h fun e b v hp=>hp.next hn hd
   ·cases hc
  all_goals (exfalso; revert hc; (repeat' split)<;>simp_all)
 | .rng f ps ka kb,c,Q,H0,L0,w0,dfs,H,L,σ,w,env,a,ro,hro,hc,he,hn,hd,h=>by
  have hro':ro=none:=hro.resolve_right (by simp[K.noRng]);subst hro';cases c<;>simp only[qE,K.erase]at hc<;>try (cases hc; done)
  case rangeFunc g qs ca cb =>
   split at hc<;>try (cases hc; done)
   rename_i k1 k2 h1 h2;split at hc<;>try (cases hc; done)
   rename_i hb;simp only[jA6]at hb;obtain⟨⟨hb1,hb2⟩,hb3⟩:=hb;simp only[jA0,K.rng.injEq]at hc;obtain⟨rfl,rfl,rfl,rfl⟩:=hc;have hps:∀p∈qs.toList,p<N:=fun p hp=>by
    rw[Array.all_eq_true']at hb3;have:=hb3 p (by simpa using hp)
    simpa using this
   simp only[wpK,zZQ]at h;obtain⟨E,m,X,T,gf,first,cap,hf,hcb,hit,hweak,hnm,hT,hE,hX,hround,hdone⟩:=h;obtain⟨H1,L1,hn1,he1⟩:=hweak H0 L0 w0 H L w N a.tmps rfl hn he;have hfr:=qG he1 g;rw[hf]at hfr;simp only[Rel]at hfr;obtain⟨fs,cs,hfv,hr1,hr2⟩:=hfr;have hes:zFp H1 L1 E a.tmps:=fun p hp=>by have:=he1.2 p.1;rw[(hE p hp).2]at this;exact this
   refine wpIn_rangeFunc ?_;intro fn _;have hnd:=zX6 hn1.st (some []);have hrec:∃r0:Loop,r0={state:=.ready,pending:=none,fn,tmps:=a.tmps,params:=qs,assign:=ca,body:=cb,defers:=w.heap.size}:=⟨_,rfl⟩;obtain⟨r0,hr0⟩:=hrec;have hnl:=zTq (M:=N) (r:=r0) (es:=E) hnd.st (by rw[hr0]; exact he.1) (by rw[hr0]; exact hes);have hsz:(w.alloc (.deferred (some []))).heap.size=w.heap.size+1:=by simp
   rw[hsz]at hnl;have hnx:=hnd.trans hnl;have hm0:(T 0).length=m:=(hT 0 (jAs _)).1;have hT':∀i,i≤X.length→(T i++[AObj.lp (w.heap.size+1) r0 N E]).length=m+1∧∀o∈T i++[AObj.lp (w.heap.size+1) r0 N E],o.bnd (m+1)=true:=fun i hi=>by
    refine⟨by simp[(hT i hi).1],fun o ho=>?_⟩;rcases jAb.1 ho with ho | ho
    ·exact AObj.bnd_mono (jC6 m) _ ((hT i hi).2 o ho)
    ·simp only[jAn]at ho;subst ho;simp only[AObj.bnd,jAz];exact fun p hp=>A.bnd_mono (jC6 m) _ (hE p hp).1
   have iha:∀(Q:Ex→Env→St→Prop) (H0:Mem) (L0:List LI) (w0:World) (H:Mem) (L:List LI) (σ : St) (w:World) (env:Env) (a:Act) (ro:Option Nat),zX H L N env a.tmps→Nxt H0 L0 w0 H L σ w→wpK P L0.length ka Q env σ→ca.wpIn (Wr ro) 0 P (zGH H0 L0 w0 N Q a.defers) a w :=
    fun Q H0 L0 w0 H L σ w env a ro h3 h4 h5=>zBy ka ca Q H0 L0 w0 a.defers H L σ w env a ro (.inr (by rw[←zAO]; exact hb1)) h1 h3 h4 (Mk.refl _ _ _) h5
   have ihb:∀(Q:Ex→Env→St→Prop) (H0:Mem) (L0:List LI) (w0:World) (H:Mem) (L:List LI) (σ : St) (w:World) (env:Env) (a:Act) (ro:Option Nat),zX H L N env a.tmps→Nxt H0 L0 w0 H L σ w→wpK P L0.length kb Q env σ→cb.wpIn (Wr ro) 0 P (zGH H0 L0 w0 N Q a.defers) a w :=
    fun Q H0 L0 w0 H L σ w env a ro h3 h4 h5=>zBy kb cb Q H0 L0 w0 a.defers H L σ w env a ro (.inr (by rw[←zAO]; exact hb2)) h2 h3 h4 (Mk.refl _ _ _) h5
   have hcall:=hit (w.heap.size+1) (m+1) (fun i=>T i++[AObj.lp (w.heap.size+1) r0 N E]) hT' (fun i hi=>by refine zVM h1 h2 hps iha ihb (by have:=hX X[i] (jA3 hi); simpa using this) (hT i (Nat.le_of_lt hi)).1 (hT (i+1) hi).1 (by rw[hr0]) (by rw[hr0]) (by rw[hr0]) (by rw[hr0]) (by rw[hr0]) (fun r r'=>hround i hi _ N r r'))
   have hargs:zQ H1 (L1++[(⟨some (w.heap.size+1),0,0,false⟩:LI)]) (first++[yv (w.heap.size+1)]++cap) (fs++[Value.func (.yield (w.heap.size+1)) #[] #[]]++cs) :=
    ((zQ.mono (HLe.refl _) hnl.lle _ hr1).append (qH (by simp[yv,Rel]) jF)).append (zQ.mono (HLe.refl _) hnl.lle _ hr2)
   have hcalls:=hcall H1 _ _ _ hnx.st hargs;have hcb':=hcb;unfold zA at hcb';split at hcb'<;>try (cases hcb'; done)
   rename_i fnd hfnd;simp only[jA6,jBe,beq_eq_false_iff_ne,ne_eq]at hcb';have hbn:fnd.body.isNone=false:=by cases hb:fnd.body<;>simp_all
   have henter:∀(args:Array Value) (w:World),(callFunc gf args).run P w=.ok (.enter gf args) w:=fun args w=>by simp only[callFunc,Sem.run_bind,run_program,Result.andThen_ok,hfnd,beq_iff_eq,if_neg hcb'.2,hbn,jAg,if_false,Sem.run_pure]
   refine⟨w.heap.size+1,[zQF w.heap.size],(w.alloc (.deferred (some []))).alloc (.loop r0),{target:=.fn (.func gf) cs.toArray,args:=fs.toArray++#[.func (.yield (w.heap.size+1)) #[] #[]]},(w.alloc (.deferred (some []))).alloc (.loop r0),gf,
    (fs++[Value.func (.yield (w.heap.size+1)) #[] #[]]++cs).toArray,(w.alloc (.deferred (some []))).alloc (.loop r0),?_,?_,fun _ _=>trivial,?_,fun hh=>by simp[Wr,Fence.wide]at hh,?_⟩
   ·rw[hr0]; exact run_enterLoop_outer _ _ _ _ _
   ·simp[resolve,hfv,Deferred.ofValue];rfl
   ·simp only[invoke];rw[henter]
    congr 2
    apply jCa;simp
   ·refine(zUt (r:=none)).2 (hcalls.mono fun e w2 hh=>?_);obtain⟨o,τ,H2,L2,ho,hn2,⟨rr,rfl⟩,rfl⟩:=hh;obtain⟨v,rfl,_⟩:=ho;have hl2:L2.length=m+1:=by rw[hn2.st.len]; simp[(hT X.length (jA _)).1]
    have hL2:L2[m]?=some L2[m]:=jA2 (by omega);have hσ2:(T X.length++[AObj.lp (w.heap.size+1) r0 N E])[m]?=some (.lp (w.heap.size+1) r0 N E):=by rw[←(hT X.length (jA _)).1]; simp
    obtain⟨tmps2,hb2',_,_,hnx2⟩:=zNo (r':={r0 with state:=.exhausted}) hn2.st hL2 hσ2;have hend:=run_endLoop (P:=P) hb2' (by rw[hr0]; simp);have hpn:r0.pending=none:=by rw[hr0]
    have hend':(Instr.endLoop (w.heap.size+1)).run P w2=.ok none (w2.putObj (w.heap.size+1) (.loop {{r0 with state:=.exhausted} with tmps:=tmps2})):=by rw[hend];show Result.ok r0.pending _=_;rw[hpn]
    refine⟨none,_,hend',?_⟩;have hset:(T X.length++[AObj.lp (w.heap.size+1) r0 N E]).set m (.lp (w.heap.size+1) {r0 with state:=.exhausted} N E)=T X.length++[AObj.lp (w.heap.size+1) {r0 with state:=.exhausted} N E]:=by rw[←(hT X.length (jA _)).1]; simp
    rw[hset]at hnx2;have htail:=hnx.trans (hn2.trans hnx2);have hall:=hn1.trans htail;obtain⟨L3,hn3,hcut⟩:=zRT (by rw[(hT X.length (jA _)).1]; exact hnm) (by rw[(hT X.length (jA _)).1]; exact(hT X.length (jA _)).2) hall;refine⟨.norm,qU E,T X.length,H2,L3,rfl,?_,⟨he1.1,fun t=>?_⟩,hn3,hdone⟩
    ·refine hd.trans hn1.step.size htail.step.dfr ⟨[w.heap.size],rfl,by simp,fun D hD=>?_⟩;simp only[jAn]at hD;subst hD;refine⟨jA _,(hnl.trans (hn2.trans hnx2)).step.dfr _ _ (World.alloc_heap_new _ _)⟩
    ·rcases zDi E t with hm | hm
     ·rw[hm]; simp[Rel]
     ·exact hcut _ _ (by rw[(hT X.length (jA _)).1]; exact(hE _ hm).1) (Rel.mono htail.step.hle htail.lle _ (he1.2 t))
  all_goals (exfalso; revert hc; (repeat' split)<;>simp_all)
def zCB (args:List A):Env:=fun t=>args.getD t (.lit undef)
inductive RS where
 | slot (t:Nat)
 | cell (a n:Nat) (agg:Bool)
def zN2 (P:Program):ResultVar→Option RS
 | .tmp t=>some (.slot t)
 | .cell a t=>match P.underlying t,P.info? t with
  | some u,some i=>some (.cell a i.size (zHu u))
  | _,_=>none
def zCv (P:Program):List ResultVar→Option (List RS)
 | []=>some []
 | r::rest=>match zN2 P r,zCv P rest with
  | some x,some xs=>some (x::xs)
  | _,_=>none
def zDH (env:Env) (σ : St):RS→Option A
 | .slot t=>some (env t)
 | .cell a n agg=>(ldA σ n (env a)).bind (zBO agg)
def zAR (env:Env) (σ : St):List RS→Option (List A)
 | []=>some []
 | r::rs=>match zDH env σ r,zAR env σ rs with
  | some x,some xs=>some (x::xs)
  | _,_=>none
def zT5 (env:Env) (σ : St)(rs:List RS):Option A :=
 match zAR env σ rs with
 | some [x]=>some x
 | some xs=>some (.tup xs)
 | none=>none
def zHn (tmps:Array Value):ResultVar→Sem Value
 | .tmp t=>pure (tmps.getD t undef)
 | .cell a t=>do loadVar t (←asAddr (tmps.getD a undef))
theorem zQY (fn:Func)(tmps:Array Value):results fn tmps=(do let vs ←fn.results.mapM (zHn tmps); pure (if h:vs.size=1 then vs[0] else .tuple vs)):=by
 have hfun:(fun x=>match x with
  | ResultVar.tmp t=>(pure (tmps.getD t undef):Sem Value)
  | ResultVar.cell a t=>do loadVar t (←asAddr (tmps.getD a undef)))=zHn tmps:=by
  funext r; cases r<;>rfl
 unfold results;rw[←hfun];rfl
theorem zQX {H:Mem}{L:List LI} {σ : St}{env:Env}{tmps:Array Value}{w:World}(he:zX H L N env tmps)(hs:RelSt H L σ w){r:ResultVar}{x:RS}{a:A}(hx:zN2 P r=some x)
 (ha:zDH env σ x=some a):∃v,(zHn tmps r).run P w=.ok v w∧Rel H L a v:=by
 cases r with
 | tmp t =>
  simp only[zN2,jA0]at hx;subst hx;simp only[zDH,jA0]at ha;subst ha;exact⟨_,by simp[zHn],he.2 t⟩
 | cell c t =>
  simp only[zN2]at hx;split at hx<;>try (cases hx; done)
  rename_i u i hu hi;cases hx;simp only[zDH,jA4]at ha;obtain⟨cs,h1,h2⟩:=ha;obtain⟨b,off,us,hv,hr,hl,ho1,hc⟩:=zMj hs (he.2 c) h1;obtain⟨v,hrun,hrel⟩:=zJn (P:=P) (w:=w) hu hi hc hl hr ho1 h2;exact⟨v,by simp only[zHn,hv,asAddr,Sem.run_bind,Sem.run_pure,Result.andThen_ok,hrun],hrel⟩
theorem zFV {fn:Func}{rs:List RS}(hr:zCv P fn.results.toList=some rs){H:Mem}{L:List LI} {σ : St}{env:Env}{tmps:Array Value}{w:World}(he:zX H L N env tmps)(hs:RelSt H L σ w){a:A}
 (ha:zT5 env σ rs=some a):∃v,(results fn tmps).run P w=.ok v w∧Rel H L a v:=by
 have key:∀(l:List ResultVar) (rs:List RS) (aS:List A),zCv P l=some rs→zAR env σ rs=some aS→∃vs:List Value,(l.mapM (zHn tmps)).run P w=.ok vs w∧zQ H L aS vs:=by
  intro l;induction l with
  | nil =>
   intro rs aS h1 h2;simp only[zCv,jA0]at h1;subst h1;simp only[zAR,jA0]at h2;subst h2;exact⟨[],by simp,jF⟩
  | cons r l ih =>
   intro rs aS h1 h2;simp only[zCv]at h1;split at h1<;>try (cases h1; done)
   rename_i x xs hx hxs;cases h1;simp only[zAR]at h2;split at h2<;>try (cases h2; done)
   rename_i a' aS' ha' has';cases h2;obtain⟨v,hv1,hv2⟩:=zQX (P:=P) (w:=w) he hs hx ha';obtain⟨vs,hvs1,hvs2⟩:=ih xs aS' hxs has';exact⟨v::vs,by rw[jCw]; simp only[Sem.run_bind,hv1,Result.andThen_ok,hvs1,Sem.run_pure],qH hv2 hvs2⟩
 unfold zT5 at ha;cases hl:zAR env σ rs with
 | none=>rw[hl]at ha; cases ha
 | some aS =>
  obtain⟨vs,hv1,hv2⟩:=key _ rs aS hr hl;have hm:(fn.results.mapM (zHn tmps)).run P w=.ok vs.toArray w:=by rw[show fn.results=fn.results.toList.toArray from by simp,List.mapM_toArray];simp only[Sem.run_map,hv1,Result.andThen_ok]
  rw[zQY];simp only[Sem.run_bind,hm,Result.andThen_ok,Sem.run_pure];refine⟨_,rfl,?_⟩;rw[hl]at ha;cases aS with
  | nil =>
   have:=qY hv2;subst this;cases ha;simp[Rel,zQ]
  | cons x xs =>
   obtain⟨u,us,rfl,g1,g2⟩:=zS hv2;cases xs with
   | nil =>
    have:=qY g2;subst this;cases ha
    simpa using g1
   | cons y ys =>
    obtain⟨u',us',rfl,g3,g4⟩:=zS g2;cases ha;rw[dif_neg (by simp)];simp only[Rel];exact⟨_,rfl,hv2⟩
theorem zIP {H:Mem}{L:List LI}{args:List A}{vs:List Value}(h:zQ H L args vs)(n:Nat) :
 zX H L n (zCB args) (vs.toArray++Array.replicate (n-vs.toArray.size) undef):=by
 refine⟨by simp; omega,fun t=>?_⟩;have hl:=h.length;unfold zCB;rcases jAo t args.length with ht | ht
 ·obtain⟨v,hv,hr⟩:=h.get (jA2 ht);have e1:args.getD t (.lit undef)=args[t]:=by simp[List.getD,ht]
  have htv:t<vs.length:=by omega
  have e2:(vs.toArray++Array.replicate (n-vs.toArray.size) undef).getD t undef=v:=by
   have:vs[t]=v:=by simpa [htv] using hv
   rw[jDg,jD2 (by simpa using htv)];simp[htv,this]
  rw[e1,e2];exact hr
 ·have e1:args.getD t (.lit undef)=.lit undef:=by simp[List.getD,jB7 ht]
  have e2:(vs.toArray++Array.replicate (n-vs.toArray.size) undef).getD t undef=undef:=by
   have htv:¬t<vs.length:=by omega
   rw[jDg,Array.getElem?_append_right (by simpa using htv),Array.getElem?_replicate];split<;>rfl
  rw[e1,e2];simp[Rel]
def zKP (rs:List RS)(Q:Out→St→Prop)(env:Env) (σ : St):Prop:=match zT5 env σ rs with
 | some r=>Q (.ret r) σ
 | none=>False
def fin (rs:List RS)(Q:Out→St→Prop):Ex→Env→St→Prop
 | .norm=>zKP rs Q
 | .ret=>zKP rs Q
 | .pan v=>fun _ σ=>Q (.pan v) σ
 | .exit _=>fun _ _=>False
noncomputable def wpF (P:Program) (k:K) (rs:List RS) (args:List A) (σ : St) (Q:Out→St→Prop):Prop:=wpK P σ.length k (fin rs Q) (zCB args) σ
theorem zE1 {hint:Nat→Option (List (Nat×Nat))}{f:FuncId}{fn:Func}{c:Code}{k:K}{rs:List RS}(hf:P.funcs[f]?=some fn)(hb:fn.body=some c)(hc:qE P fn.ntmps hint c=some k.erase)(hr:zCv P fn.results.toList=some rs)
 {args:List A} {σ : St}{Q:Out→St→Prop}(h:wpF P k rs args σ Q):yV P f args σ Q:=by
 intro H L w vs hs ha;unfold wpF at h;rw[←hs.len]at h;refine callsIn_wide.1 (callsIn_of_wp_marks (n:=0) (F:=Fence.wide) hf hb trivial (wpIn_mono (zBy k c _ H L w [] H L σ w _ _ none (.inl rfl) hc (zIP ha fn.ntmps) (Nxt.refl hs) (Mk.refl _ _ _) h) fun e a' w' hp=>?_));obtain⟨x,env',σ',H',L',rfl,⟨Ds,g2,gd,gm⟩,g3,g4,g5⟩:=hp;simp only[jCd]at g2;have ret:zKP rs Q env' σ'→bodyPostM Fence.wide 0 P fn (fun e w'=>∃o σ' H' L',zGG H' L' o e∧Nxt H L w H' L' σ' w'∧Q o σ') .ret a' w':=by
  intro h;unfold zKP at h;split at h
  ·rename_i r hres;simp only[bodyPostM];rw[g2];refine zER (u:=.returning) (by simp) (fun w'' hn=>?_) Ds w' gd gm g4;obtain⟨v,hv1,hv2⟩:=zFV (P:=P) (w:=w'') hr g3 hn.st hres;exact⟨v,hv1,.ret _,σ',H',L',⟨v,rfl,hv2⟩,hn,h⟩
  ·exact h.elim
 cases x with
 | norm=>exact ret g5
 | ret=>exact ret g5
 | pan v =>
  simp only[Ex.exit?,bodyPostM];rw[g2];refine zER (u:=.panicking _) (by simp) (fun w'' hn=>?_) Ds w' gd gm g4;simp only[LeavesIn];exact⟨.pan v,σ',H',L',rfl,hn,g5⟩
 | exit i=>exact g5.elim
theorem zFw {f:FuncId}{fn:Func}{c:Code}{k:K}{rs:List RS}(hf:P.funcs[f]?=some fn)(hb:fn.body=some c)(hc:zR P fn.ntmps c=some k.erase)(hr:zCv P fn.results.toList=some rs)
 {args:List A} {σ : St}{Q:Out→St→Prop}(h:wpF P k rs args σ Q):yV P f args σ Q:=zE1 (hint:=zQK) hf hb hc hr h
end
end Go.Abs
namespace Go.Abs
section
variable {P:Program}{H:Mem}{L L':List LI}
theorem zA4.cut {n0:Nat}{env:Env} {σ τ : St}(l:List (Nat×A))(hn:n0≤σ.length)(hl:∀p∈l,env p.1=p.2)(hb:∀p∈l,p.2.bnd σ.length=true)(ho:∀o∈σ,o.bnd σ.length=true) :
 zA4 n0 (qU l) σ env (σ++τ):=by
 intro H0 L0 w0 H L w N tmps h0 h1 h2;obtain⟨L',k1,k2⟩:=zRT (by omega) ho h1;refine⟨H,L',k1,h2.1,fun t=>?_⟩;rcases zDi l t with h | h
 ·rw[h]; simp[Rel]
 ·have:=h2.2 t;rw[hl _ h]at this;exact k2 _ _ (hb _ h) this
mutual
def nrm0:A→A
 | .nil=>.sl 0 []
 | .fsl n cs=>.sl n (qV cs)
 | .sl n cs=>.sl n (qV cs)
 | .agg cs=>.agg (qV cs)
 | .tup cs=>.tup (qV cs)
 | .rptr cs=>.rptr (qV cs)
 | .clo f fs cs=>.clo f (qV fs) (qV cs)
 | .any=>.any
 | .lit v=>.lit v
 | .ptr l o=>.ptr l o
 | .row l n=>.row l n
 | .rwp l n o=>.rwp l n o
 | .map l=>.map l
 | .win l n o k c=>.win l n o k c
def qV:List A→List A
 | []=>[]
 | c::cs=>nrm0 c::qV cs
end
mutual
theorem Rel.nrm0:∀(a:A) {v:Value},Rel H L a v→Rel H L (nrm0 a) v
 | .nil,v,h=>by simp only[Rel,Abs.nrm0]at h⊢;exact⟨none,0,h,jA _,jAs _,.inl (by simp)⟩
 | .fsl n cs,v,h=>by
  simp only[Rel,Abs.nrm0]at h⊢;obtain⟨a,rfl,h1,h3⟩:=h;refine⟨a,n,rfl,jA _,h1,?_⟩;rcases h3 with ⟨h3,rfl⟩ | ⟨b,o,us,rfl,h4,h5,h6⟩
  ·exact .inl ⟨h3,by simp[qV]⟩
  ·exact .inr ⟨b,o,us,rfl,zQ.nrm0 cs h4,h5,h6⟩
 | .sl n cs,v,h=>by
  simp only[Rel,Abs.nrm0]at h⊢;obtain⟨a,cap,rfl,h1,h2,h3⟩:=h;refine⟨a,cap,rfl,h1,h2,?_⟩;rcases h3 with ⟨h3,rfl⟩ | ⟨b,o,us,rfl,h4,h5,h6⟩
  ·exact .inl ⟨h3,by simp[qV]⟩
  ·exact .inr ⟨b,o,us,rfl,zQ.nrm0 cs h4,h5,h6⟩
 | .agg cs,v,h=>by simp only[Rel,Abs.nrm0]at h⊢;obtain⟨vs,rfl,h1,h2⟩:=h;exact⟨vs,rfl,zQ.nrm0 cs h1,h2⟩
 | .tup cs,v,h=>by simp only[Rel,Abs.nrm0]at h⊢;obtain⟨vs,rfl,h1⟩:=h;exact⟨vs,rfl,zQ.nrm0 cs h1⟩
 | .rptr cs,v,h=>by simp only[Rel,Abs.nrm0]at h⊢;obtain⟨b,o,us,rfl,h4,h5,h6⟩:=h;exact⟨b,o,us,rfl,zQ.nrm0 cs h4,h5,h6⟩
 | .clo f first cap,v,h=>by simp only[Rel,Abs.nrm0]at h⊢;obtain⟨fs,cs,rfl,h1,h2⟩:=h;exact⟨fs,cs,rfl,zQ.nrm0 first h1,zQ.nrm0 cap h2⟩
 | .any,_,h=>h
 | .lit _,_,h=>h
 | .ptr _ _,_,h=>h
 | .row _ _,_,h=>h
 | .rwp _ _ _,_,h=>h
 | .map _,_,h=>h
 | .win _ _ _ _ _,_,h=>h
theorem zQ.nrm0:∀(cs:List A) {vs:List Value},zQ H L cs vs→zQ H L (qV cs) vs
 | [],vs,h=>by simpa [zQ,qV] using h
 | c::cs,vs,h=>by simp only[zQ,qV]at h⊢;obtain⟨u,us,rfl,h1,h2⟩:=h;exact⟨u,us,rfl,Rel.nrm0 c h1,zQ.nrm0 cs h2⟩
end
mutual
def nrm (σ : St):A→A
 | .row l n=>match σ[l]? with
  | some (.row _ _ _ m cs)=>if n=m then .sl n (qV cs) else .row l n
  | _=>.row l n
 | .nil=>.sl 0 []
 | .fsl n cs=>.sl n (zIB σ cs)
 | .sl n cs=>.sl n (zIB σ cs)
 | .agg cs=>.agg (zIB σ cs)
 | .tup cs=>.tup (zIB σ cs)
 | .rptr cs=>.rptr (zIB σ cs)
 | .clo f fs cs=>.clo f (zIB σ fs) (zIB σ cs)
 | .any=>.any
 | .lit v=>.lit v
 | .ptr l o=>.ptr l o
 | .rwp l n o=>.rwp l n o
 | .map l=>.map l
 | .win l n o k c=>.win l n o k c
def zIB (σ : St):List A→List A
 | []=>[]
 | c::cs=>nrm σ c::zIB σ cs
end
def zPD (H:Mem)(L:List LI) (σ : St)(w:World):Prop :=
 ∀(i:Nat) li fz e sz n cs,L[i]?=some li→σ[i]?=some (.row fz e sz n cs)→∀b,li.block=some b→∃cur,w.heap[b]?=some (.cells cur e (0,0))∧n≤li.cap∧li.cap≤maxLen ∧
  zQ H L cs (cur.toList.take (n*sz))∧(∀u∈cur.toList.take (n*sz),one u)∧At H b 0 (cur.toList.take (n*sz))
mutual
theorem Rel.nrm {σ : St}{w:World}(hs:∀(i:Nat) l fz e sz n cs,L[i]?=some l→σ[i]?=some (.row fz e sz n cs)→l.len=n∧cs.length=n*sz∧(l.block=none→n=0))(hf:zPD H L σ w) :
 ∀(a:A) {v:Value},Rel H L a v→Rel H L (nrm σ a) v
 | .row l n,v,h=>by
  simp only[Abs.nrm];split
  ·rename_i fz e sz m cs hσ;split
   ·rename_i hn;subst hn;simp only[Rel]at h⊢;obtain⟨_,li,e1,e2,e3,hv⟩:=h;obtain⟨g1,g2,g3⟩:=hs l li fz e sz n cs e1 hσ;have hv:=hv g1.symm;cases hb:li.block with
    | none =>
     have h0:=g3 hb;subst h0;rw[hb]at hv;have hcs:cs=[]:=jBn (by simpa using g2);exact⟨none,0,hv,jA _,jAs _,.inl ⟨rfl,by simp[hcs,qV]⟩⟩
    | some b =>
     rw[hb]at hv;obtain⟨cur,_,k2,k3,k4,k5,k6⟩:=hf l li fz e sz n cs e1 hσ b hb;exact⟨_,_,hv,k2,k3,.inr ⟨b,0,_,rfl,zQ.nrm0 cs k4,k5,k6⟩⟩
   ·exact h
  ·exact h
 | .nil,v,h=>by simp only[Rel,Abs.nrm]at h⊢;exact⟨none,0,h,jA _,jAs _,.inl (by simp)⟩
 | .fsl n cs,v,h=>by
  simp only[Rel,Abs.nrm]at h⊢;obtain⟨a,rfl,h1,h3⟩:=h;refine⟨a,n,rfl,jA _,h1,?_⟩;rcases h3 with ⟨h3,rfl⟩ | ⟨b,o,us,rfl,h4,h5,h6⟩
  ·exact .inl ⟨h3,by simp[zIB]⟩
  ·exact .inr ⟨b,o,us,rfl,zQ.nrm hs hf cs h4,h5,h6⟩
 | .sl n cs,v,h=>by
  simp only[Rel,Abs.nrm]at h⊢;obtain⟨a,cap,rfl,h1,h2,h3⟩:=h;refine⟨a,cap,rfl,h1,h2,?_⟩;rcases h3 with ⟨h3,rfl⟩ | ⟨b,o,us,rfl,h4,h5,h6⟩
  ·exact .inl ⟨h3,by simp[zIB]⟩
  ·exact .inr ⟨b,o,us,rfl,zQ.nrm hs hf cs h4,h5,h6⟩
 | .agg cs,v,h=>by simp only[Rel,Abs.nrm]at h⊢;obtain⟨vs,rfl,h1,h2⟩:=h;exact⟨vs,rfl,zQ.nrm hs hf cs h1,h2⟩
 | .tup cs,v,h=>by simp only[Rel,Abs.nrm]at h⊢;obtain⟨vs,rfl,h1⟩:=h;exact⟨vs,rfl,zQ.nrm hs hf cs h1⟩
 | .rptr cs,v,h=>by simp only[Rel,Abs.nrm]at h⊢;obtain⟨b,o,us,rfl,h4,h5,h6⟩:=h;exact⟨b,o,us,rfl,zQ.nrm hs hf cs h4,h5,h6⟩
 | .clo f first cap,v,h=>by simp only[Rel,Abs.nrm]at h⊢;obtain⟨fs,cs,rfl,h1,h2⟩:=h;exact⟨fs,cs,rfl,zQ.nrm hs hf first h1,zQ.nrm hs hf cap h2⟩
 | .any,_,h=>h
 | .lit _,_,h=>h
 | .ptr _ _,_,h=>h
 | .rwp _ _ _,_,h=>h
 | .map _,_,h=>h
 | .win _ _ _ _ _,_,h=>h
theorem zQ.nrm {σ : St}{w:World}(hs:∀(i:Nat) l fz e sz n cs,L[i]?=some l→σ[i]?=some (.row fz e sz n cs)→l.len=n∧cs.length=n*sz∧(l.block=none→n=0))(hf:zPD H L σ w) :
 ∀(cs:List A) {vs:List Value},zQ H L cs vs→zQ H L (zIB σ cs) vs
 | [],vs,h=>by simpa [zQ,zIB] using h
 | c::cs,vs,h=>by simp only[zQ,zIB]at h⊢;obtain⟨u,us,rfl,h1,h2⟩:=h;exact⟨u,us,rfl,Rel.nrm hs hf c h1,zQ.nrm hs hf cs h2⟩
end
end
end Go.Abs
namespace Go.Abs
section
variable {P:Program}{H:Mem}{L:List LI} {σ : St}{w:World}
def zVq (L:List LI) (σ : St)(b o:Nat):Prop:=∃(i:Nat) (li:LI) (fz:Bool) (e:TypeId) (sz n:Nat) (cs:List A),L[i]?=some li∧σ[i]?=some (AObj.row fz e sz n cs)∧li.block=some b∧o<n*sz
open Classical in
noncomputable def zJy (H:Mem) (L:List LI) (σ : St) (w:World):Mem:=⟨fun b o=>match H b o with
 | some v=>some v
 | none=>if zVq L σ b o then w.cell? ⟨b,o,none⟩ else none,fun b o v h=>by simp only[H.2 b o v h]⟩
open Classical in
theorem zHb (H:Mem)(L:List LI) (σ : St)(w:World)(b o:Nat):zJy H L σ w b o=match H b o with
 | some v=>some v
 | none=>if zVq L σ b o then w.cell? ⟨b,o,none⟩ else none:=rfl
theorem zNb:HLe H (zJy H L σ w):=fun b o v h=>by rw[zHb,h]
theorem zOF {b o:Nat}{v:Value}(h:zJy H L σ w b o=some v):H b o=some v∨(zVq L σ b o∧w.cell? ⟨b,o,none⟩=some v):=by
 rw[zHb]at h;split at h
 ·rename_i u hu; cases h; exact .inl hu
 ·split at h
  ·rename_i hr; exact .inr ⟨hr,h⟩
  ·cases h
theorem zTa (hs:RelSt H L σ w):∀b o v,zJy H L σ w b o=some v→w.cell? ⟨b,o,none⟩=some v:=fun b o v h =>
 (zOF h).elim (hs.pers b o v) fun h=>h.2
theorem zOE (hs:RelSt H L σ w):zPD (zJy H L σ w) L σ w:=by
 intro i li fz e sz n cs hL hσ b hb;have hob:=hs.obj i li _ hL hσ;simp only[zN]at hob;obtain⟨_,hln,hcl,hob⟩:=hob;rcases hob with ⟨h0,_⟩ | ⟨b',cur,hb',hh,k1,k2,k3,k4,k5,k6⟩
 ·rw[hb]at h0; cases h0
 ·rw[hb]at hb';cases hb';refine⟨cur,hh,k1,k2,zQ.mono zNb (LLe.refl _) _ k4,k5,fun j u hu=>?_⟩;have hj:j<n*sz:=by
   rw[jB6]at hu;split at hu
   ·assumption
   ·cases hu
  have hc:w.cell? ⟨b,j,none⟩=some u:=by
   rw[cell_of_row w b j cur e (0,0) hh];rw[jB6,if_pos hj]at hu
   simpa using hu
  simp only[jAq];rw[zHb];split
  ·rename_i v hv;have:=hs.pers b j v hv;rw[hc]at this;exact this.symm
  ·rw[if_pos ⟨i,li,fz,e,sz,n,cs,hL,hσ,hb,hj⟩];exact hc
theorem zVO (hs:RelSt H L σ w):∀(i:Nat) l fz e sz n cs,L[i]?=some l→σ[i]?=some (.row fz e sz n cs)→l.len=n∧cs.length=n*sz∧(l.block=none→n=0):=by
 intro i l fz e sz n cs hL hσ;have hob:=hs.obj i l _ hL hσ;simp only[zN]at hob;refine⟨hob.2.1,hob.2.2.1,fun hb=>?_⟩;rcases hob.2.2.2 with ⟨_,h0⟩ | ⟨b,cur,hb',_⟩
 ·exact h0
 ·rw[hb]at hb'; cases hb'
def qFk (P:Program)(f:FuncId)(args:List A)(r:A):Prop :=
 yV P f args [] fun o σ'=>∃r',o=.ret r'∧nrm σ' r'=r∧r.bnd 0=true
theorem yV.mono {f:FuncId}{args:List A}{Q Q':Out→St→Prop}(h:yV P f args σ Q)(hq:∀o σ',Q o σ'→Q' o σ'):yV P f args σ Q':=fun H L w vs h1 h2 =>
 (h H L w vs h1 h2).mono fun _ _ ⟨o,σ',H',L',g1,g2,g3⟩=>⟨o,σ',H',L',g1,g2,hq _ _ g3⟩
theorem yV.args {f:FuncId}{args args':List A}{Q:Out→St→Prop}(h:yV P f args' σ Q)(he:qV args=args'):yV P f args σ Q:=fun H L w vs h1 h2 =>
 h H L w vs h1 (he▸zQ.nrm0 args h2)
theorem RelSt.forget (hs:RelSt H L σ w):RelSt H [] [] w :=
 ⟨hs.pers,rfl,fun i l o h=>by simp at h,fun i j l l' b h=>by simp at h,fun i l b h=>by simp at h⟩
theorem qFk.call {f:FuncId}{args:List A}{r:A}(h:qFk P f args r)(hb:zBe 0 args=true):yV P f args σ fun o σ'=>o=.ret r∧σ' = σ:=by
 intro H L w vs hs ha;refine(h H [] w vs hs.forget (zQ.levels (k:=0) (fun l hl=>by omega) args hb ha)).mono fun e w' hh=>?_
 obtain⟨o,σ',H',L',g1,g2,r',rfl,hr,hrb⟩:=hh;obtain⟨v,rfl,hv⟩:=g1;have hO:∀b,¬zPg ([]:List LI) b:=fun b ⟨i,l,hi,_⟩=>by simp at hi
 have hnew:∀b,zPg L' b→w.heap.size≤b:=fun b hb=>(g2.own b hb).elim (fun h=>(hO b h).elim) id
 have hle:HLe H (zJy H' L' σ' w'):=g2.step.hle.trans zNb;have hkeep:∀k,k<w.heap.size→w'.heap[k]?=w.heap[k]?:=fun k hk=>g2.step.keep k hk (hO k)
 have hold:∀b o v,zJy H' L' σ' w' b o=some v→H b o=some v∨w.heap.size≤b:=by
  intro b o v hv;rcases zOF hv with h1 | ⟨⟨i,li,_,_,_,_,_,hL,_,hb,_⟩,_⟩
  ·rcases g2.step.hnew b o v h1 with h2 | h2 | h2
   ·exact .inl h2
   ·exact(hO b h2).elim
   ·exact .inr h2
  ·exact .inr (hnew b ⟨i,li,hL,hb⟩)
 have hrel:Rel (zJy H' L' σ' w') L' r v:=by
  have:=Rel.nrm (zVO g2.st) (zOE g2.st) r' (Rel.mono zNb (LLe.refl _) r' hv)
  rwa [hr]at this
 refine⟨.ret r,σ,zJy H' L' σ' w',L,⟨v,rfl,Rel.levels (k:=0) (fun l hl=>by omega) r hrb hrel⟩,⟨⟨zTa g2.st,hs.len,fun i l o hL hσ=>?_,hs.inj,fun i l b hL hb=>?_⟩,
  ⟨g2.step.os,g2.step.tape,g2.step.output,g2.step.size,fun k hk _=>hkeep k hk,hle,fun b o v hv=>(hold b o v hv).imp id .inr,g2.step.drawn,g2.step.dfr⟩,LLe.refl _,fun b hb=>.inl hb⟩,rfl,rfl⟩
 ·refine(hs.obj i l o hL hσ).carry (fun b hb=>hkeep b (hs.lt i l b hL hb)) hle (LLe.refl _) (fun b hb o'=>?_);have hlt:=hs.lt i l b hL hb;cases h1:H b o' with
  | some v=>exact hle _ _ _ h1
  | none =>
   cases h2:zJy H' L' σ' w' b o' with
   | none=>rfl
   | some v =>
    rcases hold b o' v h2 with h3 | h3
    ·rw[h1]at h3; cases h3
    ·omega
 ·exact jBt (hs.lt i l b hL hb) g2.step.size
theorem zA4.sub {n0:Nat}{env env':Env}(h:∀t,env' t=env t∨env' t=nrm0 (env t)):zA4 n0 env' σ env σ:=by
 intro H0 L0 w0 H L w N tmps _ h1 h2;refine⟨H,L,h1,h2.1,fun t=>?_⟩;rcases h t with h | h
 ·rw[h]; exact h2.2 t
 ·rw[h]; exact Rel.nrm0 _ (h2.2 t)
end
end Go.Abs
