/- Code; weakening; loops; the body of a function. -/
import Derived.Test.YtolkhapmieigcaaGreatDoorX5
import Derived.Deep.LoopGhost
set_option linter.unusedVariables false
set_option maxHeartbeats 8000000
set_option maxRecDepth 100000
set_option linter.unusedSimpArgs false
namespace Go.Abs
mutual
def A.bnd(k:Nat):A->Bool
 | .any | .nil | .lit _=>true
 | .agg cs | .tup cs | .sl _ cs | .fsl _ cs | .rptr cs=>cY k cs
 | .ptr l _ | .row l _ | .rwp l _ _ | .map l | .win l _ _ _ _=>decide (l<k)
 | .clo _ fs cs=>cY k fs&&cY k cs
def cY(k:Nat):List A->Bool
 |[]=>true
 |c::cs=>c.bnd k&&cY k cs
end
def AObj.bnd(k:Nat):AObj->Bool
 | .dead=>true
 | .box cs=>cY k cs
 | .row _ _ _ _ cs=>cY k cs
 | .lp _ _ _ es=>es.all fun p=>p.2.bnd k
 | .mp _ _ es=>es.all fun p=>p.2.bnd k
 | .it m _ _=>decide (m<k)
 | .rsv=>true
mutual
theorem A.bnd_mono{k k':Nat}(h:k<=k'):∀(a:A),a.bnd k=true->a.bnd k'=true
 | .any,_=>rfl
 | .nil,_=>rfl
 | .lit _,_=>rfl
 | .agg cs,hb=>cU h cs hb
 | .tup cs,hb=>cU h cs hb
 | .sl _ cs,hb=>cU h cs hb
 | .fsl _ cs,hb=>cU h cs hb
 | .rptr cs,hb=>cU h cs hb
 | .ptr l _,hb=>by simp only[A.bnd,decide_eq_true_eq]at hb ⊢;omega
 | .row l _,hb=>by simp only[A.bnd,decide_eq_true_eq]at hb ⊢;omega
 | .rwp l _ _,hb=>by simp only[A.bnd,decide_eq_true_eq]at hb ⊢;omega
 | .map l,hb=>by simp only[A.bnd,decide_eq_true_eq]at hb ⊢;omega
 | .win l _ _ _ _,hb=>by simp only[A.bnd,decide_eq_true_eq]at hb ⊢;omega
 | .clo _ fs cs,hb=>by simp only[A.bnd,jA8]at hb ⊢;exact⟨cU h fs hb.1,cU h cs hb.2⟩
theorem cU{k k':Nat}(h:k<=k'):∀(cs:wF),cY k cs=true->cY k' cs=true
 |[],_=>rfl
 |c::cs,hb=>by simp only[cY,jA8]at hb ⊢;exact⟨A.bnd_mono h c hb.1,cU h cs hb.2⟩
end
theorem AObj.bnd_mono{k k':Nat}(h:k<=k')(o:AObj)(hb:o.bnd k=true):o.bnd k'=true:=by
 cases o with
 |dead=>rfl
 |box cs=>exact cU h cs hb
 |row fz e sz n cs=>exact cU h cs hb
 |lp b r M es =>
  simp only[AObj.bnd,jB3]at hb ⊢;exact fun p hp=>A.bnd_mono h _ (hb p hp)
 |mp fr nk es =>
  simp only[AObj.bnd,jB3]at hb ⊢;exact fun p hp=>A.bnd_mono h _ (hb p hp)
 |it m n met=>simp only[AObj.bnd,decide_eq_true_eq]at hb ⊢;omega
 |rsv=>rfl
theorem zDE{k:Nat}:∀{cs ds:wF},cY k (cs++ds)=(cY k cs&&cY k ds)
 |[],ds=>by simp[cY]
 |c::cs,ds=>by simp[cY,zDE,Bool.and_assoc]
section
variable{P:Program}{H:Mem}{L L':wO}
mutual
theorem Rel.levels{k:Nat}(hl:∀l,l<k->L'[l]?=L[l]?):∀(a:A) {v:Value},a.bnd k=true->Rel H L a v->Rel H L' a v
 | .any,_,_,_=>by simp[Rel]
 | .nil,_,_,h=>by simpa[Rel]using h
 | .lit _,_,_,h=>by simpa[Rel]using h
 | .agg cs,v,hb,h=>by simp only[Rel]at h⊢;obtain⟨vs,rfl,h1,h2⟩:=h;exact⟨vs,rfl,qE.levels hl cs (by simpa[A.bnd]using hb) h1,h2⟩
 | .tup cs,v,hb,h=>by simp only[Rel]at h⊢;obtain⟨vs,rfl,h1⟩:=h;exact⟨vs,rfl,qE.levels hl cs (by simpa[A.bnd]using hb) h1⟩
 | .sl n cs,v,hb,h=>by
  simp only[Rel]at h⊢;obtain⟨a,cap,rfl,h1,h2,h3⟩:=h;refine⟨a,cap,rfl,h1,h2,?_⟩;rcases h3 with h3|⟨b,o,us,rfl,h4,h5,h6⟩
  .exact .inl h3
  .exact .inr ⟨b,o,us,rfl,qE.levels hl cs (by simpa[A.bnd]using hb) h4,h5,h6⟩
 | .fsl n cs,v,hb,h=>by
  simp only[Rel]at h⊢;obtain⟨a,rfl,h1,h3⟩:=h;refine⟨a,rfl,h1,?_⟩;rcases h3 with h3|⟨b,o,us,rfl,h4,h5,h6⟩
  .exact .inl h3
  .exact .inr ⟨b,o,us,rfl,qE.levels hl cs (by simpa[A.bnd]using hb) h4,h5,h6⟩
 | .ptr l off,v,hb,h=>by simp only[Rel]at h⊢;rw[hl l (by simpa[A.bnd]using hb)];exact h
 | .rptr cs,v,hb,h=>by simp only[Rel]at h⊢;obtain⟨b,o,us,rfl,h4,h5,h6⟩:=h;exact⟨b,o,us,rfl,qE.levels hl cs (by simpa[A.bnd]using hb) h4,h5,h6⟩
 | .row l n,v,hb,h=>by simp only[Rel]at h⊢;rw[hl l (by simpa[A.bnd]using hb)];exact h
 | .rwp l n off,v,hb,h=>by simp only[Rel]at h⊢;rw[hl l (by simpa[A.bnd]using hb)];exact h
 | .map l,v,hb,h=>by simp only[Rel]at h⊢;rw[hl l (by simpa[A.bnd]using hb)];exact h
 | .win l n o k c,v,hb,h=>by simp only[Rel]at h⊢;rw[hl l (by simpa[A.bnd]using hb)];exact h
 | .clo f first cap,v,hb,h=>by simp only[Rel]at h⊢;simp only[A.bnd,jA8]at hb;obtain⟨fs,cs,rfl,h1,h2⟩:=h;exact⟨fs,cs,rfl,qE.levels hl first hb.1 h1,qE.levels hl cap hb.2 h2⟩
theorem qE.levels{k:Nat}(hl:∀l,l<k->L'[l]?=L[l]?):∀(cs:wF) {vs:wM},cY k cs=true->qE H L cs vs->qE H L' cs vs
 |[],vs,_,h=>by simpa[qE]using h
 |c::cs,vs,hb,h=>by simp only[cY,jA8]at hb;simp only[qE]at h⊢;obtain⟨u,us,rfl,h1,h2⟩:=h;exact⟨u,us,rfl,Rel.levels hl c hb.1 h1,qE.levels hl cs hb.2 h2⟩
end
variable{w:World}
theorem qB.levels{k:Nat}(hl:∀l,l<k->L'[l]?=L[l]?){li:LI}{o:AObj}(hb:o.bnd k=true)(h:qB H L w li o):qB H L' w li o:=by
 cases o with
 |dead=>trivial
 |box cs =>
  simp only[qB]at h⊢;obtain⟨h0,b,vs,e,h1,h2,h3,h4,h5⟩:=h;exact⟨h0,b,vs,e,h1,h2,qE.levels hl cs hb h3,h4,h5⟩
 |row fz e sz n cs =>
  simp only[qB]at h⊢;obtain⟨h0,h1,h2,h3⟩:=h;refine⟨h0,h1,h2,?_⟩;rcases h3 with h3|⟨b,cur,g1,g2,g3,g4,g5,g6,g7,g8⟩
  .exact .inl h3
  .exact .inr ⟨b,cur,g1,g2,g3,g4,g5,qE.levels hl cs hb g6,g7,g8⟩
 |lp b r M es =>
  simp only[qB]at h⊢;obtain⟨h0,h1,tmps,h2,h3,h4⟩:=h;simp only[AObj.bnd,jB3]at hb;exact⟨h0,h1,tmps,h2,h3,fun p hp=>Rel.levels hl _ (hb p hp) (h4 p hp)⟩
 |mp fr nk es =>
  simp only[qB]at h⊢;obtain⟨h0,b,ents,ck,h1,h2,h3,h4⟩:=h;simp only[AObj.bnd,jB3]at hb;have:=aV.map id (fun p hp v hv=>Rel.levels hl _ (hb p hp) hv) h3;exact⟨h0,b,ents,ck,h1,h2,by simpa using this,h4⟩
 |it m n met =>
  simp only[qB]at h⊢;simp only[AObj.bnd,decide_eq_true_eq]at hb;rw[hl m hb];exact h
 |rsv=>exact h
def jO:List (Nat×A)->Env
 |[]=>fun _=>.any
 |(t,a)::l=>fun x=>if x=t then a else jO l x
theorem oB:∀(l:List (Nat×A)) (t:Nat),jO l t=.any\/(t,jO l t)∈l
 |[],t=>.inl rfl
 |(u,a)::l,t=>by
  simp only[jO];split
  .rename_i h;subst h;exact .inr (jAm ..)
  .exact(oB l t).imp id (jAk _)
variable{U:St}
theorem zO0{H0:Mem}{L0:wO}{w0:World} {τ:St}(hn:L0.length<=U.length)(ho:∀o∈U,o.bnd U.length=true)(h1:Nxt H0 L0 w0 H L (U++τ) w) :
 ∃L',Nxt H0 L0 w0 H L' U w/\∀(a:A) v,a.bnd U.length=true->Rel H L a v->Rel H L' a v:=by
 have hlen:L.length = U.length + τ.length:=by rw[h1.st.len,jA4]
 have hget:∀i,i < U.length->(L.take U.length)[i]?=L[i]?:=fun i hi=>by rw[jBg,if_pos hi]
 have hinv:∀{i:Nat} {x:LI},(L.take U.length)[i]?=some x->L[i]?=some x/\i < U.length:=fun {i x} hx=>by
  rw[jBg]at hx;split at hx
  .exact⟨hx,by assumption⟩
  .cases hx
 refine⟨L.take U.length,⟨⟨h1.st.pers,by simp[hlen],fun i x o hx hU=>?_,fun i j x y b hi hj hx hy=>h1.st.inj i j x y b (hinv hi).1 (hinv hj).1 hx hy,fun i x b hi hx=>h1.st.lt i x b (hinv hi).1 hx⟩,
  h1.step,fun i x hx=>?_,fun b ⟨i,x,hi,hx⟩=>h1.own b ⟨i,x,(hinv hi).1,hx⟩⟩,fun a v hb ha=>Rel.levels (fun l hl=>hget l hl) a hb ha⟩
 .obtain⟨hL,hi⟩:=hinv hx;exact(h1.st.obj i x o hL (by rw[jAp hi];exact hU)).levels (fun l hl=>hget l hl) (ho o (jBs hU))
 .obtain⟨x',hx',hr⟩:=h1.lle i x hx;have hi:i<L0.length:=(jA5.1 hx).1;exact⟨x',by rw[hget i (by omega)];exact hx',hr⟩
variable{es:List (Nat×A)}
theorem zJj(hs:RelSt H L U w){l b M:Nat}{r r':Loop}{li:LI}(hl:L[l]?=some li)(hU:U[l]?=some (.lp b r M es)) :
 ∃tmps:Array Value,w.heap[b]?=some (.loop {r with tmps:=tmps})/\M<=tmps.size/\uW H L es tmps/\Nxt H L w H L (U.set l (.lp b r' M es)) (w.putObj b (.loop {r' with tmps:=tmps})):=by
 have hob:=hs.obj l li _ hl hU;simp only[qB]at hob;obtain⟨h0,h1,tmps,h2,h3,h4⟩:=hob;have hlt:=hs.lt l li b hl h1;have hnone:∀o,H b o=none:=fun o=>by
  cases hH:H b o with
  |none=>rfl
  |some v =>
   have:=hs.pers b o v hH;simp[World.cell?,h2]at this
 refine⟨tmps,h2,h3,h4,?_⟩;refine zAj hs hl h1 rfl rfl rfl rfl (fun d=>by rw[h2];simp) (by simp) (fun k hk=>World.putObj_heap_other hk) (HLe.refl _) (fun _ _ _ h=>.inl h) (fun o' v hv=>by rw[hnone]at hv;cases hv) ?_;simp only[qB];exact⟨h0,h1,tmps,World.putObj_heap_same hlt,h3,h4⟩
theorem zQm(hs:RelSt H L U w){M:Nat}{r:Loop}(hM:M<=r.tmps.size)(he:uW H L es r.tmps) :
 Nxt H L w H (L++[(⟨some w.heap.size,0,0,false⟩:LI)]) (U++[AObj.lp w.heap.size r M es]) (w.alloc (.loop r)):=by
 have hll:=LLe.append L [(⟨some w.heap.size,0,0,false⟩:LI)];refine⟨⟨fun b o v hv=>?_,by simp[hs.len],fun i l o hL hU=>?_,fun i j l l' b hi hj hb hb'=>?_,fun i l b hL hb=>?_⟩,
  ⟨rfl,rfl,rfl,by simp,fun k hk _=>heap_alloc_old w _ (h:=hk),HLe.refl _,fun b o v hv=>.inl hv,jA _,pI (fun k hk=>heap_alloc_old w _ (h:=hk))⟩,hll,fun b ⟨i,l,hL,hb⟩=>?_⟩
 .rw[World.cell?_alloc_lt _ _ _ (hs.h_lt hv)];exact hs.pers b o v hv
 .rcases jU hL with hL'|⟨rfl,rfl⟩
  .have hi:i<L.length:=(jA5.1 hL').1;rw[jAp (by rw[<-hs.len];exact hi)]at hU;exact(hs.obj i l o hL' hU).carry (fun b hb=>heap_alloc_old w _ (h:=hs.lt i l b hL' hb)) (HLe.refl _) hll (fun _ _ _=>rfl)
  .rw[hs.len]at hU;rw[jB9 (jA _)]at hU;simp only[jBn,jB8,jA3]at hU;subst hU;simp only[qB];exact⟨trivial,trivial,r.tmps,heap_alloc_new w _,hM,he.mono (HLe.refl _) hll⟩
 .rcases jU hi with hi'|⟨rfl,rfl⟩
  .rcases jU hj with hj'|⟨rfl,rfl⟩
   .exact hs.inj i j l l' b hi' hj' hb hb'
   .cases hb';have:=hs.lt i l _ hi' hb;omega
  .cases hb;rcases jU hj with hj'|⟨rfl,rfl⟩
   .have:=hs.lt j l' _ hj' hb';omega
   .rfl
 .rcases jU hL with hL'|⟨rfl,rfl⟩
  .have:=hs.lt i l b hL' hb;simp;omega
  .cases hb;simp
 .rcases jU hL with hL'|⟨rfl,rfl⟩
  .exact .inl ⟨i,l,hL',hb⟩
  .cases hb;exact .inr (jA _)
theorem zV3(hs:RelSt H L U w)(d:Option (List Deferred)):Nxt H L w H L U (w.alloc (.deferred d)):=by
 refine⟨⟨fun b o v hv=>?_,hs.len,fun i l o hL hU=>?_,hs.inj,fun i l b hL hb=>?_⟩,
  ⟨rfl,rfl,rfl,by simp,fun k hk _=>heap_alloc_old w _ (h:=hk),HLe.refl _,fun b o v hv=>.inl hv,jA _,pI (fun k hk=>heap_alloc_old w _ (h:=hk))⟩,LLe.refl _,fun b hb=>.inl hb⟩
 .rw[World.cell?_alloc_lt _ _ _ (hs.h_lt hv)];exact hs.pers b o v hv
 .exact(hs.obj i l o hL hU).carry (fun b hb=>heap_alloc_old w _ (h:=hs.lt i l b hL hb)) (HLe.refl _) (LLe.refl _) (fun _ _ _=>rfl)
 .have:=hs.lt i l b hL hb;simp;omega
end
def yv(b:Nat):A:=.lit (.func (.yield b) ⟨[]⟩ ⟨[]⟩)
def zJA(P:Program)(g:FuncId)(first cap:wF)(X:List wF):Prop :=
 ∀(b m:Nat) (T:Nat->St),(∀i,i<=X.length->(T i).length=m/\∀o∈T i,o.bnd m=true) ->
  (∀i (h:i<X.length),lG P b X[i] (T i) fun o τ=>o=.ret (.lit (.bool true))/\τ = T (i+1)) ->
  aK P g (first++[yv b]++cap) (T 0) fun o τ=>(∃r,o=.ret r)/\τ = T X.length
def v8(env:Env):List Nat->List A->Env
 |p::ps,x::xs=>v8 (env.put (some p) x) ps xs
 |_,_=>env
def fU(n0:Nat)(env':Env) (U':St)(env:Env) (U:St):Prop :=
 ∀(H0:Mem) (L0:wO) (w0:World) (H:Mem) (L:wO) (w:World) (N:Nat) (tmps:Array Value),L0.length=n0->Nxt H0 L0 w0 H L U w->qL H L N env tmps ->
  ∃H' L',Nxt H0 L0 w0 H' L' U' w/\qL H' L' N env' tmps
def Wk(n0:Nat)(J:wK)(env:Env) (U:St):Prop:=∃env' U',fU n0 env' U' env U/\J env' U'
theorem fU.refl(n0:Nat)(env:Env) (U:St):fU n0 env U env U:=fun _ _ _ H L _ _ _ _ h1 h2=>⟨H,L,h1,h2⟩
theorem fU.trans{n0:Nat}{e1 e2 e3:Env}{s1 s2 s3:St}(h:fU n0 e2 s2 e1 s1)(k:fU n0 e3 s3 e2 s2):fU n0 e3 s3 e1 s1:=by intro H0 L0 w0 H L w N tmps h0 h1 h2;obtain⟨H',L',h3,h4⟩:=h H0 L0 w0 H L w N tmps h0 h1 h2;exact k H0 L0 w0 H' L' w N tmps h0 h3 h4
theorem Wk.here{n0:Nat}{J:wK}{env:Env} {U:St}(h:J env U):Wk n0 J env U:=⟨env,U,fU.refl _ _ _,h⟩
def thn(J:wK)(Q:Ex->wK):Ex->wK
 | .norm=>J
 |x=>Q x
def blk(id:Nat)(Q:Ex->wK):Ex->wK
 | .exit i=>if i=id then Q .norm else Q (.exit i)
 |x=>Q x
def rnd(n0:Nat)(I:Nat->wK)(n:Nat)(Q:Ex->wK):Ex->wK
 | .norm=>fun env U=>∃m,m<n/\Wk n0 (I m) env U
 |x=>Q x
def zJD(n0:Nat)(W:(Ex->wK)->wK)(Q:Ex->wK)(env:Env) (U:St):Prop :=
 ∃I:Nat->wK,(∃n,Wk n0 (I n) env U)/\∀n env U,I n env U->W (rnd n0 I n Q) env U
def zUh(S:St)(J:wK):Ex->wK
 | .norm=>fun env U=>U = S/\J env U
 |_=>fun _ _=>False
def zU5(n0:Nat)(S:St):Ex->wK
 | .norm=>fun env U=>Wk n0 (fun _ U'=>U'=S) env U
 |_=>fun _ _=>False
def zXW(P:Program)(n0:Nat)(f:Operand)(ps:wA)(Wa Wb:Nat->(Ex->wK)->wK)(Q:Ex->wK)(env:Env) (U:St):Prop :=
 ∃(E:List (Nat×A)) (m:Nat) (X:List wF) (T:Nat->St) (g:FuncId) (first cap:wF),
  ev (jO E) f=.clo g first cap/\zA P g=true/\zJA P g first cap X/\fU n0 (jO E) (T 0) env U/\n0<=m /\
  (∀i,i<=X.length->(T i).length=m/\∀o∈T i,o.bnd m=true)/\(∀p∈E,p.2.bnd m=true/\jO E p.1=p.2)/\(∀x∈X,x.length=ps.length) /\
  (∀i (_:i<X.length) (b M:Nat) (r r':Loop),Wa (m+1) (zUh (T i++[.lp b r M E]) fun env1 _=>Wb (m+1) (zU5 (m+1) (T (i+1)++[.lp b r' M E])) env1 (T i++[.lp b r' M E])) (v8 (jO E) ps X[i]) (T i++[.lp b r M E])) /\
  Q .norm (jO E) (T X.length)
noncomputable def wpK(P:Program):Nat->K->(Ex->wK)->wK
 |_,.skip,Q,env,U=>Q .norm env U
 |n0,.seq a b,Q,env,U=>wpK P n0 a (thn (wpK P n0 b Q) Q) env U
 |n0,.cond c a b,Q,env,U=>match ev env c with
  | .lit (.bool t)=>uJ t (wpK P n0 a Q) (wpK P n0 b Q) env U
  |_=>False
 |n0,.block id b,Q,env,U=>wpK P n0 b (blk id Q) env U
 |n0,.loop b,Q,env,U=>zJD n0 (wpK P n0 b) Q env U
 |_,.exit id,Q,env,U=>Q (.exit id) env U
 |_,.ret,Q,env,U=>Q .ret env U
 |_,.ops l,Q,env,U=>lI P (fun v=>Q (.pan v)) (Q .norm) l env U
 |_,.dops l,Q,env,U=>wpD P (zGb Q) (Q .norm) l env U
 |n0,.rng f ps a b,Q,env,U=>zXW P n0 f ps (fun n=>wpK P n a) (fun n=>wpK P n b) Q env U
 |n0,.wk b,Q,env,U=>Wk n0 (wpK P n0 b Q) env U
section
variable{P:Program}{N:Nat}
variable{w:World}
theorem zB1.then{H0:Mem}{L0:wO}{w0:World}{Q:Ex->wK}{dfs:List Deferred}{R:Exit->Act->World->Prop}{e:Exit}{a:Act}{Q':Ex->wK}
 (h:zB1 H0 L0 w0 N Q' dfs e a w)(hn:∀env U H L,Q' .norm env U->Mk w0 w dfs a.defers->qL H L N env a.tmps->Nxt H0 L0 w0 H L U w->R .normal a w)
 (hx:∀x env U,x≠.norm->Q' x env U->Q x env U)(hR:zB1 H0 L0 w0 N Q dfs e a w->e≠.normal->R e a w):R e a w:=by
 obtain⟨x,env,U,H,L,rfl,h2,h3,h4,h5⟩:=h;cases x with
 |norm=>exact hn env U H L h5 h2 h3 h4
 |exit id=>exact hR ⟨.exit id,env,U,H,L,rfl,h2,h3,h4,hx _ _ _ (by simp) h5⟩ (by simp[Ex.exit?])
 |ret=>exact hR ⟨.ret,env,U,H,L,rfl,h2,h3,h4,hx _ _ _ (by simp) h5⟩ (by simp[Ex.exit?])
 |pan v=>exact hR ⟨.pan v,env,U,H,L,rfl,h2,h3,h4,hx _ _ _ (by simp) h5⟩ (by simp[Ex.exit?])
variable{c:Code}
theorem zLO{F:Fence}{rm:Nat}{Q:Exit->Act->World->Prop}{a:Act}(I:Nat->Act->World->Prop) (n₀ : Nat) (h₀ : I n₀ a w)
 (round:∀n a w,I n a w->c.wpIn F rm P (Exit.then (fun a' w'=>∃n',n'<n/\I n' a' w') Q) a w):(Code.loop c).wpIn F rm P Q a w:=by
 refine wpIn_loop (fun a w=>∃n,I n a w) (fun a w=>leastOf (fun n=>I n a w)) ⟨n₀,h₀⟩ ?_;intro a w hI;refine wpIn_mono (round _ a w (leastOf_spec hI).1) ?_;intro e a' w' hq;cases e with
 |normal =>
  obtain⟨n',hlt,hI'⟩:=hq;exact show (∃n,I n a' w')/\leastOf (fun n=>I n a' w')<leastOf (fun n=>I n a w) from ⟨⟨n',hI'⟩,Nat.lt_of_le_of_lt ((leastOf_spec ⟨n',hI'⟩).2 n' hI') hlt⟩
 |exit id=>exact hq
 |goto l=>exact hq
 |ret=>exact hq
 |panic ch=>exact hq
 |outgrown=>exact hq
theorem c9:∀(k:K),k.erase.noRng=k.noRng
 | .skip=>rfl
 | .seq a b=>by simp only[K.erase,K.noRng,c9 a,c9 b]
 | .cond c a b=>by simp only[K.erase,K.noRng,c9 a,c9 b]
 | .block id b=>by simp only[K.erase,K.noRng,c9 b]
 | .loop b=>by simp only[K.erase,K.noRng,c9 b]
 | .exit _=>rfl
 | .ret=>rfl
 | .ops _=>rfl
 | .dops _=>rfl
 | .rng ..=>rfl
 | .wk b=>by simp only[K.erase,K.noRng,c9 b]
theorem zIa{H:Mem}{L:wO}{tmps0:Array Value}:∀{ps:wA} {xs:wF} {vs:wM} {env:Env} {tmps:Array Value},qL H L N env tmps->qE H L xs vs->(∀p∈ps,p<N)->qL H L N (v8 env ps xs) ((ps.zip vs).foldl (fun t p=>t.setIfInBounds p.1 p.2) tmps)
 |[],xs,vs,env,tmps,he,hr,hp=>by simpa[v8]using he
 |p::ps,[],vs,env,tmps,he,hr,hp=>by rw[jL hr];simpa[v8]using he
 |p::ps,x::xs,vs,env,tmps,he,hr,hp=>by obtain⟨v,vs',rfl,h1,h2⟩:=z8 hr;simp only[v8,List.zip_cons_cons,jAw];have:=qL.put (a:={tmps:=tmps,defers:=[]}) he (d:=some p) (fun x hx=>by cases hx;exact hp p (jAm ..)) h1;exact zIa (tmps0:=tmps0) this h2 (fun q hq=>hp q (jAk _ hq))
variable{H:Mem}{L:wO}{E:List (Nat×A)}
theorem zJu{tmps:Array Value}(hN:N<=tmps.size)(h:uW H L E tmps):qL H L N (jO E) tmps :=
 ⟨hN,fun t=>by
  rcases oB E t with e|e
  .rw[e];simp[Rel]
  .exact h _ e⟩
variable{hint:Nat->Option wE}
theorem zTl{ka kb:K}{ca cb:Code}{ps:Array Tmp}(hca:qK P N hint ca=some ka.erase)(hcb:qK P N hint cb=some kb.erase)(hps:∀p∈ps.toList,p<N)
 (iha:∀(Q:Ex->wK)(H0:Mem)(L0:wO)(w0:World)(H:Mem)(L:wO) (U:St)(w:World)(env:Env)(a:Act)(ro:wD),qL H L N env a.tmps->Nxt H0 L0 w0 H L U w->wpK P L0.length ka Q env U->ca.wpIn (Wr ro) 0 P (zB1 H0 L0 w0 N Q a.defers) a w)
 (ihb:∀(Q:Ex->wK)(H0:Mem)(L0:wO)(w0:World)(H:Mem)(L:wO) (U:St)(w:World)(env:Env)(a:Act)(ro:wD),qL H L N env a.tmps->Nxt H0 L0 w0 H L U w->wpK P L0.length kb Q env U->cb.wpIn (Wr ro) 0 P (zB1 H0 L0 w0 N Q a.defers) a w)
 {m b:Nat}{xs:wF}(hxs:xs.length=ps.size){S S':St}(hS:S.length=m)(hS':S'.length=m){r0:Loop}(hr:r0.state=.ready)(hp:r0.pending=none)(hps0:r0.params=ps)(hra:r0.assign=ca)(hrb:r0.body=cb)
 (h:∀(r r':Loop),wpK P (m+1) ka (zUh (S++[.lp b r N E]) fun env1 _=>wpK P (m+1) kb (zU5 (m+1) (S'++[.lp b r' N E])) env1 (S++[.lp b r' N E])) (v8 (jO E) ps.toList xs) (S++[.lp b r N E])) :
 lG P b xs (S++[.lp b r0 N E]) fun o τ=>o=.ret (.lit (.bool true))/\τ = S'++[.lp b r0 N E]:=by
 intro H L w vs hs hvs;have hlL:L.length=m+1:=by rw[hs.len];simp[hS]
 have hU : (S++[AObj.lp b r0 N E])[m]?=some (.lp b r0 N E):=by rw[<-hS];simp
 have hL:L[m]?=some L[m]:=jA2 (by omega);have hset:∀(T:St) (r r':Loop),T.length=m->(T++[AObj.lp b r N E]).set m (.lp b r' N E)=T++[AObj.lp b r' N E]:=fun T r r' hT=>by rw[<-hT];simp
 obtain⟨tmps,hb,hN,hes,_⟩:=zJj (r':=r0) hs hL hU;have hsz:vs.toArray.size=ps.size:=by rw[jC7,hvs.length,hxs]
 have hy:=run_yield (P:=P) (args:=vs.toArray) hb (by rw[hsz,hps0]);refine⟨_,_,_,_,hy,?_⟩;refine roundIn_of_wpIn (F:=Fence.wide) trivial ?_;have hzip:((r0.params.zip vs.toArray).foldl (fun tmps (x:Tmp×Value)=>tmps.setIfInBounds x.1 x.2) tmps)=(ps.toList.zip vs).foldl (fun t p=>t.setIfInBounds p.1 p.2) tmps:=by rw[hps0,<-Array.foldl_toList];simp
 have he1:qL H L N (v8 (jO E) ps.toList xs) ((r0.params.zip vs.toArray).foldl (fun tmps (x:Tmp×Value)=>tmps.setIfInBounds x.1 x.2) tmps):=by rw[hzip];exact zIa (tmps0:=tmps) (zJu hN hes) hvs hps
 have h0:=h r0 {r0 with state:=.busy};rw[<-hlL]at h0;have wa:=iha _ H L w H L _ w _ {tmps:=(r0.params.zip vs.toArray).foldl (fun tmps (x:Tmp×Value)=>tmps.setIfInBounds x.1 x.2) tmps,defers:=[]} (some b) he1 (Nxt.refl hs) h0;simp only[hra,hrb];refine wpIn_mono wa fun e a1 w1 hp1=>?_
 obtain⟨x,env1,U1,H1,L1,rfl,hm1,he1',hn1,hq1⟩:=hp1;cases x with
 |norm =>
  simp only[zUh]at hq1;obtain⟨rfl,hq1⟩:=hq1;have hlL1:L1.length=m+1:=by rw[hn1.st.len];simp[hS]
  have hL1:L1[m]?=some L1[m]:=jA2 (by omega);obtain⟨tmps1,hb1,hN1,hes1,hnx⟩:=zJj (r':={r0 with state:=.busy}) hn1.st hL1 hU;rw[hset S _ _ hS]at hnx;have hbr:=run_beginRound (P:=P) hb1 (by exact hr);refine⟨_,hbr,?_⟩;have wb:=ihb _ H L w H1 L1 _ _ _ a1 (some b) he1' (hn1.trans hnx) hq1;refine wpIn_mono wb fun e2 a2 w2 hp2=>?_
  obtain⟨x2,env2,U2,H2,L2,rfl,hm2,he2,hn2,hq2⟩:=hp2;cases x2 with
  |norm =>
   simp only[zU5]at hq2;obtain⟨env3,U3,hw,hq3⟩:=hq2;obtain⟨H3,L3,hn3,_⟩:=hw H L w H2 L2 w2 N a2.tmps rfl hn2 he2;subst hq3;have hlL3:L3.length=m+1:=by rw[hn3.st.len];simp[hS']
   have hL3:L3[m]?=some L3[m]:=jA2 (by omega);have hU3:(S'++[AObj.lp b {r0 with state:=.busy} N E])[m]?=some (.lp b {r0 with state:=.busy} N E):=by rw[<-hS'];simp
   obtain⟨tmps3,hb3,_,_,hnx3⟩:=zJj (r':=r0) hn3.st hL3 hU3;rw[hset S' _ _ hS']at hnx3;have her:=run_endRound (P:=P) none hb3;have heq:({state:=if (none:Option Code).isNone=true then LoopState.ready else LoopState.done,pending:=none,fn:=r0.fn,tmps:=tmps3,params:=r0.params,assign:=r0.assign,body:=r0.body,defers:=r0.defers}:Loop)={r0 with tmps:=tmps3}:=by cases r0;simp_all
   refine⟨_,_,her,?_⟩;refine⟨.ret (.lit (.bool true)),_,H3,L3,⟨_,rfl,by simp[Rel]⟩,?_,rfl,rfl⟩;have:=hn3.trans hnx3;simp only[Option.isNone_none,if_true]at heq ⊢;rw[heq];exact this
  |exit id=>exact hq2.elim
  |ret=>exact hq2.elim
  |pan v=>exact hq2.elim
 |exit id=>exact hq1.elim
 |ret=>exact hq1.elim
 |pan v=>exact hq1.elim
variable{U:St}{d:Option (List Deferred)}
theorem zSK(hs:RelSt H L U w){D:Nat}(hD:w.heap[D]?=some (.deferred d))(o':Obj):RelSt H L U (w.putObj D o')/\∀b o v,H b o=some v->b≠D:=by
 have hH:∀b o v,H b o=some v->b≠D:=fun b o v hv e=>by subst e;have:=hs.pers b o v hv;simp[World.cell?,hD]at this
 refine⟨⟨fun b o v hv=>?_,hs.len,fun i l o hL hU=>?_,hs.inj,fun i l b hL hb=>by rw[World.putObj_size];exact hs.lt i l b hL hb⟩,hH⟩
 .have hc:=hs.pers b o v hv;simp only[World.cell?]at hc ⊢;rw[World.putObj_heap_other (hH b o v hv)];exact hc
 .have hob:=hs.obj i l o hL hU;cases o with
  |dead=>trivial
  |box cs =>
   refine hob.carry (fun b hb=>World.putObj_heap_other fun e=>?_) (HLe.refl _) (LLe.refl _) (fun _ _ _=>rfl);subst e;simp only[qB]at hob;obtain⟨_,b',vs,e,h1,h2,_⟩:=hob;rw[hb]at h1;cases h1;rw[hD]at h2;cases h2
  |row fz e sz n cs =>
   refine hob.carry (fun b hb=>World.putObj_heap_other fun e=>?_) (HLe.refl _) (LLe.refl _) (fun _ _ _=>rfl);subst e;simp only[qB]at hob;obtain⟨_,_,_,⟨h1,_⟩|⟨b',cur,h1,h2,_⟩⟩:=hob
   .rw[hb]at h1;cases h1
   .rw[hb]at h1;cases h1;rw[hD]at h2;cases h2
  |lp b' r M es =>
   refine hob.carry (fun b hb=>World.putObj_heap_other fun e=>?_) (HLe.refl _) (LLe.refl _) (fun _ _ _=>rfl);subst e;simp only[qB]at hob;obtain⟨_,h1,tmps,h2,_⟩:=hob;rw[hb]at h1;cases h1;rw[hD]at h2;cases h2
  |mp fr nk es =>
   refine hob.carry (fun b hb=>World.putObj_heap_other fun e=>?_) (HLe.refl _) (LLe.refl _) (fun _ _ _=>rfl);subst e;simp only[qB]at hob;obtain⟨_,b',ents,ck,h1,h2,_⟩:=hob;rw[hb]at h1;cases h1;rw[hD]at h2;cases h2
  |it m n met =>
   refine hob.carry (fun b hb=>World.putObj_heap_other fun e=>?_) (HLe.refl _) (LLe.refl _) (fun _ _ _=>rfl);subst e;simp only[qB]at hob;obtain⟨_,b',mb,lm,h1,_,_,_,h2⟩:=hob;rw[hb]at h1;cases h1;rw[hD]at h2;cases h2
  |rsv=>exact hob
theorem zSZ{H':Mem}{L':wO} {U':St}{w':World}(h:Nxt H L w H' L' U' w'){D:Nat}(hD:w'.heap[D]?=some (.deferred d))(hw:w.heap.size<=D)(o':Obj):Nxt H L w H' L' U' (w'.putObj D o'):=by
 obtain⟨h1,h2⟩:=zSK h.st hD o';refine⟨h1,⟨h.step.os,h.step.tape,h.step.output,by rw[World.putObj_size];exact h.step.size,fun k hk hn=>?_,h.step.hle,h.step.hnew,h.step.drawn,fun k e hk=>?_⟩,h.lle,h.own⟩
 .rw[World.putObj_heap_other (by omega)];exact h.step.keep k hk hn
 .have:=(jDc.1 hk).1;rw[World.putObj_heap_other (by omega)];exact h.step.dfr k e hk
theorem tJ{fn:Func}{tmps:Array Value}{R:Ending->World->Prop}{H H':Mem}{L L':wO} {U':St}{w:World}{u:FrameMode}(hu:u≠.run)
 (hR:∀w',Nxt H L w H' L' U' w'->LeavesIn Fence.wide 0 P fn tmps R [] u w'):∀(Ds:wA) (w':World),Ds.Nodup->(∀D∈Ds,w.heap.size<=D/\w'.heap[D]?=some (.deferred (some [])))->Nxt H L w H' L' U' w' ->
  LeavesInM Fence.wide 0 P fn tmps R (Ds.map zMU) u w'
 |[],w',_,_,hn=>hR w' hn
 |D::Ds,w',hd,h,hn=>by
  rw[jD9]at hd;obtain⟨h1,h2⟩:=h D (jAm ..);refine⟨hu,.inl ⟨D,_,rfl,run_takeDeferred h2,?_⟩⟩;refine tJ hu hR Ds _ hd.2 (fun D' hD'=>?_) (zSZ hn h2 h1 _);have hne:D'≠D:=fun e=>hd.1 (e▸hD')
  rw[World.putObj_heap_other hne];exact h D' (jAk _ hD')
theorem fG{hint:Nat->Option wE}:∀(k:K) (c:Code) (Q:Ex->wK) (H0:Mem) (L0:wO) (w0:World) (dfs:List Deferred) (H:Mem) (L:wO) (U:St) (w:World) (env:Env) (a:Act) (ro:wD),(ro=none\/k.noRng=true)->qK P N hint c=some k.erase ->
 qL H L N env a.tmps->Nxt H0 L0 w0 H L U w->Mk w0 w dfs a.defers->wpK P L0.length k Q env U->c.wpIn (Wr ro) 0 P (zB1 H0 L0 w0 N Q dfs) a w
 | .skip,c,Q,H0,L0,w0,dfs,H,L,U,w,env,a,ro,hro,hc,he,hn,hd,h=>by
  cases c<;>simp only[qK,K.erase]at hc<;>try(cases hc;done)
  case skip=>exact wpIn_skip ⟨.norm,env,U,H,L,rfl,hd,he,hn,h⟩
  all_goals (exfalso;revert hc;(repeat' split)<;>simp_all)
 | .exit id,c,Q,H0,L0,w0,dfs,H,L,U,w,env,a,ro,hro,hc,he,hn,hd,h=>by
  cases c<;>simp only[qK,K.erase]at hc<;>try(cases hc;done)
  case exit id' =>
   simp only[jA3,K.exit.injEq]at hc;subst hc;exact wpIn_exit ⟨.exit id',env,U,H,L,rfl,hd,he,hn,h⟩
  all_goals (exfalso;revert hc;(repeat' split)<;>simp_all)
 | .ret,c,Q,H0,L0,w0,dfs,H,L,U,w,env,a,ro,hro,hc,he,hn,hd,h=>by
  cases c<;>simp only[qK,K.erase]at hc<;>try(cases hc;done)
  case ret=>exact wpIn_ret ⟨.ret,env,U,H,L,rfl,hd,he,hn,h⟩
  all_goals (exfalso;revert hc;(repeat' split)<;>simp_all)
 | .wk b,c,Q,H0,L0,w0,dfs,H,L,U,w,env,a,ro,hro,hc,he,hn,hd,h=>by simp only[wpK]at h;obtain⟨env',U',hw,h⟩:=h;obtain⟨H',L',hn',he'⟩:=hw H0 L0 w0 H L w N a.tmps rfl hn he;exact fG b c Q H0 L0 w0 dfs H' L' U' w env' a ro (by simpa only[K.noRng]using hro) (by simpa only[K.erase]using hc) he' hn' hd h
 | .seq x y,c,Q,H0,L0,w0,dfs,H,L,U,w,env,a,ro,hro,hc,he,hn,hd,h=>by
  have hr1:ro=none\/x.noRng=true:=hro.imp id fun h=>by simp only[K.noRng,jA8]at h;exact h.1
  have hr2:ro=none\/y.noRng=true:=hro.imp id fun h=>by simp only[K.noRng,jA8]at h;exact h.2
  cases c<;>simp only[qK,K.erase]at hc<;>try(cases hc;done)
  case seq c1 c2 =>
   split at hc<;>try(cases hc;done)
   rename_i k1 k2 h1 h2;simp only[jA3,K.seq.injEq]at hc;obtain⟨rfl,rfl⟩:=hc;simp only[wpK]at h;refine wpIn_seq (wpIn_mono (fG x c1 _ H0 L0 w0 dfs H L U w env a ro hr1 h1 he hn hd h) fun e b v hp=>?_);refine hp.then (Q:=Q) (fun env' U' H' L' hk hdf hre hnx=>?_) (fun z env' U' hz hk=>?_) (fun hpq hne=>?_)
   .exact fG y c2 Q H0 L0 w0 dfs H' L' U' v env' b ro hr2 h2 hre hnx hdf hk
   .cases z<;>first|exact(hz rfl).elim|exact hk
   .cases e<;>first|exact(hne rfl).elim|exact hpq
  all_goals (exfalso;revert hc;(repeat' split)<;>simp_all)
 | .cond c' x y,c,Q,H0,L0,w0,dfs,H,L,U,w,env,a,ro,hro,hc,he,hn,hd,h=>by
  have hr1:ro=none\/x.noRng=true:=hro.imp id fun h=>by simp only[K.noRng,jA8]at h;exact h.1
  have hr2:ro=none\/y.noRng=true:=hro.imp id fun h=>by simp only[K.noRng,jA8]at h;exact h.2
  cases c<;>simp only[qK,K.erase]at hc<;>try(cases hc;done)
  case cond c1 a1 b1 =>
   split at hc<;>try(cases hc;done)
   rename_i k1 k2 h1 h2;simp only[jA3,K.cond.injEq]at hc;obtain⟨rfl,rfl,rfl⟩:=hc;simp only[wpK]at h;split at h
   .rename_i t ht;have hr:=qR he c1;rw[ht]at hr;simp only[Rel]at hr;exact wpIn_cond_split hr (fun e=>fG x a1 Q H0 L0 w0 dfs H L U w env a ro hr1 h1 he hn hd (h.1 e)) (fun e=>fG y b1 Q H0 L0 w0 dfs H L U w env a ro hr2 h2 he hn hd (h.2 e))
   .exact h.elim
  all_goals (exfalso;revert hc;(repeat' split)<;>simp_all)
 | .block id x,c,Q,H0,L0,w0,dfs,H,L,U,w,env,a,ro,hro,hc,he,hn,hd,h=>by
  cases c<;>simp only[qK,K.erase]at hc<;>try(cases hc;done)
  case block id' b1 =>
   simp only[jAf,K.block.injEq]at hc;obtain⟨k1,h1,rfl,rfl⟩:=hc;simp only[wpK]at h;refine wpIn_block (wpIn_mono (fG x b1 _ H0 L0 w0 dfs H L U w env a ro (by simpa only[K.noRng]using hro) h1 he hn hd h) fun e b v hp=>?_);obtain⟨z,env',U',H',L',rfl,g2,g3,g4,g5⟩:=hp;cases z with
   |norm=>exact⟨.norm,env',U',H',L',rfl,g2,g3,g4,g5⟩
   |ret=>exact⟨.ret,env',U',H',L',rfl,g2,g3,g4,g5⟩
   |pan v=>exact⟨.pan v,env',U',H',L',rfl,g2,g3,g4,g5⟩
   |exit i =>
    simp only[Ex.exit?,Exit.inBlock];simp only[blk]at g5;split
    .rename_i hi;rw[if_pos hi]at g5;exact⟨.norm,env',U',H',L',rfl,g2,g3,g4,g5⟩
    .rename_i hi;rw[if_neg hi]at g5;exact⟨.exit i,env',U',H',L',rfl,g2,g3,g4,g5⟩
  all_goals (exfalso;revert hc;(repeat' split)<;>simp_all)
 | .loop x,c,Q,H0,L0,w0,dfs,H,L,U,w,env,a,ro,hro,hc,he,hn,hd,h=>by
  cases c<;>simp only[qK,K.erase]at hc<;>try(cases hc;done)
  case loop b1 =>
   simp only[jAf,K.loop.injEq]at hc;obtain⟨k1,h1,rfl⟩:=hc;simp only[wpK,zJD]at h;obtain⟨I,⟨n,hI⟩,hround⟩:=h;let J:Nat->Act->World->Prop:=fun n a w=>∃env U H L,Mk w0 w dfs a.defers/\qL H L N env a.tmps/\Nxt H0 L0 w0 H L U w/\I n env U
   have take:∀(n:Nat) (H:Mem) (L:wO) (U:St) (w:World) (env:Env) (a:Act),qL H L N env a.tmps->Nxt H0 L0 w0 H L U w->Mk w0 w dfs a.defers->Wk L0.length (I n) env U->J n a w:=by intro n H L U w env a he hn hd hI;obtain⟨env',U',hw,hI⟩:=hI;obtain⟨H',L',g1,g2⟩:=hw H0 L0 w0 H L w N a.tmps rfl hn he;exact⟨env',U',H',L',hd,g2,g1,hI⟩
   refine zLO J n (take n H L U w env a he hn hd hI) ?_;rintro n a w ⟨env,U,H,L,hd,he,hn,hI⟩;refine wpIn_mono (fG x b1 _ H0 L0 w0 dfs H L U w env a ro (by simpa only[K.noRng]using hro) h1 he hn hd (hround n env U hI)) fun e b v hp=>?_
   obtain⟨z,env',U',H',L',rfl,g2,g3,g4,g5⟩:=hp;cases z with
   |norm =>
    obtain⟨m,hm,hw⟩:=g5;exact⟨m,hm,take m H' L' U' v env' b g3 g4 g2 hw⟩
   |ret=>exact⟨.ret,env',U',H',L',rfl,g2,g3,g4,g5⟩
   |pan v=>exact⟨.pan v,env',U',H',L',rfl,g2,g3,g4,g5⟩
   |exit i=>exact⟨.exit i,env',U',H',L',rfl,g2,g3,g4,g5⟩
  all_goals (exfalso;revert hc;(repeat' split)<;>simp_all)
 | .ops l,c,Q,H0,L0,w0,dfs,H,L,U,w,env,a,ro,hro,hc,he,hn,hd,h=>by
  cases c<;>simp only[qK,K.erase]at hc<;>try(cases hc;done)
  case region id ops draw =>
   split at hc<;>try(cases hc;done)
   rename_i l' hl;split at hc
   .revert hc;(repeat' split)<;>simp
   .rename_i hdr;simp only[jA3,K.ops.injEq]at hc;subst hc;simp only[jCc]at hdr;subst hdr;simp only[wpK]at h;have hall:∀o∈ops.toList,∀x,o.dst=some x->x<N:=by
     obtain⟨hlen,hget⟩:=iQ hl;intro o ho;obtain⟨i,hi⟩:=jCv ho;have hlt:i<(l.map KG.erase).length:=by rw[hlen];exact(jA5.1 hi).1
     exact(y9 (hget i o _ hi (jA2 hlt))).2.1
    refine wpIn_region_list (xR (Q:=Q) (dfs:=a.defers) hall ops.toList l (zFj hl) he hn.st rfl h fun e b v hp=>?_);exact hp.next hn hd
  all_goals (exfalso;revert hc;(repeat' split)<;>simp_all)
 | .dops l,c,Q,H0,L0,w0,dfs,H,L,U,w,env,a,ro,hro,hc,he,hn,hd,h=>by
  cases c<;>simp only[qK,K.erase]at hc<;>try(cases hc;done)
  case region id ops draw =>
   split at hc<;>try(cases hc;done)
   rename_i l' hl;split at hc
   .rename_i hdr;split at hc<;>try(cases hc;done)
    rename_i r hr;split at hc<;>try(cases hc;done)
    rename_i hb;simp only[jA8]at hb;simp only[jA3,K.dops.injEq]at hc;subst hc;subst hdr;simp only[wpK]at h;have hmem:∀x∈r,∃g,l'[x.1]?=some g/\x.2.2.erase=g.erase:=fun x hx=>by
     split at hr
     .exact zDn hr hx
     .cases hr;exact⟨_,zDX hx,rfl⟩
    exact zQI (Q:=Q) (dfs:=a.defers) hb.1.2 hb.1.1 hb.2 hl hmem he hn.st rfl h fun e b v hp=>hp.next hn hd
   .cases hc
  all_goals (exfalso;revert hc;(repeat' split)<;>simp_all)
 | .rng f ps ka kb,c,Q,H0,L0,w0,dfs,H,L,U,w,env,a,ro,hro,hc,he,hn,hd,h=>by
  have hro':ro=none:=hro.resolve_right (by simp[K.noRng]);subst hro';cases c<;>simp only[qK,K.erase]at hc<;>try(cases hc;done)
  case rangeFunc g qs ca cb =>
   split at hc<;>try(cases hc;done)
   rename_i k1 k2 h1 h2;split at hc<;>try(cases hc;done)
   rename_i hb;simp only[jA8]at hb;obtain⟨⟨hb1,hb2⟩,hb3⟩:=hb;simp only[jA3,K.rng.injEq]at hc;obtain⟨rfl,rfl,rfl,rfl⟩:=hc;have hps:∀p∈qs.toList,p<N:=fun p hp=>by
    rw[Array.all_eq_true']at hb3;have:=hb3 p (by simpa using hp)
    simpa using this
   simp only[wpK,zXW]at h;obtain⟨E,m,X,T,gf,first,cap,hf,hcb,hit,hweak,hnm,hT,hE,hX,hround,hdone⟩:=h;obtain⟨H1,L1,hn1,he1⟩:=hweak H0 L0 w0 H L w N a.tmps rfl hn he;have hfr:=qR he1 g;rw[hf]at hfr;simp only[Rel]at hfr;obtain⟨fs,cs,hfv,hr1,hr2⟩:=hfr;have hes:uW H1 L1 E a.tmps:=fun p hp=>by have:=he1.2 p.1;rw[(hE p hp).2]at this;exact this
   refine wpIn_rangeFunc ?_;intro fn _;have hnd:=zV3 hn1.st (some []);have hrec:∃r0:Loop,r0={state:=.ready,pending:=none,fn,tmps:=a.tmps,params:=qs,assign:=ca,body:=cb,defers:=w.heap.size}:=⟨_,rfl⟩;obtain⟨r0,hr0⟩:=hrec;have hnl:=zQm (M:=N) (r:=r0) (es:=E) hnd.st (by rw[hr0];exact he.1) (by rw[hr0];exact hes);have hsz:(w.alloc (.deferred (some []))).heap.size=w.heap.size+1:=by simp
   rw[hsz]at hnl;have hnx:=hnd.trans hnl;have hm0:(T 0).length=m:=(hT 0 (jB0 _)).1;have hT':∀i,i<=X.length->(T i++[AObj.lp (w.heap.size+1) r0 N E]).length=m+1/\∀o∈T i++[AObj.lp (w.heap.size+1) r0 N E],o.bnd (m+1)=true:=fun i hi=>by
    refine⟨by simp[(hT i hi).1],fun o ho=>?_⟩;rcases jA6.1 ho with ho|ho
    .exact AObj.bnd_mono (jCf m) _ ((hT i hi).2 o ho)
    .simp only[jAi]at ho;subst ho;simp only[AObj.bnd,jB3];exact fun p hp=>A.bnd_mono (jCf m) _ (hE p hp).1
   have iha:∀(Q:Ex->wK) (H0:Mem) (L0:wO) (w0:World) (H:Mem) (L:wO) (U:St) (w:World) (env:Env) (a:Act) (ro:wD),qL H L N env a.tmps->Nxt H0 L0 w0 H L U w->wpK P L0.length ka Q env U->ca.wpIn (Wr ro) 0 P (zB1 H0 L0 w0 N Q a.defers) a w :=
    fun Q H0 L0 w0 H L U w env a ro h3 h4 h5=>fG ka ca Q H0 L0 w0 a.defers H L U w env a ro (.inr (by rw[<-c9];exact hb1)) h1 h3 h4 (Mk.refl _ _ _) h5
   have ihb:∀(Q:Ex->wK) (H0:Mem) (L0:wO) (w0:World) (H:Mem) (L:wO) (U:St) (w:World) (env:Env) (a:Act) (ro:wD),qL H L N env a.tmps->Nxt H0 L0 w0 H L U w->wpK P L0.length kb Q env U->cb.wpIn (Wr ro) 0 P (zB1 H0 L0 w0 N Q a.defers) a w :=
    fun Q H0 L0 w0 H L U w env a ro h3 h4 h5=>fG kb cb Q H0 L0 w0 a.defers H L U w env a ro (.inr (by rw[<-c9];exact hb2)) h2 h3 h4 (Mk.refl _ _ _) h5
   have hcall:=hit (w.heap.size+1) (m+1) (fun i=>T i++[AObj.lp (w.heap.size+1) r0 N E]) hT' (fun i hi=>by refine zTl h1 h2 hps iha ihb (by have:=hX X[i] (jA0 hi);simpa using this) (hT i (Nat.le_of_lt hi)).1 (hT (i+1) hi).1 (by rw[hr0]) (by rw[hr0]) (by rw[hr0]) (by rw[hr0]) (by rw[hr0]) (fun r r'=>hround i hi _ N r r'))
   have hargs:qE H1 (L1++[(⟨some (w.heap.size+1),0,0,false⟩:LI)]) (first++[yv (w.heap.size+1)]++cap) (fs++[Value.func (.yield (w.heap.size+1)) #[] #[]]++cs) :=
    ((qE.mono (HLe.refl _) hnl.lle _ hr1).append (qN (by simp[yv,Rel]) jR)).append (qE.mono (HLe.refl _) hnl.lle _ hr2)
   have hcalls:=hcall H1 _ _ _ hnx.st hargs;have hcb':=hcb;unfold zA at hcb';split at hcb'<;>try(cases hcb';done)
   rename_i fnd hfnd;simp only[jA8,jC3,beq_eq_false_iff_ne,ne_eq]at hcb';have hbn:fnd.body.isNone=false:=by cases hb:fnd.body<;>simp_all
   have henter:∀(args:Array Value) (w:World),(callFunc gf args).run P w=.ok (.enter gf args) w:=fun args w=>by simp only[callFunc,Sem.run_bind,run_program,Result.andThen_ok,hfnd,beq_iff_eq,if_neg hcb'.2,hbn,jAg,if_false,Sem.run_pure]
   refine⟨w.heap.size+1,[zMU w.heap.size],(w.alloc (.deferred (some []))).alloc (.loop r0),{target:=.fn (.func gf) cs.toArray,args:=fs.toArray++#[.func (.yield (w.heap.size+1)) #[] #[]]},(w.alloc (.deferred (some []))).alloc (.loop r0),gf,
    (fs++[Value.func (.yield (w.heap.size+1)) #[] #[]]++cs).toArray,(w.alloc (.deferred (some []))).alloc (.loop r0),?_,?_,fun _ _=>trivial,?_,fun hh=>by simp[Wr,Fence.wide]at hh,?_⟩
   .rw[hr0];exact run_enterLoop_outer _ _ _ _ _
   .simp[resolve,hfv,Deferred.ofValue];rfl
   .simp only[invoke];rw[henter]
    congr 2
    apply jC9;simp
   .refine(zRF (r:=none)).2 (hcalls.mono fun e w2 hh=>?_);obtain⟨o,τ,H2,L2,ho,hn2,⟨rr,rfl⟩,rfl⟩:=hh;obtain⟨v,rfl,_⟩:=ho;have hl2:L2.length=m+1:=by rw[hn2.st.len];simp[(hT X.length (jA _)).1]
    have hL2:L2[m]?=some L2[m]:=jA2 (by omega);have hU2:(T X.length++[AObj.lp (w.heap.size+1) r0 N E])[m]?=some (.lp (w.heap.size+1) r0 N E):=by rw[<-(hT X.length (jA _)).1];simp
    obtain⟨tmps2,hb2',_,_,hnx2⟩:=zJj (r':={r0 with state:=.exhausted}) hn2.st hL2 hU2;have hend:=run_endLoop (P:=P) hb2' (by rw[hr0];simp);have hpn:r0.pending=none:=by rw[hr0]
    have hend':(Instr.endLoop (w.heap.size+1)).run P w2=.ok none (w2.putObj (w.heap.size+1) (.loop {{r0 with state:=.exhausted} with tmps:=tmps2})):=by rw[hend];show Result.ok r0.pending _=_;rw[hpn]
    refine⟨none,_,hend',?_⟩;have hset:(T X.length++[AObj.lp (w.heap.size+1) r0 N E]).set m (.lp (w.heap.size+1) {r0 with state:=.exhausted} N E)=T X.length++[AObj.lp (w.heap.size+1) {r0 with state:=.exhausted} N E]:=by rw[<-(hT X.length (jA _)).1];simp
    rw[hset]at hnx2;have htail:=hnx.trans (hn2.trans hnx2);have hall:=hn1.trans htail;obtain⟨L3,hn3,hcut⟩:=zO0 (by rw[(hT X.length (jA _)).1];exact hnm) (by rw[(hT X.length (jA _)).1];exact(hT X.length (jA _)).2) hall;refine⟨.norm,jO E,T X.length,H2,L3,rfl,?_,⟨he1.1,fun t=>?_⟩,hn3,hdone⟩
    .refine hd.trans hn1.step.size htail.step.dfr ⟨[w.heap.size],rfl,by simp,fun D hD=>?_⟩;simp only[jAi]at hD;subst hD;refine⟨jA _,(hnl.trans (hn2.trans hnx2)).step.dfr _ _ (World.alloc_heap_new _ _)⟩
    .rcases oB E t with hm|hm
     .rw[hm];simp[Rel]
     .exact hcut _ _ (by rw[(hT X.length (jA _)).1];exact(hE _ hm).1) (Rel.mono htail.step.hle htail.lle _ (he1.2 t))
  all_goals (exfalso;revert hc;(repeat' split)<;>simp_all)
def mB(args:wF):Env:=fun t=>args.getD t (.lit undef)
inductive RS where
 |slot (t:Nat)
 |cell (a n:Nat) (agg:Bool)
def zJ0(P:Program):ResultVar->Option RS
 | .tmp t=>some (.slot t)
 | .cell a t=>match P.underlying t,P.info? t with
  |some u,some i=>some (.cell a i.size (zB5 u))
  |_,_=>none
def gK(P:Program):List ResultVar->Option (List RS)
 |[]=>some []
 |r::rest=>match zJ0 P r,gK P rest with
  |some x,some xs=>some (x::xs)
  |_,_=>none
def pS(env:Env) (U:St):RS->Option A
 | .slot t=>some (env t)
 | .cell a n agg=>(ldA U n (env a)).bind (gO agg)
def dC(env:Env) (U:St):List RS->Option wF
 |[]=>some []
 |r::rs=>match pS env U r,dC env U rs with
  |some x,some xs=>some (x::xs)
  |_,_=>none
def zQu(env:Env) (U:St)(rs:List RS):Option A :=
 match dC env U rs with
 |some [x]=>some x
 |some xs=>some (.tup xs)
 |none=>none
def zBl(tmps:Array Value):ResultVar->Sem Value
 | .tmp t=>pure (tmps.getD t undef)
 | .cell a t=>do loadVar t (<-asAddr (tmps.getD a undef))
theorem zNq(fn:Func)(tmps:Array Value):results fn tmps=(do let vs <-fn.results.mapM (zBl tmps);pure (if h:vs.size=1 then vs[0]else .tuple vs)):=by
 have hfun:(fun x=>match x with
  |ResultVar.tmp t=>(pure (tmps.getD t undef):Sem Value)
  |ResultVar.cell a t=>do loadVar t (<-asAddr (tmps.getD a undef)))=zBl tmps:=by
  funext r;cases r<;>rfl
 unfold results;rw[<-hfun];rfl
theorem zNp{env:Env}{tmps:Array Value}(he:qL H L N env tmps)(hs:RelSt H L U w){r:ResultVar}{x:RS}{a:A}(hx:zJ0 P r=some x)
 (ha:pS env U x=some a):∃v,(zBl tmps r).run P w=.ok v w/\Rel H L a v:=by
 cases r with
 |tmp t =>
  simp only[zJ0,jA3]at hx;subst hx;simp only[pS,jA3]at ha;subst ha;exact⟨_,by simp[zBl],he.2 t⟩
 |cell c t =>
  simp only[zJ0]at hx;split at hx<;>try(cases hx;done)
  rename_i u i hu hi;cases hx;simp only[pS,jAa]at ha;obtain⟨cs,h1,h2⟩:=ha;obtain⟨b,off,us,hv,hr,hl,ho1,hc⟩:=zHK hs (he.2 c) h1;obtain⟨v,hrun,hrel⟩:=zEr (P:=P) (w:=w) hu hi hc hl hr ho1 h2;exact⟨v,by simp only[zBl,hv,asAddr,Sem.run_bind,Sem.run_pure,Result.andThen_ok,hrun],hrel⟩
variable{fn:Func}{rs:List RS}
theorem xD(hr:gK P fn.results.toList=some rs) {env:Env}{tmps:Array Value}(he:qL H L N env tmps)(hs:RelSt H L U w){a:A}
 (ha:zQu env U rs=some a):∃v,(results fn tmps).run P w=.ok v w/\Rel H L a v:=by
 have key:∀(l:List ResultVar) (rs:List RS) (aS:wF),gK P l=some rs->dC env U rs=some aS->∃vs:wM,(l.mapM (zBl tmps)).run P w=.ok vs w/\qE H L aS vs:=by
  intro l;induction l with
  |nil =>
   intro rs aS h1 h2;simp only[gK,jA3]at h1;subst h1;simp only[dC,jA3]at h2;subst h2;exact⟨[],by simp,jR⟩
  |cons r l ih =>
   intro rs aS h1 h2;simp only[gK]at h1;split at h1<;>try(cases h1;done)
   rename_i x xs hx hxs;cases h1;simp only[dC]at h2;split at h2<;>try(cases h2;done)
   rename_i a' aS' ha' has';cases h2;obtain⟨v,hv1,hv2⟩:=zNp (P:=P) (w:=w) he hs hx ha';obtain⟨vs,hvs1,hvs2⟩:=ih xs aS' hxs has';exact⟨v::vs,by rw[jDi];simp only[Sem.run_bind,hv1,Result.andThen_ok,hvs1,Sem.run_pure],qN hv2 hvs2⟩
 unfold zQu at ha;cases hl:dC env U rs with
 |none=>rw[hl]at ha;cases ha
 |some aS =>
  obtain⟨vs,hv1,hv2⟩:=key _ rs aS hr hl;have hm:(fn.results.mapM (zBl tmps)).run P w=.ok vs.toArray w:=by rw[show fn.results=fn.results.toList.toArray from by simp,List.mapM_toArray];simp only[Sem.run_map,hv1,Result.andThen_ok]
  rw[zNq];simp only[Sem.run_bind,hm,Result.andThen_ok,Sem.run_pure];refine⟨_,rfl,?_⟩;rw[hl]at ha;cases aS with
  |nil =>
   have:=jL hv2;subst this;cases ha;simp[Rel,qE]
  |cons x xs =>
   obtain⟨u,us,rfl,g1,g2⟩:=z8 hv2;cases xs with
   |nil =>
    have:=jL g2;subst this;cases ha
    simpa using g1
   |cons y ys =>
    obtain⟨u',us',rfl,g3,g4⟩:=z8 g2;cases ha;rw[dif_neg (by simp)];simp only[Rel];exact⟨_,rfl,hv2⟩
theorem zDA{args:wF}{vs:wM}(h:qE H L args vs)(n:Nat) :
 qL H L n (mB args) (vs.toArray++Array.replicate (n-vs.toArray.size) undef):=by
 refine⟨by simp;omega,fun t=>?_⟩;have hl:=h.length;unfold mB;rcases jB2 t args.length with ht|ht
 .obtain⟨v,hv,hr⟩:=h.get (jA2 ht);have e1:args.getD t (.lit undef)=args[t]:=by simp[List.getD,ht]
  have htv:t<vs.length:=by omega
  have e2:(vs.toArray++Array.replicate (n-vs.toArray.size) undef).getD t undef=v:=by
   have:vs[t]=v:=by simpa[htv]using hv
   rw[jDw,jDt (by simpa using htv)];simp[htv,this]
  rw[e1,e2];exact hr
 .have e1:args.getD t (.lit undef)=.lit undef:=by simp[List.getD,jBf ht]
  have e2:(vs.toArray++Array.replicate (n-vs.toArray.size) undef).getD t undef=undef:=by
   have htv:¬t<vs.length:=by omega
   rw[jDw,Array.getElem?_append_right (by simpa using htv),Array.getElem?_replicate];split<;>rfl
  rw[e1,e2];simp[Rel]
def zGo(rs:List RS)(Q:Out->St->Prop)(env:Env) (U:St):Prop:=match zQu env U rs with
 |some r=>Q (.ret r) U
 |none=>False
def fin(rs:List RS)(Q:Out->St->Prop):Ex->wK
 | .norm=>zGo rs Q
 | .ret=>zGo rs Q
 | .pan v=>fun _ U=>Q (.pan v) U
 | .exit _=>fun _ _=>False
noncomputable def wpF(P:Program) (k:K) (rs:List RS) (args:wF) (U:St) (Q:Out->St->Prop):Prop:=wpK P U.length k (fin rs Q) (mB args) U
variable{Q:Out->St->Prop}{f:FuncId}
theorem nF{k:K}(hf:P.funcs[f]?=some fn)(hb:fn.body=some c)(hc:qK P fn.ntmps hint c=some k.erase)(hr:gK P fn.results.toList=some rs)
 {args:wF} (h:wpF P k rs args U Q):aK P f args U Q:=by
 intro H L w vs hs ha;unfold wpF at h;rw[<-hs.len]at h;refine callsIn_wide.1 (callsIn_of_wp_marks (n:=0) (F:=Fence.wide) hf hb trivial (wpIn_mono (fG k c _ H L w [] H L U w _ _ none (.inl rfl) hc (zDA ha fn.ntmps) (Nxt.refl hs) (Mk.refl _ _ _) h) fun e a' w' hp=>?_));obtain⟨x,env',U',H',L',rfl,⟨Ds,g2,gd,gm⟩,g3,g4,g5⟩:=hp;simp only[jAt]at g2;have ret:zGo rs Q env' U'->bodyPostM Fence.wide 0 P fn (fun e w'=>∃o U' H' L',zAC H' L' o e/\Nxt H L w H' L' U' w'/\Q o U') .ret a' w':=by
  intro h;unfold zGo at h;split at h
  .rename_i r hres;simp only[bodyPostM];rw[g2];refine tJ (u:=.returning) (by simp) (fun w'' hn=>?_) Ds w' gd gm g4;obtain⟨v,hv1,hv2⟩:=xD (P:=P) (w:=w'') hr g3 hn.st hres;exact⟨v,hv1,.ret _,U',H',L',⟨v,rfl,hv2⟩,hn,h⟩
  .exact h.elim
 cases x with
 |norm=>exact ret g5
 |ret=>exact ret g5
 |pan v =>
  simp only[Ex.exit?,bodyPostM];rw[g2];refine tJ (u:=.panicking _) (by simp) (fun w'' hn=>?_) Ds w' gd gm g4;simp only[LeavesIn];exact⟨.pan v,U',H',L',rfl,hn,g5⟩
 |exit i=>exact g5.elim
theorem u5{k:K}(hf:P.funcs[f]?=some fn)(hb:fn.body=some c)(hc:zP P fn.ntmps c=some k.erase)(hr:gK P fn.results.toList=some rs)
 {args:wF} (h:wpF P k rs args U Q):aK P f args U Q:=nF (hint:=z7) hf hb hc hr h
end
end Go.Abs
namespace Go.Abs
section
variable{P:Program}{H:Mem}{L L':wO}
theorem fU.cut{n0:Nat}{env:Env} {U τ:St}(l:List (Nat×A))(hn:n0<=U.length)(hl:∀p∈l,env p.1=p.2)(hb:∀p∈l,p.2.bnd U.length=true)(ho:∀o∈U,o.bnd U.length=true) :
 fU n0 (jO l) U env (U++τ):=by
 intro H0 L0 w0 H L w N tmps h0 h1 h2;obtain⟨L',k1,k2⟩:=zO0 (by omega) ho h1;refine⟨H,L',k1,h2.1,fun t=>?_⟩;rcases oB l t with h|h
 .rw[h];simp[Rel]
 .have:=h2.2 t;rw[hl _ h]at this;exact k2 _ _ (hb _ h) this
mutual
def nrm0:A->A
 | .nil=>.sl 0 []
 | .fsl n cs=>.sl n (jV cs)
 | .sl n cs=>.sl n (jV cs)
 | .agg cs=>.agg (jV cs)
 | .tup cs=>.tup (jV cs)
 | .rptr cs=>.rptr (jV cs)
 | .clo f fs cs=>.clo f (jV fs) (jV cs)
 | .any=>.any
 | .lit v=>.lit v
 | .ptr l o=>.ptr l o
 | .row l n=>.row l n
 | .rwp l n o=>.rwp l n o
 | .map l=>.map l
 | .win l n o k c=>.win l n o k c
def jV:List A->wF
 |[]=>[]
 |c::cs=>nrm0 c::jV cs
end
mutual
theorem Rel.nrm0:∀(a:A) {v:Value},Rel H L a v->Rel H L (nrm0 a) v
 | .nil,v,h=>by simp only[Rel,Abs.nrm0]at h⊢;exact⟨none,0,h,jA _,jB0 _,.inl (by simp)⟩
 | .fsl n cs,v,h=>by
  simp only[Rel,Abs.nrm0]at h⊢;obtain⟨a,rfl,h1,h3⟩:=h;refine⟨a,n,rfl,jA _,h1,?_⟩;rcases h3 with ⟨h3,rfl⟩|⟨b,o,us,rfl,h4,h5,h6⟩
  .exact .inl ⟨h3,by simp[jV]⟩
  .exact .inr ⟨b,o,us,rfl,qE.nrm0 cs h4,h5,h6⟩
 | .sl n cs,v,h=>by
  simp only[Rel,Abs.nrm0]at h⊢;obtain⟨a,cap,rfl,h1,h2,h3⟩:=h;refine⟨a,cap,rfl,h1,h2,?_⟩;rcases h3 with ⟨h3,rfl⟩|⟨b,o,us,rfl,h4,h5,h6⟩
  .exact .inl ⟨h3,by simp[jV]⟩
  .exact .inr ⟨b,o,us,rfl,qE.nrm0 cs h4,h5,h6⟩
 | .agg cs,v,h=>by simp only[Rel,Abs.nrm0]at h⊢;obtain⟨vs,rfl,h1,h2⟩:=h;exact⟨vs,rfl,qE.nrm0 cs h1,h2⟩
 | .tup cs,v,h=>by simp only[Rel,Abs.nrm0]at h⊢;obtain⟨vs,rfl,h1⟩:=h;exact⟨vs,rfl,qE.nrm0 cs h1⟩
 | .rptr cs,v,h=>by simp only[Rel,Abs.nrm0]at h⊢;obtain⟨b,o,us,rfl,h4,h5,h6⟩:=h;exact⟨b,o,us,rfl,qE.nrm0 cs h4,h5,h6⟩
 | .clo f first cap,v,h=>by simp only[Rel,Abs.nrm0]at h⊢;obtain⟨fs,cs,rfl,h1,h2⟩:=h;exact⟨fs,cs,rfl,qE.nrm0 first h1,qE.nrm0 cap h2⟩
 | .any,_,h=>h
 | .lit _,_,h=>h
 | .ptr _ _,_,h=>h
 | .row _ _,_,h=>h
 | .rwp _ _ _,_,h=>h
 | .map _,_,h=>h
 | .win _ _ _ _ _,_,h=>h
theorem qE.nrm0:∀(cs:wF) {vs:wM},qE H L cs vs->qE H L (jV cs) vs
 |[],vs,h=>by simpa[qE,jV]using h
 |c::cs,vs,h=>by simp only[qE,jV]at h⊢;obtain⟨u,us,rfl,h1,h2⟩:=h;exact⟨u,us,rfl,Rel.nrm0 c h1,qE.nrm0 cs h2⟩
end
mutual
def nrm(U:St):A->A
 | .row l n=>match U[l]? with
  |some (.row _ _ _ m cs)=>if n=m then .sl n (jV cs)else .row l n
  |_=>.row l n
 | .nil=>.sl 0 []
 | .fsl n cs=>.sl n (zKW U cs)
 | .sl n cs=>.sl n (zKW U cs)
 | .agg cs=>.agg (zKW U cs)
 | .tup cs=>.tup (zKW U cs)
 | .rptr cs=>.rptr (zKW U cs)
 | .clo f fs cs=>.clo f (zKW U fs) (zKW U cs)
 | .any=>.any
 | .lit v=>.lit v
 | .ptr l o=>.ptr l o
 | .rwp l n o=>.rwp l n o
 | .map l=>.map l
 | .win l n o k c=>.win l n o k c
def zKW(U:St):List A->wF
 |[]=>[]
 |c::cs=>nrm U c::zKW U cs
end
end
end Go.Abs
namespace Go.Abs
open Go
def klS(P:Program)(fs:List Field):List SK:=fs.flatMap fun f=>match xG P f.type with
 |some k=>[k]
 |none=>match P.underlying f.type with
  |some (.struct gs)=>gs.toList.map fun g=>(xG P g.type).getD .i
  |_=>[]
def klO(P:Program)(o:Oper):KOp:=match o.op with
 | .binOp .eql t x y _=>match xG P t,P.underlying t with
  |none,some (.struct fs)=>.eqs o.dst false (klS P fs.toList) x y
  |_,_=>(aB P o).getD default
 | .binOp .neq t x y _=>match xG P t,P.underlying t with
  |none,some (.struct fs)=>.eqs o.dst true (klS P fs.toList) x y
  |_,_=>(aB P o).getD default
 |_=>(aB P o).getD default
def klG(P:Program)(ops:Array Oper)(o:Oper):KG:=⟨match o.guard with
 |none=>none
 |some (j,w)=>((ops[j]?).bind (·.dst)).map fun s=>(s,w),match o.op with
 | .call c=>match c.callee with
  | .value f=>.call o.dst f c.args.toList
  |_=>(aB P o).getD default
 |_=>klO P o⟩
def klR(gs:List KG):List (Nat×Nat)->List (Nat×Nat×KG)
 |[]=>[]
 |(k,f)::l=>match gs[k]? with
  |some g=>(k,f,zNN f g)::klR gs l
  |none=>klR gs l
def klN(l:wA):Nat->List KG->List (Nat×Nat×KG)
 |_,[]=>[]
 |k,g::r=>(k,if l.contains k then 1 else 0,g)::klN l (k+1) r
def rF(P:Program)(h:Nat->Option wE)(e:List (Nat×wA)):Code->K
 | .seq a b=>.seq (rF P h e a) (rF P h e b)
 | .cond c a b=>.cond c (rF P h e a) (rF P h e b)
 | .block i a=>.block i (rF P h e a)
 | .loop a=>.loop (rF P h e a)
 | .exit i=>.exit i
 | .ret=>.ret
 | .region i ops d=>if d then .dops (match h i with
  |some l=>klR (ops.toList.map (klG P ops)) l
  |none=>klN ((e.lookup i).getD []) 0 (ops.toList.map (klG P ops)))else .ops (ops.toList.map (klG P ops))
 | .rangeFunc f ps a b=>.rng f ps.toList (rF P h e a) (rF P h e b)
 |_=>.skip
noncomputable def zV(P:Program) (f:Func) (h:Nat->Option wE) (e:List (Nat×wA)):K:=rF P h e (f.body.getD .skip)
def K.fst:K->wD
 | .ops (g::_)=>g.op.dst
 | .dops (x::_)=>x.2.2.op.dst
 |_=>none
def brO(b:wA):KOp->KOp
 | .bslice (some d) e sz n zero parts=>if b.contains d then .brow (some d) e sz n zero parts else .bslice (some d) e sz n zero parts
 |o=>o
def K.chg(w b:wA):K->K
 | .seq x y=>.seq (x.chg w b) (y.chg w b)
 | .cond c x y=>.cond c (x.chg w b) (y.chg w b)
 | .block i x=>.block i (x.chg w b)
 | .loop x=>.loop (x.chg w b)
 | .rng f ps x y=>.rng f ps (x.chg w b) (y.chg w b)
 | .ops l=>match (K.ops l).fst with
  |some d=>if w.contains d then .wk (.ops (l.map fun g=>⟨g.guard,brO b g.op⟩))else .ops (l.map fun g=>⟨g.guard,brO b g.op⟩)
  |none=>.ops (l.map fun g=>⟨g.guard,brO b g.op⟩)
 | .dops l=>match (K.dops l).fst with
  |some d=>if w.contains d then .wk (.dops l)else .dops l
  |none=>.dops l
 |k=>k
end Go.Abs
namespace Go.Abs
section
variable{P:Program}{H:Mem}{L:wO} {U:St}{w:World}
def qFT(L:wO) (U:St)(b o:Nat):Prop:=∃(i:Nat) (li:LI) (fz:Bool) (e:TypeId) (sz n:Nat) (cs:wF),L[i]?=some li/\U[i]?=some (AObj.row fz e sz n cs)/\li.block=some b/\o<n*sz
open Classical in
noncomputable def qFA(H:Mem) (L:wO) (U:St) (w:World):Mem:=⟨fun b o=>match H b o with
 |some v=>some v
 |none=>if qFT L U b o then w.cell? ⟨b,o,none⟩ else none,fun b o v h=>by simp only[H.2 b o v h]⟩
open Classical in
theorem aK.mono{f:FuncId}{args:wF}{Q Q':Out->St->Prop}(h:aK P f args U Q)(hq:∀o U',Q o U'->Q' o U'):aK P f args U Q':=fun H L w vs h1 h2 =>
 (h H L w vs h1 h2).mono fun _ _ ⟨o,U',H',L',g1,g2,g3⟩=>⟨o,U',H',L',g1,g2,hq _ _ g3⟩
end
end Go.Abs
