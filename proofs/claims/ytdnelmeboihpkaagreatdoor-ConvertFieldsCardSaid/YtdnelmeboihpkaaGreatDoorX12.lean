/-
  Regions in order: the deferred calls stay as they are.
  Values as data: their cells; size, depth and order.
  slices.Compact at lists of IDs.
  value.SameType, trace.sameDef, trace.sameNode, trace.bodied.
  Numbers of the reference's evaluator: clip, truth.
  The reference's environments: With, Find.
  value.Size and trace.deep.
  value.small: true at small values.
  trace.set, Join and Asks; the law's lists of IDs.
  The maker of programs: its state, its small functions.
  eval: environments, and the depth of a value.
  The law's lists of IDs; the law TraceJoins.
  trace.read: the first definition and the first node of each ID.
  The maker's functions without recursion.
  trace.differ: the IDs that only one of two maps has, or whose things differ; in some order.
-/
import Derived.Test.YtdnelmeboihpkaaGreatDoorX11
import Derived.Test.YtdnelmeboihpkaaGreatDoorX9
set_option linter.unusedVariables false
set_option maxHeartbeats 8000000
set_option maxRecDepth 100000
set_option linter.unusedSimpArgs false
open Go.Proofs.Tryz (prog)
namespace Go.Abs
section
variable {P:Program}{n0:Nat}
def zGP (H:Mem)(L:List LI)(w:World)(N:Nat)(Q:Ex→Env→St→Prop)(dfs:List Deferred):Exit→Act→World→Prop:=fun e a' w' =>
 ∃x env' σ' H' L',e=x.exit?∧a'.defers=dfs∧zY H' L' N env' a'.tmps∧Nxt H L w H' L' σ' w'∧Q x env' σ'
theorem zGP.next {N:Nat}{w:World}{H:Mem}{L:List LI}{H':Mem}{L':List LI} {σ':St}{w':World}{Q:Ex→Env→St→Prop}{dfs:List Deferred}(hn:Nxt H L w H' L' σ' w'){e:Exit}{b:Act}{v:World}(h:zGP H' L' w' N Q dfs e b v):zGP H L w N Q dfs e b v:=by obtain⟨x,env'',σ'',H'',L'',h1,h2,h3,h4,h5⟩:=h;exact⟨x,env'',σ'',H'',L'',h1,h2,h3,hn.trans h4,h5⟩
theorem zGP.post {N:Nat}{w:World}{H:Mem}{L:List LI}{Q:Ex→Env→St→Prop}{dfs:List Deferred}{e:Exit}{b:Act}{v:World}(h:zGP H L w N Q dfs e b v):zHd H L w N Q dfs e b v:=by obtain⟨x,env'',σ'',H'',L'',h1,h2,h3,h4,h5⟩:=h;exact⟨x,env'',σ'',H'',L'',h1,h2▸Mk.refl _ _ _,h3,h4,h5⟩
theorem zFA {N:Nat}{ro:Option Nat}{ops:Array Oper}(hall:∀o∈ops.toList,∀x,o.dst=some x→x<N){Q:Ex→Env→St→Prop}{dfs:List Deferred}{Qc:Exit→Act→World→Prop} :
 ∀(l:List Oper) (gs:List KG) {H:Mem} {L:List LI} {σ : St} {w:World} {env:Env} {a:Act},zJz P N ops l gs→zY H L N env a.tmps→RelSt H L σ w→a.defers=dfs →
  zCC P (fun v=>Q (.pan v)) (Q .norm) gs env σ→(∀e b v,zGP H L w N Q dfs e b v→Qc e b v)→wpListIn (Wr ro) 0 P ops Qc l a w
 | [],gs,H,L,σ,w,env,a,hc,he,hs,hd,h,hQ=>by simp only[zJz]at hc;subst hc;exact hQ _ _ _ ⟨.norm,env,σ,H,L,rfl,hd,he,Nxt.refl hs,h⟩
 | o::l,gs,H,L,σ,w,env,a,hc,he,hs,hd,h,hQ=>by
  simp only[zJz]at hc;obtain⟨g,gs',rfl,hg,hgs⟩:=hc;obtain⟨hk,hdst,hgd⟩:=yU hg;have hkd:=zA6 hk;have hke:g.erase.op.dst=g.op.dst:=by show g.op.erase.dst=g.op.dst;cases g.op<;>rfl
  rw[hke]at hkd;simp only[zCC]at h;have exec:wpO P (fun v=>Q (.pan v)) (zCC P (fun v=>Q (.pan v)) (Q .norm) gs') g.op env σ→o.wpIn (Wr ro) 0 P a w (wpListIn (Wr ro) 0 P ops Qc l) Qc:=by
   intro h;refine zDD hk hdst he hs h (fun env' σ' H' L' a' w' h1 h2 h3 h4=>?_) (fun v σ' H' L' w' h1 h2=>?_)
   ·exact zFA hall l gs' hgs h2 h3.st (h1.trans hd) h4 fun e b v hp=>hQ e b v (hp.next h3)
   ·exact hQ _ _ _ ⟨.pan v,env,σ',H',L',rfl,hd,he.mono h1.step.hle h1.lle,h1,h2⟩
  have skip:zCC P (fun v=>Q (.pan v)) (Q .norm) gs' (env.put g.op.dst (.lit undef)) σ→wpListIn (Wr ro) 0 P ops Qc l (a.put o.dst undef) w:=by intro h;refine zFA hall l gs' hgs ?_ hs ((qM _ _).trans hd) h hQ;rw[hkd];exact he.put hdst (by simp[Rel])
  unfold wpListIn;have hge:g.erase.guard=g.guard:=rfl;rw[hge]at hgd;rcases hgd with ⟨ho,hgn⟩ | ⟨j,want,s,ho,hsl,hgn⟩
  ·simp only[wpG,hgn]at h;have hw:Region.wanted o (yielded ops a.tmps)=true:=by simp[Region.wanted,ho]
   rw[if_pos hw];exact exec h
  ·simp only[wpG,hgn]at h;have hsN:=zFo hsl hall;obtain⟨w1,w2⟩:=zDu (a:=a) ho hsl (jBy hsN he.1);have hrel:=he.2 s;split at h
   ·rename_i b hb;rw[hb]at hrel;simp only[Rel]at hrel;rw[w1 b hrel];by_cases hbw:b=want
    ·simp only[hbw,decide_true,if_true];exact exec (h.1 (by simp[hbw]))
    ·simp only[hbw,decide_false,jAi,if_false];exact⟨fun _ _=>trivial,skip (h.2 (by simp[hbw]))⟩
   ·rename_i t ht;rw[ht]at hrel;simp only[Rel]at hrel;rw[w2 t hrel];simp only[jAi,if_false];exact⟨fun _ _=>trivial,skip h⟩
   ·exact h.elim
theorem zLF {N:Nat}{hint:Nat→Option (List (Nat×Nat))}{H:Mem}{L:List LI} {σ : St}{w:World}{env:Env}{a:Act}{id:Nat}{ops:Array Oper}{l:List KG}(hc:qD P N hint (.region id ops false)=some (K.ops l).erase)
 (he:zY H L N env a.tmps)(hs:RelSt H L σ w){Q:Ex→Env→St→Prop}(h:wpK P n0 (.ops l) Q env σ){Qc:Exit→Act→World→Prop}(hQ:∀e b v,zGP H L w N Q a.defers e b v→Qc e b v):(Code.region id ops false).wpIn Fence.wide 0 P Qc a w:=by
 simp only[qD,K.erase]at hc;split at hc<;>try (cases hc; done)
 rename_i l' hl;simp only[jAi,if_false,jA0,K.ops.injEq]at hc;subst hc;simp only[wpK]at h;have hall:∀o∈ops.toList,∀x,o.dst=some x→x<N:=by
  obtain⟨hlen,hget⟩:=zC1 hl;intro o ho;obtain⟨i,hi⟩:=jCl ho;have hlt:i<(l.map KG.erase).length:=by rw[hlen]; exact(jA1.1 hi).1
  exact(yU (hget i o _ hi (jA2 hlt))).2.1
 exact wpIn_region_list (zFA (ro:=none) (Q:=Q) (dfs:=a.defers) hall ops.toList l (zKH hl) he hs rfl h hQ)
theorem zCW {ops:Array Oper}{N:Nat}{ro:Option Nat}{all:List (Nat×Nat×KG)}(hc:Comp P N ops all)(hall:∀o∈ops.toList,∀x,o.dst=some x→x<N){Q:Ex→Env→St→Prop}{dfs:List Deferred}{Qc:Exit→Act→World→Prop} :
 ∀(fuel:Nat) (listed:Array Bool) {H:Mem} {L:List LI} {σ : St} {w:World} {env:Env} {a:Act},zY H L N env a.tmps→RelSt H L σ w→a.defers=dfs →
  zF9 P (zL7 Q) ops all (Q .norm) fuel listed env σ→(∀e b v,zGP H L w N Q dfs e b v→Qc e b v)→wpAnyIn (Wr ro) 0 P .any ops Qc fuel listed a w
 | 0,listed,H,L,σ,w,env,a,he,hs,hd,h,hQ=>⟨h.1,hQ _ _ _ ⟨.norm,env,σ,H,L,rfl,hd,he,Nxt.refl hs,h.2⟩⟩
 | fuel+1,listed,H,L,σ,w,env,a,he,hs,hd,h,hQ=>by
  refine⟨fun h0=>hQ _ _ _ ⟨.norm,env,σ,H,L,rfl,hd,he,Nxt.refl hs,h.1 h0⟩,fun i hi=>?_⟩;obtain⟨_,o,ho,_⟩:=mem_ready.1 hi;rcases h.2 i hi with ⟨f,g,r,σ1,hg,hy,hK⟩ | ⟨f8,d,fo,args,hf8,hg,hcn⟩
  rotate_left
  ·have hcg:=hc.get i f8 o _ ho hg;obtain⟨hk,hdst,hgd⟩:=yU hcg;unfold wpOpIn;simp only[ho];rcases hgd with ⟨hog,hgn⟩ | ⟨j,want,s,hog,hsl,hgn⟩
   ·have hw:Region.wanted o (yielded ops a.tmps)=true:=by simp[Region.wanted,hog]
    rw[if_pos hw];refine zDD (k:=.call d fo args) (Qp:=fun v _ τ=>zL7 Q v τ) (K:=fun env' τ=>zF9 P (zL7 Q) ops all (Q .norm) fuel (listed.setIfInBounds i true) env' τ) hk hdst he hs ?_ (fun env' σ' H' L' a' w' h1 h2 h3 h4=>?_) (fun v σ' H' L' w' h1 h2=>hQ _ _ _ ⟨.pan v,env,σ',H',L',rfl,hd,he.mono h1.step.hle h1.lle,h1,h2 env⟩)
    ·simp only[wpO];unfold zK8 at hcn;split at hcn
     ·rename_i g first cap hfo
      simp only[hfo];refine⟨hcn.1,fun H L w vs h3 h4=>(hcn.2 H L w vs h3 h4).mono fun e w' hh=>?_⟩;obtain⟨o,σ',H',L',g1,g2,hh⟩:=hh;refine⟨o,σ',H',L',g1,g2,?_⟩;rcases hh with ⟨r,rfl,g4,g5⟩ | ⟨v,rfl,g4⟩
      ·exact g5
      ·exact g4
     ·exact hcn.elim
    ·exact zCW hc hall fuel _ h2 h3.st (h1.trans hd) h4 fun e b v hp=>hQ e b v (hp.next h3)
   ·cases hgn
  have hcg:=hc.get i f o g ho hg;obtain⟨hk,hdst,hgd⟩:=yU hcg;have hkd:=zA6 hk;rw[show g.erase.op.dst=g.op.dst from zG6 _]at hkd;unfold wpOpIn;simp only[ho];have exec:eff P env σ r σ1 g.op→o.wpIn (Wr ro) 0 P a w (wpAnyIn (Wr ro) 0 P .any ops Qc fuel (listed.setIfInBounds i true)) Qc:=by intro hq;refine zDD (k:=g.op) (Qp:=fun _ _ _=>False) hk hdst he hs (zMb hq) (fun env' σ' H' L' a' w' h1 h2 h3 h4=>?_) (fun v σ' H' L' w' h1 h2=>h2.elim);obtain⟨h4,h5⟩:=h4;subst h4;subst h5;exact zCW hc hall fuel _ h2 h3.st (h1.trans hd) hK fun e b v hp=>hQ e b v (hp.next h3)
  have skip:r=.lit undef→σ1 = σ→wpAnyIn (Wr ro) 0 P .any ops Qc fuel (listed.setIfInBounds i true) (a.put o.dst undef) w:=by rintro rfl rfl;refine zCW hc hall fuel _ ?_ hs ((qM _ _).trans hd) hK hQ;rw[hkd];exact he.put hdst (by simp[Rel])
  replace hy:=hy.1;unfold zCv at hy;rcases hgd with ⟨hog,hgn⟩ | ⟨j,want,s,hog,hsl,hgn⟩
  ·replace hgn:g.guard=none:=hgn;simp only[hgn]at hy;have hw:Region.wanted o (yielded ops a.tmps)=true:=by simp[Region.wanted,hog]
   rw[if_pos hw];exact exec hy
  ·replace hgn:g.guard=some (s,want):=hgn;simp only[hgn]at hy;have hsN:=zFo hsl hall;obtain⟨w1,w2⟩:=zDu (a:=a) hog hsl (jBy hsN he.1);have hrel:=he.2 s;split at hy
   ·rename_i b hb;rw[hb]at hrel;simp only[Rel]at hrel;rw[w1 b hrel];by_cases hbw:b=want
    ·simp only[hbw,decide_true,if_true];exact exec (hy.1 hbw)
    ·simp only[hbw,decide_false,jAi,if_false];exact⟨fun _ _=>trivial,skip (hy.2 hbw).1 (hy.2 hbw).2⟩
   ·rename_i t ht;rw[ht]at hrel;simp only[Rel]at hrel;rw[w2 t hrel];simp only[jAi,if_false];exact⟨fun _ _=>trivial,skip hy.1 hy.2⟩
   ·exact hy.elim
theorem zSy {ops:Array Oper}{N:Nat}{H:Mem}{L:List LI} {σ : St}{w:World}{env:Env}{a:Act}{ro:Option Nat}{id:Nat}{gs:List KG}{l:List (Nat×Nat×KG)}(hm:P.follows .mixedOrders=true)(hB:zKL ops l=true)(hlo:zEh ops ops.toList gs=true)(hc:zCl P N ops ops.toList=some gs)(hl:∀x∈l,∃g,gs[x.1]?=some g∧x.2.2.erase=g.erase)
 {Q:Ex→Env→St→Prop}{dfs:List Deferred}{Qc:Exit→Act→World→Prop}(he:zY H L N env a.tmps)(hs:RelSt H L σ w)(hd:a.defers=dfs)
 (h:wpD P (zL7 Q) (Q .norm) l env σ)(hQ:∀e b v,zGP H L w N Q dfs e b v→Qc e b v):(Code.region id ops true).wpIn (Wr ro) 0 P Qc a w:=by
 obtain⟨hlen,hget⟩:=zC1 hc;have hcm:Comp P N ops l:=⟨fun i f o g ho hg=>by obtain⟨g0,h1,h2⟩:=hl (i,f,g) hg;have h3:=hget i o g0 (by simpa using ho) h1;rw[show g.erase=g0 from h2.trans (zC0 h3)];exact h3⟩
 have hf:Fits ops l:=⟨fun i f o g ho hg=>(zG6 g.op).symm.trans (zA6 (yU (hcm.get i f o g ho hg)).1),fun i f o g ho hg=>by obtain⟨g0,h1,h2⟩:=hl (i,f,g) hg;have h3:=hget i o g0 (by simpa using ho) h1;have h4:=zGk hlo i o g0 (by simpa using ho) h1;rw[←zJB,show g.erase=g0 from h2.trans (zC0 h3)];exact h4⟩
 have hall:∀o∈ops.toList,∀x,o.dst=some x→x<N:=by
  intro o ho;obtain⟨i,hi⟩:=jCl ho;have hlt:i<gs.length:=by rw[hlen]; exact(jA1.1 hi).1
  exact(yU (hget i o _ hi (jA2 hlt))).2.1
 simp only[zKL,jA4,beq_iff_eq]at hB;obtain⟨⟨hB,hsz⟩,_⟩:=hB;refine wpIn_region_any hm ?_;have hs':RelSt H L σ {w with drawn:=w.drawn+1}:=hs.heap_eq rfl;have hlex:=zDR hf l (Array.replicate ops.size false) env σ (fun _ hx=>hx) hB h;rw[hsz]at hlex;have hn:Nxt H L w H L σ {w with drawn:=w.drawn+1}:=⟨hs',⟨rfl,rfl,rfl,jA _,fun _ _ _=>rfl,HLe.refl _,fun _ _ _ h=>.inl h,jCa _,fun _ _ h=>h⟩,LLe.refl _,fun _ h=>.inl h⟩;refine zCW hcm hall _ _ he hs' hd hlex fun e b v hp=>hQ e b v ?_
 exact hp.next hn
theorem zQs {N:Nat}{hint:Nat→Option (List (Nat×Nat))}{H:Mem}{L:List LI} {σ : St}{w:World}{env:Env}{a:Act}{id:Nat}{ops:Array Oper}{l:List (Nat×Nat×KG)}(hc:qD P N hint (.region id ops true)=some (K.dops l).erase)
 (he:zY H L N env a.tmps)(hs:RelSt H L σ w){Q:Ex→Env→St→Prop}(h:wpK P n0 (.dops l) Q env σ){Qc:Exit→Act→World→Prop}(hQ:∀e b v,zGP H L w N Q a.defers e b v→Qc e b v):(Code.region id ops true).wpIn Fence.wide 0 P Qc a w:=by
 simp only[qD,K.erase]at hc;split at hc<;>try (cases hc; done)
 rename_i l' hl;simp only[if_true]at hc;split at hc<;>try (cases hc; done)
 rename_i r hr;split at hc<;>try (cases hc; done)
 rename_i hb;simp only[jA4]at hb;simp only[jA0,K.dops.injEq]at hc;subst hc;simp only[wpK]at h;have hmem:∀x∈r,∃g,l'[x.1]?=some g∧x.2.2.erase=g.erase:=fun x hx=>by
  split at hr
  ·exact zJl hr hx
  ·cases hr; exact⟨_,zJG hx,rfl⟩
 exact zSy (ro:=none) (Q:=Q) (dfs:=a.defers) hb.1.2 hb.1.1 hb.2 hl hmem he hs rfl h hQ
theorem zI1 {N:Nat}{hint:Nat→Option (List (Nat×Nat))}{H:Mem}{L:List LI} {σ : St}{w:World}{env:Env}{a:Act}{id:Nat}{ops:Array Oper}{l:List KG}{rest:Code}(hc:qD P N hint (.region id ops false)=some (K.ops l).erase)
 (he:zY H L N env a.tmps)(hs:RelSt H L σ w){Q:Ex→Env→St→Prop}(h:wpK P n0 (.ops l) Q env σ){Qc:Exit→Act→World→Prop}
 (hQ:∀env' τ H' L' w' a',a'.defers=a.defers→zY H' L' N env' a'.tmps→Nxt H L w H' L' τ w'→Q .norm env' τ→rest.wpIn Fence.wide 0 P Qc a' w')
 (hX:∀x env' τ H' L' w' a',x≠.norm→a'.defers=a.defers→zY H' L' N env' a'.tmps→Nxt H L w H' L' τ w'→Q x env' τ→Qc x.exit? a' w'):(Code.seq (.region id ops false) rest).wpIn Fence.wide 0 P Qc a w:=by
 refine wpIn_seq (zLF hc he hs h fun e b v hp=>?_);obtain⟨x,env',τ,H',L',rfl,g2,g3,g4,g5⟩:=hp;cases x with
 | norm=>exact hQ env' τ H' L' v b g2 g3 g4 g5
 | exit i=>exact hX _ env' τ H' L' v b (by simp) g2 g3 g4 g5
 | ret=>exact hX _ env' τ H' L' v b (by simp) g2 g3 g4 g5
 | pan v'=>exact hX _ env' τ H' L' v b (by simp) g2 g3 g4 g5
theorem zXA {N:Nat}{hint:Nat→Option (List (Nat×Nat))}{H:Mem}{L:List LI} {σ : St}{w:World}{env:Env}{a:Act}{id:Nat}{ops:Array Oper}{l:List (Nat×Nat×KG)}{rest:Code}(hc:qD P N hint (.region id ops true)=some (K.dops l).erase)
 (he:zY H L N env a.tmps)(hs:RelSt H L σ w){Q:Ex→Env→St→Prop}(h:wpK P n0 (.dops l) Q env σ){Qc:Exit→Act→World→Prop}
 (hQ:∀env' τ H' L' w' a',a'.defers=a.defers→zY H' L' N env' a'.tmps→Nxt H L w H' L' τ w'→Q .norm env' τ→rest.wpIn Fence.wide 0 P Qc a' w')
 (hX:∀x env' τ H' L' w' a',x≠.norm→a'.defers=a.defers→zY H' L' N env' a'.tmps→Nxt H L w H' L' τ w'→Q x env' τ→Qc x.exit? a' w'):(Code.seq (.region id ops true) rest).wpIn Fence.wide 0 P Qc a w:=by
 refine wpIn_seq (zQs hc he hs h fun e b v hp=>?_);obtain⟨x,env',τ,H',L',rfl,g2,g3,g4,g5⟩:=hp;cases x with
 | norm=>exact hQ env' τ H' L' v b g2 g3 g4 g5
 | exit i=>exact hX _ env' τ H' L' v b (by simp) g2 g3 g4 g5
 | ret=>exact hX _ env' τ H' L' v b (by simp) g2 g3 g4 g5
 | pan v'=>exact hX _ env' τ H' L' v b (by simp) g2 g3 g4 g5
end
end Go.Abs
namespace Go.Proofs.YtdnelmeboihpkaaGreatDoor
open Go.Abs
inductive Val where
 | mk (k n:Int) (kids:List Val)
def Val.k:Val→Int | .mk k _ _=>k
def Val.n:Val→Int | .mk _ n _=>n
def Val.kids:Val→List Val | .mk _ _ l=>l
mutual
def zGR:Val→A
 | .mk _ _ l=>.sl l.length (zJ l)
def zJ:List Val→List A
 | []=>[]
 | v::l=>.lit (.int .i64 v.k)::.lit (.int .i64 v.n)::zGR v::zJ l
end
def zC (v:Val):List A:=[.lit (.int .i64 v.k),.lit (.int .i64 v.n),.sl v.kids.length (zJ v.kids)]
theorem zPc (v:Val):zGR v=.sl v.kids.length (zJ v.kids):=by cases v; simp only[zGR,Val.kids]
@[simp] theorem zKC:zJ []=[]:=by simp only[zJ]
@[simp] theorem zCZ (v:Val)(l:List Val):zJ (v::l)=.lit (.int .i64 v.k)::.lit (.int .i64 v.n)::.sl v.kids.length (zJ v.kids)::zJ l:=by simp only[zJ,zPc]
@[simp] theorem zRd:∀l:List Val,(zJ l).length=l.length*3
 | []=>by simp
 | v::l=>by simp[zRd l]; omega
mutual
theorem zPd:∀v:Val,nrm0 (zGR v)=zGR v∧∀rf g,vw rf g (zGR v)=zGR v
 | .mk k n l=>by have h:=zB3 l;simp only[zGR];exact⟨by simp[h.1],fun rf g=>by simp[h.2]⟩
theorem zB3:∀l:List Val,qJ (zJ l)
 | []=>by simp only[zJ]; exact qJ.nil
 | v::l=>by have h:=zPd v;have h':=zB3 l;simp only[zJ];exact⟨by simp[h.1,h'.1],fun rf g=>by simp[h.2,h'.2]⟩
end
@[simp] theorem qB3 (l:List Val):jF (zJ l)=zJ l:=(zB3 l).1
@[simp] theorem qGo {rf g}(l:List Val):vwL rf g (zJ l)=zJ l:=(zB3 l).2 _ _
theorem qY:∀{l:List Val} {i:Nat} (h:i<l.length),(zJ l).drop (i*3)=.lit (.int .i64 l[i].k)::.lit (.int .i64 l[i].n)::.sl l[i].kids.length (zJ l[i].kids)::zJ (l.drop (i+1))
 | v::l,0,h=>by simp
 | v::l,i+1,h=>by
  have e:(i+1)*3=i*3+3:=by omega
  rw[e,zCZ]
  simpa using qY (l:=l) (i:=i) (by simpa using h)
mutual
def zW:Val→Nat
 | .mk _ _ l=>1+qS l
def qS:List Val→Nat
 | []=>0
 | v::l=>zW v+qS l
end
theorem zEM:∀{l:List Val} {v:Val},v∈l→zW v≤qS l
 | x::l,v,h=>by
  simp only[qS];rcases jA5.1 h with rfl | h
  ·omega
  ·have:=zEM h; omega
theorem zAB {v x:Val}(h:x∈v.kids):zW x<zW v:=by
 cases v with
 | mk k n l=>have:=zEM (l:=l) h; simp only[zW]; omega
def zDN:Val→Int
 | .mk _ _ l=>l.attach.foldl (fun s x=>w64 (s+zDN x.1)) 1
termination_by v=>zW v
decreasing_by
 have:=zEM x.2;simp only[zW]; omega
def zLS (l:List Val):Int:=l.foldl (fun s x=>w64 (s+zDN x)) 1
theorem zLM (v:Val):zDN v=zLS v.kids:=by
 cases v with
 | mk k n l =>
  rw[zDN];simp only[Val.kids,zLS];rw[List.foldl_attach (f:=fun s x=>w64 (s+zDN x))]
theorem zJu {l:List Val}{i:Nat}(h:i<l.length):zLS (l.take (i+1))=IntKind.i64.wrap (zLS (l.take i)+zDN l[i]):=by rw[zLS,jA9 h,jC9];rfl
def zRN (a b:Int):Int:=if a<b then b else a
def zCq:Val→Int
 | .mk _ _ l=>w64 (l.attach.foldl (fun s x=>zRN s (zCq x.1)) 0+1)
termination_by v=>zW v
decreasing_by
 have:=zEM x.2;simp only[zW]; omega
def zLu (l:List Val):Int:=l.foldl (fun s x=>zRN s (zCq x)) 0
theorem zIQ (v:Val):zCq v=w64 (zLu v.kids+1):=by
 cases v with
 | mk k n l =>
  rw[zCq];simp only[Val.kids,zLu];rw[List.foldl_attach (f:=fun s x=>zRN s (zCq x))]
theorem zJf {l:List Val}{i:Nat}(h:i<l.length):zLu (l.take (i+1))=zRN (zLu (l.take i)) (zCq l[i]):=by rw[zLu,jA9 h,jC9];rfl
def qHd:K:=G [kO 1 0,kMi 2 0] (G [kMi 3 1] (Z (G [kMi 4 0] (K.block 0 (K.loop (Z (G [M 5 4,D 6 1 2,L 7 6 1,kN 8 7,kB 9 5 8 .lss] (Y 9 ks (K.exit 0))) (Z (K.block 1 (K.ops [M 12 3,D 13 1 2,L 14 13 1,M 15 4,kX 16 14 15 3,J 17 16 3,kC 18 41 [(kt 17)],kB 19 12 18 .add,M 3 19])) (K.ops [M 10 4,kBi 11 10 1 .add,M 4 11])))))) (G [M 20 3,M 2 20] kr)))
theorem qOo:zQ prog Tryz.f41.ntmps (Tryz.f41.body.getD .skip)=some qHd.erase:=by kernel_rfl
@[simp] theorem qPs:zB prog 41=true:=by kernel_rfl
theorem zLE (v:Val):Ret prog 41 [.agg (zC v)] [] (int (zDN v)) []:=by
 refine zH Tryz.func41 rfl qOo (rs:=[.slot 2]) (by kernel_rfl) ?_;unfold qHd;simp[zC];refine jR (S:=Nat) (fun i=>[(1,.ptr 0 0),(3,int (zLS (v.kids.take i))),(4,int i)]) (fun s=>[.box (zC v)]) (fun i=>i≤v.kids.length) (fun i=>v.kids.length-i) 0 (by simp)
  (zP [0] 0 (by simp) (by simp) (by simp[zC]) (by simp[zLS])) ?_
 intro i hi;by_cases h:i<v.kids.length
 ·simp[zC,h,qY h];intro hl;refine qE (zLE v.kids[i]) (by simp[zC]) (by simp) ?_;simp;exact zO (i+1) h (by omega) (zP [0] 0 (by simp) (by simp) (by simp[zC]) (by simp[qC h hl,zJu h]))
 ·have:i=v.kids.length:=by omega
  subst this;simp[zC];exact fun _=>zA 0 (by simp[zLM v])
termination_by zW v
decreasing_by exact zAB (jA3 _)
def qHb:K:=G [kO 1 0,kMi 2 0] (G [kMi 3 0] (Z (G [kMi 4 0] (K.block 0 (K.loop (Z (G [M 5 4,D 6 1 2,L 7 6 1,kN 8 7,kB 9 5 8 .lss] (Y 9 ks (K.exit 0))) (Z (K.block 1 (K.ops [M 12 3,D 13 1 2,L 14 13 1,M 15 4,kX 16 14 15 3,J 17 16 3,kC 18 42 [(kt 17)],⟨none,.mm (some 19) true [(kt 12),(kt 18)]⟩,M 3 19])) (K.ops [M 10 4,kBi 11 10 1 .add,M 4 11])))))) (G [M 20 3,kBi 21 20 1 .add,M 2 21] kr)))
theorem qOm:zQ prog Tryz.f42.ntmps (Tryz.f42.body.getD .skip)=some qHb.erase:=by kernel_rfl
@[simp] theorem qPj:zB prog 42=true:=by kernel_rfl
theorem zJU (v:Val):Ret prog 42 [.agg (zC v)] [] (int (zCq v)) []:=by
 refine zH Tryz.func42 rfl qOm (rs:=[.slot 2]) (by kernel_rfl) ?_;unfold qHb;simp[zC];refine jR (S:=Nat) (fun i=>[(1,.ptr 0 0),(3,int (zLu (v.kids.take i))),(4,int i)]) (fun s=>[.box (zC v)]) (fun i=>i≤v.kids.length) (fun i=>v.kids.length-i) 0 (by simp)
  (zP [0] 0 (by simp) (by simp) (by simp[zC]) (by simp[zLu])) ?_
 intro i hi;by_cases h:i<v.kids.length
 ·simp[zC,h,qY h];intro hl;refine qE (zJU v.kids[i]) (by simp[zC]) (by simp) ?_;simp;exact zO (i+1) h (by omega) (zP [0] 0 (by simp) (by simp) (by simp[zC]) (by simp[qC h hl,zJf h,zRN]))
 ·have:i=v.kids.length:=by omega
  subst this;simp[zC];exact fun _=>zA 0 (by simp[zIQ v,w64])
termination_by zW v
decreasing_by exact zAB (jA3 _)
def qHl:K:=G [kO 2 0,kO 3 1,kMi 4 0] (Z (Z (K.dops [(0,0,D 6 2 0),(1,0,L 7 6 1),(2,0,D 8 3 0),(3,0,L 9 8 1),(4,0,kC 10 80 [(kt 7),(kt 9)]),(5,0,D 11 2 1),(6,0,L 12 11 1),(7,0,D 13 3 1),(8,0,L 14 13 1),(9,0,kC 15 80 [(kt 12),(kt 14)]),(10,0,D 16 2 2),(11,0,L 17 16 1),(12,0,kN 18 17),(13,0,D 19 3 2),(14,0,L 20 19 1),(15,0,kN 21 20),(16,0,kC 22 80 [(kt 18),(kt 21)]),(17,0,kd 23 3 1 3 [ki,ki,ki] [(0,1,(kt 10)),(1,1,(kt 15)),(2,1,(kt 22))]),(18,0,kC 24 79 [(kt 23)]),(19,0,M 5 24)]) (G [M 25 5,kQi 26 25 0 true] (Y 26 (G [M 27 5,M 4 27] kr) ks))) (G [D 28 2 2,L 29 28 1,D 30 3 2,L 31 30 1,kC 32 103 [(kt 29),(kt 31),(.func 60)],M 4 32] kr))
theorem qOw:zQ prog Tryz.f60.ntmps (Tryz.f60.body.getD .skip)=some qHl.erase:=by kernel_rfl
@[simp] theorem qPD:zB prog 60=true:=by kernel_rfl
def qHk:K:=G [kMi 6 0] (Z (G [M 11 0,kN 12 11,kMi 13 0] (K.block 0 (K.loop (G [kB 14 13 12 .lss] (Z (Y 14 ks (K.exit 0)) (Z (K.block 1 (G [M 15 13,kX 16 11 13 3,J 17 16 3,kZ 8 [ki,ki,kl],M 7 15,S 8 17 3] (Z (G [M 18 7,M 19 1,kN 20 19,kB 21 18 20 .geq] (Y 21 (G [kMi 6 1] kr) ks)) (G [M 22 1,M 23 7,kX 24 22 23 3,J 25 24 3,kZ 9 [ki,ki,kl],S 9 25 3] (G [M 26 2,J 27 8 3,J 28 9 3,⟨none,.call (some 29) (kt 26) [(kt 27),(kt 28)]⟩,M 10 29] (G [M 30 10,kQi 31 30 0 true] (Y 31 (G [M 32 10,M 6 32] kr) ks))))))) (K.ops [kBi 33 13 1 .add,M 13 33]))))))) (Z (G [M 34 0,kN 35 34,M 36 1,kN 37 36,kB 38 35 37 .lss] (Y 38 (G [⟨none,.mov (some 6) (kc (-1))⟩] kr) ks)) (G [kMi 6 0] kr)))
theorem qOv:zQ prog Tryz.f103.ntmps (Tryz.f103.body.getD .skip)=some qHk.erase:=by kernel_rfl
@[simp] theorem qPC:zB prog 103=true:=by kernel_rfl
mutual
def zCu:Val→Val→Int
 | .mk k n l,.mk k' n' l'=>if orI [zA5 k k',zA5 n n',zA5 l.length l'.length]≠0 then orI [zA5 k k',zA5 n n',zA5 l.length l'.length] else zA1 l l'
def zA1:List Val→List Val→Int
 | [],[]=>0
 | [],_::_=>-1
 | _::_,[]=>1
 | a::l,b::l'=>if zCu a b≠0 then zCu a b else zA1 l l'
end
def zBp (a b:Val):Int:=orI [zA5 a.k b.k,zA5 a.n b.n,zA5 a.kids.length b.kids.length]
theorem zBN (a b:Val):zCu a b=if zBp a b≠0 then zBp a b else zA1 a.kids b.kids:=by cases a; cases b; rw[zCu]; rfl
theorem zKI (xs ys:List Val)(h:∀a∈xs,∀b∈ys,Ret prog 60 [.agg (zC a),.agg (zC b)] [] (int (zCu a b)) []) :
 Ret prog 103 [.sl xs.length (zJ xs),.sl ys.length (zJ ys),.clo 60 [] []] [] (int (zA1 xs ys)) []:=by
 refine zH Tryz.func103 rfl qOv (rs:=[.slot 6]) (by kernel_rfl) ?_;unfold qHk;simp;intro hl;refine jR (S:=Nat) (fun i=>[(0,.sl xs.length (zJ xs)),(1,.sl ys.length (zJ ys)),(2,.clo 60 [] []),(11,.sl xs.length (zJ xs)),(12,int xs.length),(13,int i)]) (fun s=>[])
  (fun i=>i≤xs.length∧i≤ys.length∧zA1 xs ys=zA1 (xs.drop i) (ys.drop i)) (fun i=>xs.length-i) 0 (by simp)
  (zP [] 0 (by simp) (by simp) (by simp) (by simp)) ?_
 rintro i ⟨hi,hi',ho⟩;simp;refine qZ (fun h1=>?_) (fun h1=>?_)<;>simp at h1
 ·have hd:xs.drop i=xs[i]::xs.drop (i+1):=jAv h1;simp[h1,qY h1];intro hl';refine qZ (fun h2=>?_) (fun h2=>?_)<;>simp at h2
  ·simp;have hn:ys.drop i=[]:=jCm h2;exact zA 0 (by rw[ho,hd,hn]; simp[zA1])
  ·have hd':ys.drop i=ys[i]::ys.drop (i+1):=jAv h2;simp[h2,qY h2];refine qE (h xs[i] (jA3 _) ys[i] (jA3 _)) (by simp[zC]) (by simp) ?_;simp;refine qZ (fun h3=>?_) (fun h3=>?_)<;>simp at h3
   ·simp;exact zA 0 (by rw[ho,hd,hd']; simp[zA1,h3])
   ·simp;refine zO (i+1) ⟨h1,h2,by rw[ho,hd,hd']; simp[zA1,h3]⟩ (by omega) (zP [] 0 (by simp) (by simp) (by simp) (by simp[qC h1 hl]))
 ·have:i=xs.length:=by omega
  subst this;simp;have hn:xs.drop xs.length=[]:=by simp
  intro _ hl';refine qZ (fun h2=>?_) (fun h2=>?_)<;>simp at h2
  ·have hd':ys.drop xs.length=ys[xs.length]::ys.drop (xs.length+1):=jAv h2;simp;exact zA 0 (by rw[ho,hn,hd']; simp[zA1])
  ·have hn':ys.drop xs.length=[]:=jCm h2;simp;exact zA 0 (by rw[ho,hn,hn']; simp[zA1])
theorem zKp (a b:Val):Ret prog 60 [.agg (zC a),.agg (zC b)] [] (int (zCu a b)) []:=by
 refine zH Tryz.func60 rfl qOw (rs:=[.slot 4]) (by kernel_rfl) ?_;unfold qHl;simp[zC];refine qU (zCp a.k b.k) (by simp) (by simp) ?_;simp;refine qU (zCp a.n b.n) (by simp) (by simp) ?_;simp;refine qU (zCp a.kids.length b.kids.length) (by simp) (by simp) ?_;simp;refine qU (zXu [zA5 a.k b.k,zA5 a.n b.n,zA5 a.kids.length b.kids.length]) (by simp) (by simp) ?_;simp;refine qZ (fun h=>?_) (fun h=>?_)<;>simp at h
 ·simp;exact zA 0 (by rw[zBN]; simp[zBp,h])
 ·simp;refine qE (zKI a.kids b.kids fun x hx y hy=>zKp x y) (by simp) (by simp) ?_;simp;exact zA 0 (by rw[zBN]; simp[zBp,h])
termination_by zW a
decreasing_by exact zAB hx
theorem zNK {a b:Int}(h:a<b):zA5 a b = -1:=by simp[zA5,h]
theorem zNJ {a b:Int}(h:b<a):zA5 a b=1:=by simp[zA5,h,Int.not_lt.2 (Int.le_of_lt h)]
theorem zNI {a b:Int}(h:b≤a)(h':a≤b):zA5 a b=0:=by simp[zA5,Int.not_lt.2 h,Int.not_lt.2 h']
def qHa:K:=G [kO 2 0,kO 3 1,kMi 4 0] (G [D 10 2 0,L 11 10 1,D 12 2 1,L 13 12 1,D 14 2 2,L 15 14 1,kN 16 15,kd 17 3 1 3 [ki,ki,ki] [(0,1,(kt 11)),(1,1,(kt 13)),(2,1,(kt 16))],M 5 17] (G [D 18 3 0,L 19 18 1,D 20 3 1,L 21 20 1,D 22 3 2,L 23 22 1,kN 24 23,kd 25 3 1 3 [ki,ki,ki] [(0,1,(kt 19)),(1,1,(kt 21)),(2,1,(kt 24))],M 6 25] (Z (G [kMi 7 0] (K.block 0 (K.loop (Z (G [M 26 7,kBi 27 26 3 .lss] (Y 27 ks (K.exit 0))) (Z (K.block 1 (Z (Z (K.dops [(0,0,M 30 5),(1,0,M 31 7),(2,0,kX 32 30 31 1),(3,0,L 33 32 1),(4,0,M 34 6),(5,0,M 35 7),(6,0,kX 36 34 35 1),(7,0,L 37 36 1),(8,0,kB 38 33 37 .lss)]) (Y 38 (G [⟨none,.mov (some 4) (kc (-1))⟩] kr) ks)) (Z (K.dops [(0,0,M 39 5),(1,0,M 40 7),(2,0,kX 41 39 40 1),(3,0,L 42 41 1),(4,0,M 43 6),(5,0,M 44 7),(6,0,kX 45 43 44 1),(7,0,L 46 45 1),(8,0,kB 47 42 46 .gtr)]) (Y 47 (G [kMi 4 1] kr) ks)))) (K.ops [M 28 7,kBi 29 28 1 .add,M 7 29])))))) (Z (G [kMi 8 0] (K.block 2 (K.loop (Z (G [M 48 8,D 49 2 2,L 50 49 1,kN 51 50,kB 52 48 51 .lss] (Y 52 ks (K.exit 2))) (Z (K.block 3 (Z (K.dops [(0,0,D 55 2 2),(1,0,L 56 55 1),(2,0,M 57 8),(3,0,kX 58 56 57 3),(4,0,J 59 58 3),(5,0,D 60 3 2),(6,0,L 61 60 1),(7,0,M 62 8),(8,0,kX 63 61 62 3),(9,0,J 64 63 3),(10,0,kC 65 18 [(kt 59),(kt 64)]),(11,0,M 9 65)]) (G [M 66 9,kQi 67 66 0 true] (Y 67 (G [M 68 9,M 4 68] kr) ks)))) (K.ops [M 53 8,kBi 54 53 1 .add,M 8 54])))))) (G [kMi 4 0] kr)))))
theorem qOl:zQ prog Tryz.f18.ntmps (Tryz.f18.body.getD .skip)=some qHa.erase:=by kernel_rfl
@[simp] theorem qPi:zB prog 18=true:=by kernel_rfl
theorem zCV (a b:Val):Ret prog 18 [.agg (zC a),.agg (zC b)] [] (int (zCu a b)) []:=by
 refine zH Tryz.func18 rfl qOl (rs:=[.slot 4]) (by kernel_rfl) ?_;unfold qHa;simp[zC];intro hl hl';refine jR (S:=Nat) (fun i=>[(2,.ptr 0 0),(3,.ptr 1 0),(5,.sl 3 [int a.k,int a.n,int a.kids.length]),(6,.sl 3 [int b.k,int b.n,int b.kids.length]),(7,int i)])
  (fun s=>[.box [int a.k,int a.n,.sl a.kids.length (zJ a.kids)],.box [int b.k,int b.n,.sl b.kids.length (zJ b.kids)]])
  (fun i=>i≤3∧zBp a b=orI (([zA5 a.k b.k,zA5 a.n b.n,zA5 a.kids.length b.kids.length]).drop i)) (fun i=>3-i) 0 (by simp[zBp])
  (zP [0,1] 0 (by simp) (by simp) (by simp) (by simp)) ?_
 rintro i ⟨hi,ho⟩;rcases (by omega:i=0∨i=1∨i=2∨i=3)with rfl | rfl | rfl | rfl
 ·simp;refine qZ (fun h1=>?_) (fun h1=>?_)<;>simp at h1
  ·simp;exact zA 0 (by rw[zBN,ho]; simp[orI,zNK h1])
  simp;refine qZ (fun h2=>?_) (fun h2=>?_)<;>simp at h2
  ·simp;exact zA 0 (by rw[zBN,ho]; simp[orI,zNJ h2])
  simp;exact zO 1 ⟨by omega,by rw[ho]; simp[orI,zNI h1 h2]⟩ (by omega) (zP [0,1] 0 (by simp) (by simp) (by simp) (by simp; rfl))
 ·simp;refine qZ (fun h1=>?_) (fun h1=>?_)<;>simp at h1
  ·simp;exact zA 0 (by rw[zBN,ho]; simp[orI,zNK h1])
  simp;refine qZ (fun h2=>?_) (fun h2=>?_)<;>simp at h2
  ·simp;exact zA 0 (by rw[zBN,ho]; simp[orI,zNJ h2])
  simp;exact zO 2 ⟨by omega,by rw[ho]; simp[orI,zNI h1 h2]⟩ (by omega) (zP [0,1] 0 (by simp) (by simp) (by simp) (by simp; rfl))
 ·simp;refine qZ (fun h1=>?_) (fun h1=>?_)<;>simp at h1
  ·simp;exact zA 0 (by rw[zBN,ho]; simp[orI,zNK (Int.ofNat_lt.2 h1)])
  simp;refine qZ (fun h2=>?_) (fun h2=>?_)<;>simp at h2
  ·simp;exact zA 0 (by rw[zBN,ho]; simp[orI,zNJ (Int.ofNat_lt.2 h2)])
  simp;exact zO 3 ⟨by omega,by rw[ho]; simp[orI,zNI (Int.ofNat_le.2 h1) (Int.ofNat_le.2 h2)]⟩ (by omega) (zP [0,1] 0 (by simp) (by simp) (by simp) (by simp; rfl))
 have hlen:a.kids.length=b.kids.length:=by
  have h0:zBp a b=0:=by rw[ho]; rfl
  simp only[zBp,orI]at h0;split at h0<;>try contradiction
  split at h0<;>try contradiction
  split at h0<;>try contradiction
  rename_i _ _ h;simp only[zA5]at h;split at h
  ·cases h
  ·split at h
   ·cases h
   ·omega
 simp;refine jR (S:=Nat) (fun i=>[(2,.ptr 0 0),(3,.ptr 1 0),(8,int i)])
  (fun s=>[.box [int a.k,int a.n,.sl a.kids.length (zJ a.kids)],.box [int b.k,int b.n,.sl b.kids.length (zJ b.kids)]])
  (fun i=>i≤a.kids.length∧zCu a b=zA1 (a.kids.drop i) (b.kids.drop i)) (fun i=>a.kids.length-i) 0 ⟨by omega,by rw[zBN,ho]; simp[orI]⟩
  (zP [0,1] 0 (by simp) (by simp) (by simp) (by simp)) ?_
 rintro i ⟨hi,ho⟩;simp;intro _;refine qZ (fun h1=>?_) (fun h1=>?_)<;>simp at h1
 ·have h2:i<b.kids.length:=by omega
  have hd:a.kids.drop i=a.kids[i]::a.kids.drop (i+1):=jAv h1;have hd':b.kids.drop i=b.kids[i]::b.kids.drop (i+1):=jAv h2;simp[h1,h2,qY h1,qY h2];refine qU (zCV a.kids[i] b.kids[i]) (by simp[zC]) (by simp) ?_;simp;refine qZ (fun h3=>?_) (fun h3=>?_)<;>simp at h3
  ·simp;exact zA 0 (by rw[ho,hd,hd']; simp[zA1,h3])
  ·simp;exact zO (i+1) ⟨h1,by rw[ho,hd,hd']; simp[zA1,h3]⟩ (by omega) (zP [0,1] 0 (by simp) (by simp) (by simp) (by simp[qC h1 hl]))
 ·simp;have e1:a.kids.drop i=[]:=jCm h1;have e2:b.kids.drop i=[]:=jCm (by omega);exact zA 0 (by rw[ho,e1,e2]; simp[zA1])
termination_by zW a
decreasing_by exact zAB (jA3 _)
def zVy:K:=G [kO 2 0,kO 3 1,kMb 4 false] (G [D 5 2 0,L 6 5 1,D 7 3 0,L 8 7 1,kQ 9 6 8 false,M 10 9,T 10 true (D 11 2 1),T 10 true (J 12 11 3),T 10 true (D 13 3 1),T 10 true (J 14 13 3),⟨some (10,true),.eqs (some 15) false [.i,.i,.i] (kt 12) (kt 14)⟩,kPf 16 10 15,M 17 16,T 17 true (D 18 2 4),T 17 true (L 19 18 1),T 17 true (D 20 3 4),T 17 true (L 21 20 1),T 17 true (kC 22 140 [(kt 19),(kt 21),(.func 90)]),kPf 23 17 22,M 4 23] kr)
theorem qCs:zQ prog Tryz.f90.ntmps (Tryz.f90.body.getD .skip)=some zVy.erase:=by kernel_rfl
@[simp] theorem zVI:zB prog 90=true:=by kernel_rfl
mutual
def zGv:Typ→Typ→Bool
 | .mk k i l,.mk k' i' l'=>decide (k=k')&&(decide (i=i')&&zH9 l l')
def zH9:List Typ→List Typ→Bool
 | [],[]=>true
 | x::a,y::b=>zGv x y&&zH9 a b
 | _,_=>false
end
theorem zNv:∀(a b:List Typ),zH9 a b=zGJ zGv a b
 | [],[]=>by simp only[zH9,zGJ]
 | x::a,y::b=>by simp only[zH9,zGJ,zNv a b]
 | [],_::_=>by simp only[zH9,zGJ]
 | _::_,[]=>by simp only[zH9,zGJ]
theorem zUS (a b:Typ):zGv a b=(decide (a.k=b.k)&&(decide (a.id=b.id)&&zGJ zGv a.kids b.kids)):=by cases a; cases b; simp only[zGv,zNv]; rfl
mutual
theorem zJY:∀(a b:Typ),Ret prog 90 [.agg (zM a),.agg (zM b)] [] (bl (zGv a b)) []
 | .mk k i l,b=>by
  have ih:=zIz l;generalize ha:Typ.mk k i l=a;have hal:a.kids=l:=by rw[←ha]; rfl
  rw[←hal]at ih;refine zH Tryz.func90 rfl qCs (rs:=[.slot 4]) (by kernel_rfl) ?_;unfold zVy;have hd:=zUS a b;by_cases h1:a.k=b.k
  ·by_cases h2:a.id=b.id
   ·simp[zM,h1,h2];refine qE (zYI 90 zVI zGv a.kids b.kids fun x hx y hy=>ih x hx y) (by simp) (by simp) ?_;simp;exact zA 0 (by simp[hd,h1,h2])
   ·have h3:zFE a.id.a a.id.b a.id.c b.id.a b.id.b b.id.c=false:=by rw[zCa]; exact decide_eq_false h2
    simp[zM,h1,h3];exact zA 0 (by simp[hd,h2])
  ·simp[zM,h1];exact zA 0 (by simp[hd,h1])
theorem zIz:∀(l:List Typ),∀x∈l,∀y:Typ,Ret prog 90 [.agg (zM x),.agg (zM y)] [] (bl (zGv x y)) []
 | [],x,hx,_=>by simp at hx
 | z::l,x,hx,y=>by
  rcases jA5.1 hx with e | hx
  ·rw[e]; exact zJY z y
  ·exact zIz l x hx y
end
def zNE (k:Int):Bool:=decide (k=2)||(decide (k=3)||(decide (k=4)||decide (k=5)))
@[simp] theorem qPh:zB prog 206=true:=by kernel_rfl
def zBS (n:Int):Int:=if 1099511627776<n then 1099511627776 else if n < -1099511627776 then -1099511627776 else n
@[simp] theorem qPt:zB prog 205=true:=by kernel_rfl
def zCb (b:Bool):Val:=.mk 1 (if b then 1 else 0) []
structure EVar where
 id:Id
 n:Int
 v:Val
def zEd (b:EVar):List A:=[.lit (.int .i64 b.id.a),.lit (.int .i64 b.id.b),.lit (.int .i64 b.id.c),.lit (.int .i64 b.n),.lit (.int .i64 b.v.k),.lit (.int .i64 b.v.n),.sl b.v.kids.length (zJ b.v.kids)]
theorem zFY (b:EVar):qJ (zEd b):=by have h:=zB3 b.v.kids;exact⟨by simp[zEd,h.1],fun rf g=>by simp[zEd,h.2]⟩
def zDs (l:List EVar):List A:=l.flatMap zEd
theorem zGU (l:List EVar):qJ (zDs l):=zBl zFY l
@[simp] theorem zZu (l:List EVar):jF (zDs l)=zDs l:=(zGU l).1
@[simp] theorem qEt {rf g}(l:List EVar):vwL rf g (zDs l)=zDs l:=(zGU l).2 _ _
@[simp] theorem qAW:zDs []=[]:=rfl
@[simp] theorem qAV (l:List EVar):(zDs l).length=l.length*7:=by rw[zDs,zBU (k:=7) (fun _=>rfl)]
@[simp] theorem qFc (d:EVar):(zEd d).length=7:=rfl
@[simp] theorem qFb (d:EVar):(zEd d).take 7=zEd d:=jAk (jA _)
@[simp] theorem qCP (d:EVar)(l:List A):(zEd d++l).take 7=zEd d:=by rw[jBr (by simp)]; exact jAk (by simp)
@[simp] theorem qD7 (d:EVar):jF (zEd d)=zEd d:=(zFY d).1
@[simp] theorem qLf (d:EVar) {rf g}:vwL rf g (zEd d)=zEd d:=(zFY d).2 _ _
@[simp] theorem qPy:zB prog 170=true:=by kernel_rfl
def zCH (env:List EVar)(id:Id)(n:Int):Val:=((env.reverse.find? fun b=>decide (b.id=id∧b.n=n)).map EVar.v).getD (.mk 0 0 [])
theorem zKY (env:List EVar)(b:EVar)(id:Id)(n:Int):zCH (env++[b]) id n=if b.id=id∧b.n=n then b.v else zCH env id n:=by unfold zCH;rw[List.reverse_append,List.reverse_singleton,jCv,jD8];by_cases h:b.id=id∧b.n=n<;>simp[h]
@[simp] theorem qPm:zB prog 198=true:=by kernel_rfl
def qHo:K:=G [kO 1 0,kMi 2 0] (G [kMi 3 1] (Z (G [D 6 1 2,L 7 6 1,kN 8 7,kMi 9 0] (K.block 0 (K.loop (G [kB 10 9 8 .lss] (Z (Y 10 ks (K.exit 0)) (Z (K.block 1 (G [kX 11 7 9 3,J 12 11 3,kZ 5 [ki,ki,kl],S 5 12 3] (K.ops [M 13 3,J 14 5 3,kC 15 151 [(kt 14)],kB 16 13 15 .add,M 3 16]))) (K.ops [kBi 17 9 1 .add,M 9 17]))))))) (G [M 18 3,M 2 18] kr)))
theorem qOz:zQ prog Tryz.f151.ntmps (Tryz.f151.body.getD .skip)=some qHo.erase:=by kernel_rfl
@[simp] theorem qPI:zB prog 151=true:=by kernel_rfl
theorem zO1 (v:Val):Ret prog 151 [.agg (zC v)] [] (int (zDN v)) []:=by
 refine zH Tryz.func151 rfl qOz (rs:=[.slot 2]) (by kernel_rfl) ?_;unfold qHo;simp[zC];intro hl;refine jR (S:=Nat) (fun i=>[(3,int (zLS (v.kids.take i))),(7,.sl v.kids.length (zJ v.kids)),(8,int v.kids.length),(9,int i)]) (fun s=>[]) (fun i=>i≤v.kids.length) (fun i=>v.kids.length-i) 0 (by simp)
  (zP [] 0 (by simp) (by simp) (by simp) (by simp[zLS])) ?_
 intro i hi;simp;by_cases h:i<v.kids.length
 ·simp[h,qY h];refine qE (zO1 v.kids[i]) (by simp[zC]) (by simp) ?_;simp;exact zO (i+1) h (by omega) (zP [] 0 (by simp) (by simp) (by simp) (by simp[qC h hl,zJu h]))
 ·have:i=v.kids.length:=by omega
  subst this;simp;exact zA 0 (by simp[zLM v])
termination_by zW v
decreasing_by exact zAB (jA3 _)
def qHn:K:=G [kO 1 0,kMb 2 false] (G [kZ 3 [ki],⟨none,.st none (kt 3) (kc 256) 1⟩] (G [kZ 4 [.nilFunc]] (G [⟨none,.clo (some 5) 111 [] [(kt 3),(kt 4)]⟩,S 4 5 1] (G [L 6 4 1,J 7 1 3,⟨none,.call (some 8) (kt 6) [(kt 7),(kc 1)]⟩,M 2 8] kr))))
theorem qOy:zQ prog Tryz.f73.ntmps (Tryz.f73.body.getD .skip)=some qHn.erase:=by kernel_rfl
@[simp] theorem qPH:zB prog 73=true:=by kernel_rfl
def qA5:K:=G [kO 4 0,kO 5 1,kMb 6 false] (G [L 7 2 1,kBi 8 7 1 .sub,S 2 8 1] (G [L 9 2 1,kBi 10 9 0 .geq,M 11 10,T 11 true (L 12 5 1),T 11 true (kBi 13 12 24 .leq),kPf 14 11 13,M 15 14,T 15 true (D 16 4 2),T 15 true (L 17 16 1),⟨some (15,true),.clo (some 18) 113 [] [(kt 3),(kt 5)]⟩,T 15 true (kC 19 112 [(kt 17),(kt 18)]),T 15 true (kR 20 19),kPf 21 15 20,M 6 21] kr))
theorem qIw:zQ prog Tryz.f111.ntmps (Tryz.f111.body.getD .skip)=some qA5.erase:=by kernel_rfl
@[simp] theorem qMg:zB prog 111=true:=by kernel_rfl
def qBW:K:=G [kMb 4 false] (G [M 5 0,M 6 1,kC 7 153 [(kt 5),(kt 6)],kBi 8 7 0 .geq,M 4 8] kr)
theorem qIq:zQ prog Tryz.f112.ntmps (Tryz.f112.body.getD .skip)=some qBW.erase:=by kernel_rfl
@[simp] theorem qPE:zB prog 112=true:=by kernel_rfl
def qA6:K:=G [kO 3 0,kMb 4 false] (G [L 5 1 1,J 6 3 3,L 7 2 1,kBi 8 7 1 .add,⟨none,.call (some 9) (kt 5) [(kt 6),(kt 8)]⟩,kR 10 9,M 4 10] kr)
theorem qIx:zQ prog Tryz.f113.ntmps (Tryz.f113.body.getD .skip)=some qA6.erase:=by kernel_rfl
@[simp] theorem qMh:zB prog 113=true:=by kernel_rfl
def qBX:K:=G [kMi 4 0] (Z (G [M 6 0,kN 7 6,kMi 8 0] (K.block 0 (K.loop (G [kB 9 8 7 .lss] (Z (Y 9 ks (K.exit 0)) (Z (K.block 1 (G [M 10 8,M 5 10] (G [M 11 1,M 12 0,M 13 5,kX 14 12 13 3,J 15 14 3,⟨none,.call (some 16) (kt 11) [(kt 15)]⟩] (Y 16 (G [M 17 5,M 4 17] kr) ks)))) (K.ops [kBi 18 8 1 .add,M 8 18]))))))) (G [⟨none,.mov (some 4) (kc (-1))⟩] kr))
theorem qIv:zQ prog Tryz.f153.ntmps (Tryz.f153.body.getD .skip)=some qBX.erase:=by kernel_rfl
@[simp] theorem qPG:zB prog 153=true:=by kernel_rfl
mutual
def yV:Val→Nat
 | .mk _ _ l=>yI l+1
def yI:List Val→Nat
 | []=>0
 | v::l=>max (yV v) (yI l)
end
theorem zCf (v:Val):yV v=yI v.kids+1:=by cases v; simp only[yV,Val.kids]
theorem zCm (v:Val):zW v=1+qS v.kids:=by cases v; simp only[zW,Val.kids]
theorem zJ8:∀{l:List Val} {v:Val},v∈l→yV v≤yI l
 | x::l,v,h=>by
  simp only[yI];rcases jA5.1 h with rfl | h
  ·omega
  ·have:=zJ8 h; omega
theorem zCn:∀(a b:List Val),qS (a++b)=qS a+qS b
 | [],b=>by simp[qS]
 | x::a,b=>by simp[qS,zCn a b]; omega
theorem zGx {l:List Val}{i:Nat}(h:i<l.length):qS (l.take (i+1))=qS (l.take i)+zW l[i]:=by rw[jA9 h,zCn]; simp[qS]
theorem zI4 (l:List Val)(i:Nat):qS l=qS (l.take i)+qS (l.drop i):=by
 conv=>lhs; rw[←jCb i l]
 exact zCn _ _
def zBQ:A:=.clo 111 [] [.ptr 0 0,.ptr 1 0]
def sSt (L:Nat):St:=[.box [int L],.box [zBQ]]
def zEJ (L:Nat)(d:Int):St:=[.box [int L],.box [zBQ],.box [int d]]
def zKn (v:Val)(d:Int):Prop:=∀L:Nat,zW v≤L→L≤256→Ret prog 111 [.agg (zC v),int d,.ptr 0 0,.ptr 1 0] (sSt L) (bl true) (sSt (L-zW v))
theorem zUV (v:Val)(d:Int)(hd:0≤d∧d≤100)(h:zKn v (d+1))(L:Nat)(hL:zW v≤L)(hL2:L≤256) :
 Ret prog 113 [.agg (zC v),.ptr 1 0,.ptr 2 0] (zEJ L d) (bl false) (zEJ (L-zW v) d):=by
 refine zH Tryz.func113 rfl qIx (rs:=[.slot 4]) (by kernel_rfl) ?_;unfold qA6;have hw:=jT (d+1) (by omega);simp[zEJ,zBQ,hw,zC];refine jO (h L hL hL2) [0,1] (by simp) (by simp[sSt,zBQ]) (by simp[zC]) ?_;simp[sSt,zBQ];exact zL [0,1,2] 0 (by decide) (by simp) (by simp[zBQ]) (by simp)
theorem zZb (l:List Val)(d:Int)(hd:0≤d∧d≤100)(h:∀x∈l,zKn x (d+1))(L:Nat)(hL:qS l≤L)(hL2:L≤256) :
 Ret prog 153 [.sl l.length (zJ l),.clo 113 [] [.ptr 1 0,.ptr 2 0]] (zEJ L d) (int (-1)) (zEJ (L-qS l) d):=by
 refine zH Tryz.func153 rfl qIv (rs:=[.slot 4]) (by kernel_rfl) ?_;unfold qBX;simp[zEJ,zBQ];intro hl;refine jR (S:=Nat) (fun i=>[(0,.sl l.length (zJ l)),(1,.clo 113 [] [.ptr 1 0,.ptr 2 0]),(6,.sl l.length (zJ l)),(7,int l.length),(8,int i)]) (fun i=>zEJ (L-qS (l.take i)) d) (fun i=>i≤l.length) (fun i=>l.length-i) 0 (by simp)
  (zP [0,1,2] 0 (by decide) (by simp) (by simp[zEJ,zBQ,qS]) (by simp)) ?_
 intro i hi;by_cases hil:i<l.length
 ·have e1:=zGx hil;have e2:=zI4 l (i+1);simp[hil,qY hil,zEJ,zBQ];refine jO (zUV l[i] d hd (h _ (jA3 hil)) (L-qS (l.take i)) (by omega) (by omega)) [0,1,2] (by simp) (by simp[zEJ,zBQ]) (by simp[zC]) ?_;simp[zEJ,zBQ];exact zO (i+1) hil (by omega) (zP [0,1,2] 0 (by decide) (by simp) (by simp[zEJ,zBQ,e1,Nat.sub_sub]) (by simp[qC hil hl]))
 ·have:i=l.length:=by omega
  subst this;simp[zEJ,zBQ];exact zL [0,1,2] 0 (by decide) (by simp) (by simp[zBQ]) (by simp)
theorem zY3 (l:List Val)(d:Int)(hd:0≤d∧d≤100)(h:∀x∈l,zKn x (d+1))(L:Nat)(hL:qS l≤L)(hL2:L≤256) :
 Ret prog 112 [.sl l.length (zJ l),.clo 113 [] [.ptr 1 0,.ptr 2 0]] (zEJ L d) (bl false) (zEJ (L-qS l) d):=by
 refine zH Tryz.func112 rfl qIq (rs:=[.slot 4]) (by kernel_rfl) ?_;unfold qBW;simp[zEJ,zBQ];refine jO (zZb l d hd h L hL hL2) [0,1,2] (by simp) (by simp[zEJ,zBQ]) (by simp) ?_;simp[zEJ,zBQ];exact zL [0,1,2] 0 (by decide) (by simp) (by simp[zBQ]) (by simp)
theorem zLP (v:Val)(d:Int)(hd:1≤d∧d+yV v≤25):zKn v d:=by
 intro L hL hL2;refine zH Tryz.func111 rfl qIw (rs:=[.slot 6]) (by kernel_rfl) ?_;unfold qA5;have e1:=zCm v;have e2:=zCf v;have hw:IntKind.i64.wrap ((L:Int)-1)=((L-1:Nat):Int):=by rw[IntWalk.i64_in _ (by omega)]; omega
 have hd24:d≤24:=by omega
 simp[sSt,zBQ,hw,hd24,zC];refine jO (zY3 v.kids d (by omega) (fun x hx=>zLP x (d+1) (by have:=zJ8 hx; omega)) (L-1) (by omega) (by omega)) [0,1,3] (by simp) (by simp[zEJ,zBQ]) (by simp) ?_;simp[zEJ,zBQ];exact zL [0,1] 0 (by decide) (by simp) (by simp[zBQ,e1,Nat.sub_sub]) (by simp)
termination_by zW v
decreasing_by exact zAB hx
theorem zXI (v:Val)(h1:zW v≤256)(h2:yV v≤24):Ret prog 73 [.agg (zC v)] [] (bl true) []:=by refine zH Tryz.func73 rfl qOy (rs:=[.slot 2]) (by kernel_rfl) ?_;unfold qHn;simp[zC];refine jO (zLP v 1 (by omega) 256 h1 (by omega)) [1,2] (by simp) (by simp[sSt,zBQ]) (by simp[zC]) ?_;simp[sSt,zBQ];exact zA 0 (by simp)
def zPX (l:List Id):List (List Int×A):=l.foldl (fun es d=>putI (zHz d) (.lit (.bool true)) es) []
theorem zUB (l:List Id)(x:Id):zPX (l++[x])=putI (zHz x) (.lit (.bool true)) (zPX l):=by simp[zPX,jC9]
theorem zXf (l:List Id)(k:Nat):∀p∈zPX l,p.2.bnd k=true:=by
 induction l using zGH with
 | nil=>simp[zPX]
 | snoc l y ih =>
  rw[zUB];have:∀es:List (List Int×A),(∀p∈es,p.2.bnd k=true)→∀p∈putI (zHz y) (.lit (.bool true)) es,p.2.bnd k=true:=by
   intro es;induction es with
   | nil=>intro _ p hp; simp[putI]at hp; subst hp; rfl
   | cons q es ih =>
    intro h p hp;simp only[putI]at hp;split at hp
    ·rcases jA5.1 hp with rfl | hp
     ·rfl
     ·exact h p (jAg _ hp)
    ·rcases jA5.1 hp with rfl | hp
     ·exact h _ (jAm ..)
     ·exact ih (fun p hp=>h p (jAg _ hp)) p hp
  exact this _ ih
@[simp] theorem qMG {rf:Bool→Nat→Nat→A}{g:Nat→Option Nat}(l:List Id):((zPX l).map fun p=>(p.1,vw rf g p.2))=zPX l:=by
 have h:=zXf l 0;generalize zPX l=es at h;induction es with
 | nil=>rfl
 | cons p es ih =>
  rw[jAc,ih fun q hq=>h q (jAg _ hq),zLV (k:=0) (fun l hl=>by omega) p.2 (h p (jAm ..))]
def KAt:K:=G [kMi 6 0] (Z (G [M 7 1,kBi 8 7 0 .lss,M 9 8,T 9 false (M 10 1),T 9 false (M 11 0),T 9 false (kN 12 11),T 9 false (kB 13 10 12 .geq),kPt 14 9 13] (Y 14 (G [kMi 6 0] kr) ks)) (G [M 15 0,M 16 1,kX 17 15 16 1,L 18 17 1,M 19 2,kC 20 12 [(kt 18),(kt 19)],M 6 20] kr))
theorem cAt:zQ prog Tryz.f38.ntmps (Tryz.f38.body.getD .skip)=some KAt.erase:=by kernel_rfl
@[simp] theorem qQH:zB prog 38=true:=by kernel_rfl
@[simp] theorem qPn:zB prog 83=true:=by kernel_rfl
def KOf:K:=G [kO 1 0,kZ 2 kz2] (G [J 3 1 3,kb 4 kz2 [(0,1,(kc 3)),(1,3,(kt 3))],S 2 4 5] kr)
theorem cOf:zQ prog Tryz.f62.ntmps (Tryz.f62.body.getD .skip)=some KOf.erase:=by kernel_rfl
@[simp] theorem qQI:zB prog 62=true:=by kernel_rfl
@[simp] theorem qLL:zB prog 126=true:=by kernel_rfl
@[simp] theorem qEP:zB prog 39=true:=by kernel_rfl
@[simp] theorem qPc:zB prog 128=true:=by kernel_rfl
@[simp] theorem qLO:zB prog 132=true:=by kernel_rfl
@[simp] theorem qLM:zB prog 133=true:=by kernel_rfl
@[simp] theorem qPL:zB prog 168=true:=by kernel_rfl
@[simp] theorem qPd:zB prog 167=true:=by kernel_rfl
@[simp] theorem qMi:zB prog 130=true:=by kernel_rfl
@[simp] theorem qCu:zB prog 129=true:=by kernel_rfl
@[simp] theorem qI8:zB prog 134=true:=by kernel_rfl
def atV (l:List Int)(i most:Int):Int:=if i<0∨(l.length:Int)≤i then 0 else zET (l.getD i.toNat 0) most
theorem qA9 (l:List Int)(i most:Int)(hm:0<most):Ret prog 38 [.sl l.length (zAl l),int i,int most] [] (int (atV l i most)) []:=by
 refine zH Tryz.func38 rfl cAt (rs:=[.slot 6]) (by kernel_rfl) ?_;unfold KAt;by_cases h:i<0
 ·simp[h];exact zA 0 (by simp[atV,h])
 by_cases h2:(l.length:Int)≤i
 ·simp[h,h2];exact fun _=>zA 0 (by simp[atV,h2])
 ·obtain⟨j,rfl⟩:∃j:Nat,i=j:=⟨i.toNat,by omega⟩;have hj:j<l.length:=by omega
  have hd:=zE9 hj;simp[h,h2,hj,hd];intro _;refine qE (zT8 l[j] most hm) (by simp) (by simp) ?_;simp;exact zA 0 (by simp[atV,hj,h,show ¬l.length≤j by omega])
theorem zAY {l:List Int}{i most:Int}(hl:∀x∈l,w64 x=x)(hm:0<most):0≤atV l i most∧atV l i most<most:=by
 unfold atV;split
 ·omega
 ·rename_i h;have hj:i.toNat<l.length:=by omega
  rw[jBk,jA2 hj];exact zND (hl _ (jA3 hj)) hm
def idR (k:Int):Id:=⟨0,IntKind.i64.wrap (1+IntKind.i64.wrap (k.tdiv 32)),k.tmod 32⟩
theorem qB7 (d:Id):Ret prog 62 [.agg (zG d)] [] (.agg (zM (.mk 3 d []))) []:=by refine zH Tryz.func62 rfl cOf (rs:=[.cell 2 5 true]) (by kernel_rfl) ?_;unfold KOf;simp[zG];exact zA 0 (by simp[zM])
structure Mk where
 mods:List Md
 defs:List Dfn
 l:List Int
 at_:Int
 temp:Int
 left:Int
 own:Int
 home:Id
 name:Int
def mkB (m:Mk):List A:=[.sl m.mods.length (jE m.mods),.row 1 m.defs.length,.sl m.l.length (zAl m.l),int m.at_,int m.temp,int m.left,int m.own,int m.home.a,int m.home.b,int m.home.c,int m.name]
def mkS (m:Mk):St:=[.box (mkB m),.row false 41 31 m.defs.length (qI m.defs)]
def scA:List EVar→A
 | []=>.lit (.pointer none)
 | b::l=>.rptr (zEd b++[scA l])
@[simp] theorem qMY:scA []=.lit (.pointer none):=rfl
theorem zGw (b:EVar)(l:List EVar):scA (b::l)=.rptr [.lit (.int .i64 b.id.a),.lit (.int .i64 b.id.b),.lit (.int .i64 b.id.c),.lit (.int .i64 b.n),.lit (.int .i64 b.v.k),.lit (.int .i64 b.v.n),.sl b.v.kids.length (zJ b.v.kids),scA l]:=rfl
@[simp] theorem zXp:∀l:List EVar,nrm0 (scA l)=scA l
 | []=>rfl
 | b::l=>by simp[zGw,zXp l]
@[simp] theorem qEu {rf:Bool→Nat→Nat→A}{g:Nat→Option Nat}:∀l:List EVar,vw rf g (scA l)=scA l
 | []=>rfl
 | b::l=>by simp[zGw,qEu l]
@[simp] theorem qAR (l:List EVar):cellsOf (scA l)=some [scA l]:=by cases l<;>rfl
abbrev scE (V:List EVar):A:=scA V.reverse
@[simp] theorem qMZ:scE []=.lit (.pointer none):=rfl
@[simp] theorem qKC (V:List EVar)(b:EVar):scE (V++[b])=scA (b::V.reverse):=by simp[scE]
@[simp] theorem qFP (V:List EVar)(a b:EVar):scE (V++[a,b])=scA (b::a::V.reverse):=by simp[scE]
def zJE (l:List EVar)(id:Id)(n:Int):Val:=((l.find? fun b=>decide (b.id=id∧b.n=n)).map EVar.v).getD (.mk 0 0 [])
theorem zRs (b:EVar)(l:List EVar)(id:Id)(n:Int):zJE (b::l) id n=if b.id=id∧b.n=n then b.v else zJE l id n:=by unfold zJE;rw[jD8];by_cases h:b.id=id∧b.n=n<;>simp[h]
def zX8 (a b c n a' b' c' n':Int):Bool:=decide (Id.mk a b c=Id.mk a' b' c'∧n=n')
@[simp] theorem qKB {x y:Id}{n m:Int}:zX8 x.a x.b x.c n y.a y.b y.c m=decide (x=y∧n=m):=rfl
@[simp] theorem qIY {a b c n a' b' c' n':Int}:zNO [.i,.i,.i,.i] false (.agg [.lit (.int .i64 a),.lit (.int .i64 b),.lit (.int .i64 c),.lit (.int .i64 n)]) (.agg [.lit (.int .i64 a'),.lit (.int .i64 b'),.lit (.int .i64 c'),.lit (.int .i64 n')]) =
 some (.lit (.bool (zX8 a b c n a' b' c' n'))):=by simp[zNO,zAa,zBT,zBh,and_assoc,zX8]
def qGO:K:=G [kO 3 1,kZ 4 [ki,ki,kl]] (Z (K.block 0 (K.loop (Z (G [M 5 0,⟨none,.isp (some 6) true (kt 5)⟩] (Y 6 ks (K.exit 0))) (Z (K.block 1 (Z (K.dops [(0,0,M 11 0),(1,0,kU 12 11),(2,0,D 13 12 0),(3,0,J 14 13 4),(4,0,J 15 3 4),(5,0,⟨none,.eqs (some 16) false [.i,.i,.i,.i] (kt 14) (kt 15)⟩)]) (Y 16 (G [M 17 0,kU 18 17,D 19 18 4,J 20 19 3,S 4 20 3] kr) ks))) (K.ops [M 7 0,kU 8 7,D 9 8 7,L 10 9 1,M 0 10]))))) (G [kb 21 [ki,ki,kl] [],S 4 21 3] kr))
theorem qNZ:zQ prog Tryz.f175.ntmps (Tryz.f175.body.getD .skip)=some qGO.erase:=by kernel_rfl
@[simp] theorem qOJ:zB prog 175=true:=by kernel_rfl
theorem zWm (l:List EVar)(id:Id)(n:Int):Ret prog 175 [scA l,.agg [int id.a,int id.b,int id.c,int n]] [] (.agg (zC (zJE l id n))) []:=by
 refine zH Tryz.func175 rfl qNZ (rs:=[.cell 4 3 true]) (by kernel_rfl) ?_;unfold qGO;simp;refine jR (S:=List EVar) (fun s=>[(0,scA s),(3,.ptr 0 0),(4,.ptr 1 0)]) (fun _=>[.box [int id.a,int id.b,int id.c,int n],.box [int 0,int 0,.nil]])
  (fun s=>zJE l id n=zJE s id n) (fun s=>s.length) l rfl (zP [0,1] 0 (by decide) (by simp) (by simp) (by simp)) ?_
 intro s hs;cases s with
 | nil =>
  simp;exact zA 0 (by rw[hs]; simp[zJE,zC,Val.k,Val.n,Val.kids])
 | cons b s =>
  rw[zRs]at hs;by_cases h:b.id=id∧b.n=n
  ·rw[if_pos h]at hs;obtain⟨rfl,rfl⟩:=h;simp[zGw];exact zA 0 (by rw[hs]; simp[zC])
  ·rw[if_neg h]at hs;have hd:decide (b.id=id∧b.n=n)=false:=by simpa using h
   simp[zGw,hd,-Bool.decide_and];exact zO s hs (by simp) (zP [0,1] 0 (by decide) (by simp) (by simp) (by simp))
def qGV:K:=G [kO 5 1,kO 7 3,⟨none,.mov (some 8) (.const (.pointer none))⟩] (G [J 9 5 3,M 10 2,kb 11 qJ9 [(0,3,(kt 9)),(3,1,(kt 10))],J 12 7 3,M 13 0,kb 14 [ki,ki,ki,ki,ki,ki,kl,(.pointer none)] [(0,4,(kt 11)),(4,3,(kt 12)),(7,1,(kt 13))],kO 15 14,M 8 15] kr)
theorem qOg:zQ prog Tryz.f109.ntmps (Tryz.f109.body.getD .skip)=some qGV.erase:=by kernel_rfl
@[simp] theorem qOR:zB prog 109=true:=by kernel_rfl
theorem zC3 (l:List EVar)(b:EVar):Ret prog 109 [scA l,.agg (zG b.id),int b.n,.agg (zC b.v)] [] (scA (b::l)) []:=by refine zH Tryz.func109 rfl qOg (rs:=[.slot 8]) (by kernel_rfl) ?_;unfold qGV;simp[zG,zC];exact zA 1 (by simp[zGw])
def qGM:K:=G [kO 1 0,kMi 2 0] (G [kMi 3 0] (Z (G [D 6 1 2,L 7 6 1,kN 8 7,kMi 9 0] (K.block 0 (K.loop (G [kB 10 9 8 .lss] (Z (Y 10 ks (K.exit 0)) (Z (K.block 1 (G [kX 11 7 9 3,J 12 11 3,kZ 5 [ki,ki,kl],S 5 12 3] (K.ops [M 13 3,J 14 5 3,kC 15 152 [(kt 14)],⟨none,.mm (some 16) true [(kt 13),(kt 15)]⟩,M 3 16]))) (K.ops [kBi 17 9 1 .add,M 9 17]))))))) (G [M 18 3,kBi 19 18 1 .add,M 2 19] kr)))
theorem qNX:zQ prog Tryz.f152.ntmps (Tryz.f152.body.getD .skip)=some qGM.erase:=by kernel_rfl
@[simp] theorem qOG:zB prog 152=true:=by kernel_rfl
theorem zIS (v:Val):Ret prog 152 [.agg (zC v)] [] (int (zCq v)) []:=by
 refine zH Tryz.func152 rfl qNX (rs:=[.slot 2]) (by kernel_rfl) ?_;unfold qGM;simp[zC];intro hl;refine jR (S:=Nat) (fun i=>[(3,int (zLu (v.kids.take i))),(7,.sl v.kids.length (zJ v.kids)),(8,int v.kids.length),(9,int i)]) (fun s=>[]) (fun i=>i≤v.kids.length) (fun i=>v.kids.length-i) 0 (by simp)
  (zP [] 0 (by simp) (by simp) (by simp) (by simp[zLu])) ?_
 intro i hi;simp;by_cases h:i<v.kids.length
 ·simp[h,qY h];refine qE (zIS v.kids[i]) (by simp[zC]) (by simp) ?_;simp;exact zO (i+1) h (by omega) (zP [] 0 (by simp) (by simp) (by simp) (by simp[qC h hl,zJf h,zRN]))
 ·have:i=v.kids.length:=by omega
  subst this;simp;exact zA 0 (by simp[zIQ v,w64])
termination_by zW v
decreasing_by exact zAB (jA3 _)
def zE:List A:=[.lit (.int .i64 0),.lit (.int .i64 0),.lit (.int .i64 0),.lit (.int .i64 0),.lit (.int .i64 0),.lit (.int .i64 0),.lit (.int .i64 0),.lit (.int .i64 0),.lit (.int .i64 0),.lit (.int .i64 0),.lit (.int .i64 0),.lit (.int .i64 0),.nil,.nil,.nil]
def zD:List A:=[.lit (.int .i64 0),.lit (.int .i64 0),.lit (.int .i64 0),.lit (.int .i64 0),.lit (.int .i64 0),.lit (.int .i64 0),.lit (.int .i64 0),.lit (.string ⟨#[]⟩),.nil,.lit (.int .i64 0),.lit (.int .i64 0),.lit (.int .i64 0),.lit (.int .i64 0),.nil,.lit (.int .i64 0),.lit (.int .i64 0),.lit (.int .i64 0),.lit (.int .i64 0),.lit (.int .i64 0),.lit (.int .i64 0),.lit (.int .i64 0),.lit (.int .i64 0),.lit (.int .i64 0),.lit (.int .i64 0),.lit (.int .i64 0),.lit (.int .i64 0),.nil,.nil,.nil,.lit (.int .i64 0),.nil]
@[simp] theorem qFk {z:Value}{a:A}:zFn z true (some a)=.tup [a,.lit (.bool true)]:=rfl
@[simp] theorem qDi:zFn (.agg #[(.int .i64 0),(.int .i64 0),(.int .i64 0),(.int .i64 0),(.int .i64 0),(.int .i64 0),(.int .i64 0),(.int .i64 0),(.int .i64 0),(.int .i64 0),(.int .i64 0),(.int .i64 0),(.slice none 0 0),(.slice none 0 0),(.slice none 0 0)]) true none=.tup [.agg zE,.lit (.bool false)]:=by kernel_rfl
@[simp] theorem qDh:zFn (.agg #[(.int .i64 0),(.int .i64 0),(.int .i64 0),(.int .i64 0),(.int .i64 0),(.int .i64 0),(.int .i64 0),(.string ⟨#[]⟩),(.slice none 0 0),(.int .i64 0),(.int .i64 0),(.int .i64 0),(.int .i64 0),(.slice none 0 0),(.int .i64 0),(.int .i64 0),(.int .i64 0),(.int .i64 0),(.int .i64 0),(.int .i64 0),(.int .i64 0),(.int .i64 0),(.int .i64 0),(.int .i64 0),(.int .i64 0),(.int .i64 0),(.slice none 0 0),(.slice none 0 0),(.slice none 0 0),(.int .i64 0),(.slice none 0 0)]) true none=.tup [.agg zD,.lit (.bool false)]:=by kernel_rfl
@[simp] theorem qQB:zE.length=15:=rfl
@[simp] theorem qQA:zD.length=31:=rfl
def zOh {α : Type}(idf : α→Id)(enc : α→List A)(l:List α):List (List Int×A):=l.map fun x=>(zHz (idf x),.agg (enc x))
@[simp] theorem zTf {α : Type}{idf : α→Id}{enc : α→List A}{rf:Bool→Nat→Nat→A}{g:Nat→Option Nat}(hp:∀x,qJ (enc x))(l:List α):((zOh idf enc l).map fun p=>(p.1,vw rf g p.2))=zOh idf enc l:=by
 simp only[zOh,jCc];refine jBs fun x _=>?_
 simp[(hp x).2]
@[simp] theorem qMF {rf:Bool→Nat→Nat→A}{g:Nat→Option Nat}(l:List Exp):((zOh Exp.id zU l).map fun p=>(p.1,vw rf g p.2))=zOh Exp.id zU l:=zTf zHq l
@[simp] theorem qME {rf:Bool→Nat→Nat→A}{g:Nat→Option Nat}(l:List Dfn):((zOh Dfn.id zF l).map fun p=>(p.1,vw rf g p.2))=zOh Dfn.id zF l:=zTf zA3 l
def zVw:K:=G [kO 2 0,kO 3 1,kZ 4 kz0,kMb 5 false] (Z (G [kMi 6 0] (K.block 0 (K.loop (Z (G [M 7 6,D 8 2 1,L 9 8 1,kN 10 9,kB 11 7 10 .lss] (Y 11 ks (K.exit 0))) (Z (K.block 1 (Z (K.dops [(0,0,D 14 2 1),(1,0,L 15 14 1),(2,0,M 16 6),(3,0,kX 17 15 16 31),(4,0,D 18 17 0),(5,0,J 19 18 3),(6,0,J 20 3 3),(7,0,⟨none,.eqs (some 21) false [.i,.i,.i] (kt 19) (kt 20)⟩)]) (Y 21 (G [D 22 2 1,L 23 22 1,M 24 6,kX 25 23 24 31,J 26 25 31,S 4 26 31,kMb 5 true] kr) ks))) (K.ops [M 12 6,kBi 13 12 1 .add,M 6 13])))))) (G [kb 27 kz0 [],S 4 27 31,kMb 5 false] kr))
theorem qAE:zQ prog Tryz.f36.ntmps (Tryz.f36.body.getD .skip)=some zVw.erase:=by kernel_rfl
@[simp] theorem qLT:zB prog 36=true:=by kernel_rfl
structure Bnd where
 id:Id
 n:Int
 typ:Typ
def zIT (b:Bnd):List A:=[.lit (.int .i64 b.id.a),.lit (.int .i64 b.id.b),.lit (.int .i64 b.id.c),.lit (.int .i64 b.n),.lit (.int .i64 b.typ.k),.lit (.int .i64 b.typ.id.a),.lit (.int .i64 b.typ.id.b),.lit (.int .i64 b.typ.id.c),.sl b.typ.kids.length (jY b.typ.kids)]
theorem zHp (b:Bnd):qJ (zIT b):=by have h1:=yO b.typ.kids;exact⟨by simp[zIT,h1.1],fun rf g=>by simp[zIT,h1.2]⟩
def zEU (l:List Bnd):List A:=l.flatMap zIT
theorem zHM (l:List Bnd):qJ (zEU l):=zBl zHp l
@[simp] theorem qBt (l:List Bnd):jF (zEU l)=zEU l:=(zHM l).1
@[simp] theorem qGe {rf g}(l:List Bnd):vwL rf g (zEU l)=zEU l:=(zHM l).2 _ _
@[simp] theorem qCx:zEU []=[]:=rfl
@[simp] theorem qCw (l:List Bnd):(zEU l).length=l.length*9:=by rw[zEU,zBU (k:=9) (fun _=>rfl)]
@[simp] theorem qIF (d:Bnd):(zIT d).length=9:=rfl
@[simp] theorem qIE (d:Bnd):(zIT d).take 9=zIT d:=jAk (jA _)
@[simp] theorem qES (d:Bnd)(l:List A):(zIT d++l).take 9=zIT d:=by rw[jBr (by simp)]; exact jAk (by simp)
@[simp] theorem qF0 (d:Bnd):jF (zIT d)=zIT d:=(zHp d).1
@[simp] theorem qNl (d:Bnd) {rf g}:vwL rf g (zIT d)=zIT d:=(zHp d).2 _ _
theorem tmN {x k:Int}(h:0≤x):x.tmod k=x % k:=jD2 h
theorem tdN {x k:Int}(h:0≤x):x.tdiv k=x / k:=Int.tdiv_eq_ediv_of_nonneg h
def zZA (ds:List Dfn):St:=[.row false 41 31 ds.length (qI ds)]
def zHR (ds:List Dfn)(i:Id):Dfn×Bool:=match ds.find? fun d=>decide (d.id=i)with
 | some d=>(d,true)
 | none=>(Dfn.zero,false)
theorem zMB {ds:List Dfn}{i:Nat}{x:Id}(h:i<ds.length)(hn:∀d∈ds.take i,d.id≠x)(he:ds[i].id=x):(ds.find? fun d=>decide (d.id=x))=some ds[i]:=by
 have e:ds=ds.take i++ds[i]::ds.drop (i+1):=by rw[←jAv h,jCb]
 have h1:((ds.take i).find? fun d=>decide (d.id=x))=none:=jD3.2 fun d hd=>by simpa using hn d hd
 have h2:∀y,y=ds[i]→(ds.find? fun d=>decide (d.id=x))=some y:=fun y hy=>by rw[←hy]at e he;rw[e,List.find?_append,h1];simp[he]
 exact h2 _ rfl
theorem qK1 (M:List Md)(ds:List Dfn)(x:Id)(hL:ds.length≤1000000):Ret prog 36 [.agg [.sl M.length (jE M),.row 0 ds.length],.agg (zG x)] (zZA ds) (.tup [.agg (zF (zHR ds x).1),bl (zHR ds x).2]) (zZA ds):=by
 refine zH Tryz.func36 rfl qAE (rs:=[.cell 4 31 true,.slot 5]) (by kernel_rfl) ?_;unfold zVw;simp[zZA,zG];refine jR (S:=Nat) (fun i=>[(2,.ptr 1 0),(3,.ptr 2 0),(4,.ptr 3 0),(6,int i)]) (fun _=>[.row false 41 31 ds.length (qI ds),.box [.sl M.length (jE M),.row 0 ds.length],.box (zG x),.box (zF Dfn.zero)]) (fun i=>i≤ds.length∧∀d∈ds.take i,d.id≠x) (fun i=>ds.length-i) 0 (by simp)
  (zP [0,1,2,3] 0 (by decide) (by simp) (by simp[zG,zF,Dfn.zero,Id.zero,Typ.zero,Exp.zero]) (by simp)) ?_
 rintro i ⟨hi,hn⟩;by_cases h:i<ds.length
 ·have hd:=zAH h;have hb3:i*31+3≤ds.length*31:=by omega
  have hb31:i*31+31≤ds.length*31:=by omega
  have hw:=zAz i (by omega);by_cases he:ds[i].id=x
  ·have hv:zHR ds x=(ds[i],true):=by unfold zHR; rw[zMB h hn he]
   have he3:zFE ds[i].id.a ds[i].id.b ds[i].id.c x.a x.b x.c=true:=by rw[zCa]; exact decide_eq_true he
   simp[h,hd,zG,zF,he3,hb3,hb31];exact zL [0] 0 (by decide) (by simp) (by simp) (by simp[hv,zF])
  ·have he3:zFE ds[i].id.a ds[i].id.b ds[i].id.c x.a x.b x.c=false:=by rw[zCa]; exact decide_eq_false he
   simp[h,hd,zG,zF,he3,hb3,hb31];exact zO (i+1) ⟨h,fun d hd'=>by
    rw[jA9 h]at hd';rcases jAe.1 hd' with hd' | hd'
    ·exact hn d hd'
    ·rw[jAh.1 hd']; exact he⟩ (by omega) (zP [0,1,2,3] 0 (by decide) (by simp) (by simp[zG,zF,Dfn.zero,Id.zero,Typ.zero,Exp.zero]) (by simp[hw]))
 ·have:i=ds.length:=by omega
  subst this;rw[jB0]at hn;have hv:zHR ds x=(Dfn.zero,false):=by unfold zHR;rw[jD3.2 fun d hd=>by simpa using hn d hd]
  simp[zF,Dfn.zero,Id.zero,Typ.zero,Exp.zero]
  first | exact fun _=>zL [0] 0 (by decide) (by simp) (by simp) (by simp[hv,zF,Dfn.zero,Id.zero,Typ.zero,Exp.zero]) | exact zL [0] 0 (by decide) (by simp) (by simp) (by simp[hv,zF,Dfn.zero,Id.zero,Typ.zero,Exp.zero])
theorem zZ6 (M:List Md)(ds:List Dfn)(x:Id)(hL:ds.length≤1000000):Ret prog 36 [.agg [.sl M.length (jE M),.sl ds.length (qI ds)],.agg (zG x)] [] (.tup [.agg (zF (zHR ds x).1),bl (zHR ds x).2]) []:=by
 refine zH Tryz.func36 rfl qAE (rs:=[.cell 4 31 true,.slot 5]) (by kernel_rfl) ?_;unfold zVw;simp[zZA,zG];refine jR (S:=Nat) (fun i=>[(2,.ptr 0 0),(3,.ptr 1 0),(4,.ptr 2 0),(6,int i)]) (fun _=>[.box [.sl M.length (jE M),.sl ds.length (qI ds)],.box (zG x),.box (zF Dfn.zero)]) (fun i=>i≤ds.length∧∀d∈ds.take i,d.id≠x) (fun i=>ds.length-i) 0 (by simp)
  (zP [0,1,2] 0 (by decide) (by simp) (by simp[zG,zF,Dfn.zero,Id.zero,Typ.zero,Exp.zero]) (by simp)) ?_
 rintro i ⟨hi,hn⟩;by_cases h:i<ds.length
 ·have hd:=zAH h;have hb3:i*31+3≤ds.length*31:=by omega
  have hb31:i*31+31≤ds.length*31:=by omega
  have hw:=zAz i (by omega);by_cases he:ds[i].id=x
  ·have hv:zHR ds x=(ds[i],true):=by unfold zHR; rw[zMB h hn he]
   have he3:zFE ds[i].id.a ds[i].id.b ds[i].id.c x.a x.b x.c=true:=by rw[zCa]; exact decide_eq_true he
   simp[h,hd,zG,zF,he3,hb3,hb31];intro hl; exact zL [] 0 (by decide) (by simp) (by simp) (by simp[hv,zF])
  ·have he3:zFE ds[i].id.a ds[i].id.b ds[i].id.c x.a x.b x.c=false:=by rw[zCa]; exact decide_eq_false he
   simp[h,hd,zG,zF,he3,hb3,hb31];intro hl; exact zO (i+1) ⟨h,fun d hd'=>by
    rw[jA9 h]at hd';rcases jAe.1 hd' with hd' | hd'
    ·exact hn d hd'
    ·rw[jAh.1 hd']; exact he⟩ (by omega) (zP [0,1,2] 0 (by decide) (by simp) (by simp[zG,zF,Dfn.zero,Id.zero,Typ.zero,Exp.zero]) (by simp[hw]))
 ·have:i=ds.length:=by omega
  subst this;rw[jB0]at hn;have hv:zHR ds x=(Dfn.zero,false):=by unfold zHR;rw[jD3.2 fun d hd=>by simpa using hn d hd]
  simp[zF,Dfn.zero,Id.zero,Typ.zero,Exp.zero]
  first | exact fun _=>zL [] 0 (by decide) (by simp) (by simp) (by simp[hv,zF,Dfn.zero,Id.zero,Typ.zero,Exp.zero]) | exact zL [] 0 (by decide) (by simp) (by simp) (by simp[hv,zF,Dfn.zero,Id.zero,Typ.zero,Exp.zero])
def zOy {α : Type}(idf : α→Id)(D:List α)(c : α→Bool)(met:List Nat):List Id:=met.filterMap fun i=>(D[i]?).bind fun x=>if c x then some (idf x) else none
theorem zUU {α : Type}{idf : α→Id}{D:List α}{c : α→Bool}{met:List Nat}{i:Nat}{x : α}(h:D[i]?=some x):zOy idf D c (met++[i])=if c x then zOy idf D c met++[idf x] else zOy idf D c met:=by simp only[zOy,List.filterMap_append,List.filterMap_cons,List.filterMap_nil,h,Option.bind_some];cases c x<;>simp
theorem zPv {α β : Type}{f g : α→Option β}:∀{l:List α},(∀x∈l,f x=g x)→l.filterMap f=l.filterMap g
 | [],_=>rfl
 | x::l,h=>by rw[List.filterMap_cons,List.filterMap_cons,h x (jAm ..),zPv fun y hy=>h y (jAg _ hy)]
theorem zSj {α : Type}{idf : α→Id}{c : α→Bool}(D:List α):zOy idf D c (List.range D.length)=(D.filter c).map idf:=by
 induction D using zGH with
 | nil=>rfl
 | snoc D y ih =>
  have h1:zOy idf (D++[y]) c (List.range D.length)=zOy idf D c (List.range D.length):=by
   unfold zOy;refine zPv fun i hi=>?_
   rw[jAd (jCj.1 hi)]
  rw[jA7,jC2,List.range_succ,zUU (x:=y) (by simp),h1,ih,List.filter_append,jCk];cases hc:c y<;>simp[hc]
structure Met (n:Nat)(met:List Nat):Prop where
 nd:met.Nodup
 lt:∀i∈met,i<n
theorem Met.snoc {n:Nat}{met:List Nat}(h:Met n met){i:Nat}(hi:i<n)(hn:i∉met):Met n (met++[i]):=by
 refine⟨?_,fun j hj=>?_⟩
 ·rw[jCi];refine⟨h.nd,by simp,fun a ha b hb=>?_⟩;simp only[jAh]at hb;subst hb;exact fun e=>hn (e▸ha)
 ·rcases jAe.1 hj with hj | hj
  ·exact h.lt j hj
  ·rw[jAh.1 hj]; exact hi
theorem Met.le {n:Nat}{met:List Nat}(h:Met n met):met.length≤n:=by
 have:=h.nd.length_le_of_subset (l₂:=List.range n) fun i hi=>jCj.2 (h.lt i hi)
 simpa using this
theorem Met.perm {n:Nat}{met:List Nat}(h:Met n met)(ha:∀i,i<n→i∈met):met.Perm (List.range n) :=
 (List.perm_ext_iff_of_nodup h.nd List.nodup_range).2 fun i=>⟨fun hi=>jCj.2 (h.lt i hi),fun hi=>ha i (jCj.1 hi)⟩
theorem Met.sel {α : Type}{idf : α→Id}{c : α→Bool}{D:List α}{met:List Nat}(h:Met D.length met)(ha:∀i,i<D.length→i∈met):(zOy idf D c met).Perm ((D.filter c).map idf):=by rw[←zSj];exact(h.perm ha).filterMap _
@[simp] theorem qJO {α : Type}{idf : α→Id}{enc : α→List A}{D:List α}:(zOh idf enc D).length=D.length:=by simp[zOh]
end Go.Proofs.YtdnelmeboihpkaaGreatDoor
