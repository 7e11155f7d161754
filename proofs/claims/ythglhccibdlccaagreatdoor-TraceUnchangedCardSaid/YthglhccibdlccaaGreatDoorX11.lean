/-
  Regions in order: the deferred calls stay as they are.
  Values as data: their cells; size, depth and order.
  slices.Compact at lists of IDs.
  value.SameType, trace.sameDef, trace.sameNode, trace.bodied.
  Numbers of the reference's evaluator: clip, truth.
  The reference's environments: With, Find.
  value.Size and trace.deep.
  value.small: true at small values.
  trace.set, Join and Asks; the law's lists of IDs.
-/
import Derived.Test.YthglhccibdlccaaGreatDoorX10
set_option linter.unusedVariables false
set_option maxHeartbeats 8000000
set_option maxRecDepth 100000
set_option linter.unusedSimpArgs false
open Go.Proofs.Tryz (prog)
namespace Go.Abs
section
variable {P:Program}{n0:Nat}
def zGY (H:Mem)(L:List LI)(w:World)(N:Nat)(Q:Ex→Env→St→Prop)(dfs:List Deferred):Exit→Act→World→Prop:=fun e a' w' =>
 ∃x env' σ' H' L',e=x.exit?∧a'.defers=dfs∧qJ H' L' N env' a'.tmps∧Nxt H L w H' L' σ' w'∧Q x env' σ'
theorem zGY.next {N:Nat}{w:World}{H:Mem}{L:List LI}{H':Mem}{L':List LI} {σ':St}{w':World}{Q:Ex→Env→St→Prop}{dfs:List Deferred}(hn:Nxt H L w H' L' σ' w'){e:Exit}{b:Act}{v:World}(h:zGY H' L' w' N Q dfs e b v):zGY H L w N Q dfs e b v:=by obtain⟨x,env'',σ'',H'',L'',h1,h2,h3,h4,h5⟩:=h;exact⟨x,env'',σ'',H'',L'',h1,h2,h3,hn.trans h4,h5⟩
theorem zGY.post {N:Nat}{w:World}{H:Mem}{L:List LI}{Q:Ex→Env→St→Prop}{dfs:List Deferred}{e:Exit}{b:Act}{v:World}(h:zGY H L w N Q dfs e b v):zHj H L w N Q dfs e b v:=by obtain⟨x,env'',σ'',H'',L'',h1,h2,h3,h4,h5⟩:=h;exact⟨x,env'',σ'',H'',L'',h1,h2▸Mk.refl _ _ _,h3,h4,h5⟩
theorem zF4 {N:Nat}{ro:Option Nat}{ops:Array Oper}(hall:∀o∈ops.toList,∀x,o.dst=some x→x<N){Q:Ex→Env→St→Prop}{dfs:List Deferred}{Qc:Exit→Act→World→Prop} :
 ∀(l:List Oper) (gs:List KG) {H:Mem} {L:List LI} {σ : St} {w:World} {env:Env} {a:Act},zJ1 P N ops l gs→qJ H L N env a.tmps→RelSt H L σ w→a.defers=dfs →
  zCF P (fun v=>Q (.pan v)) (Q .norm) gs env σ→(∀e b v,zGY H L w N Q dfs e b v→Qc e b v)→wpListIn (Wr ro) 0 P ops Qc l a w
 | [],gs,H,L,σ,w,env,a,hc,he,hs,hd,h,hQ=>by simp only[zJ1]at hc;subst hc;exact hQ _ _ _ ⟨.norm,env,σ,H,L,rfl,hd,he,Nxt.refl hs,h⟩
 | o::l,gs,H,L,σ,w,env,a,hc,he,hs,hd,h,hQ=>by
  simp only[zJ1]at hc;obtain⟨g,gs',rfl,hg,hgs⟩:=hc;obtain⟨hk,hdst,hgd⟩:=zAa hg;have hkd:=zA5 hk;have hke:g.erase.op.dst=g.op.dst:=by show g.op.erase.dst=g.op.dst;cases g.op<;>rfl
  rw[hke]at hkd;simp only[zCF]at h;have exec:wpO P (fun v=>Q (.pan v)) (zCF P (fun v=>Q (.pan v)) (Q .norm) gs') g.op env σ→o.wpIn (Wr ro) 0 P a w (wpListIn (Wr ro) 0 P ops Qc l) Qc:=by
   intro h;refine zDH hk hdst he hs h (fun env' σ' H' L' a' w' h1 h2 h3 h4=>?_) (fun v σ' H' L' w' h1 h2=>?_)
   ·exact zF4 hall l gs' hgs h2 h3.st (h1.trans hd) h4 fun e b v hp=>hQ e b v (hp.next h3)
   ·exact hQ _ _ _ ⟨.pan v,env,σ',H',L',rfl,hd,he.mono h1.step.hle h1.lle,h1,h2⟩
  have skip:zCF P (fun v=>Q (.pan v)) (Q .norm) gs' (env.put g.op.dst (.lit undef)) σ→wpListIn (Wr ro) 0 P ops Qc l (a.put o.dst undef) w:=by intro h;refine zF4 hall l gs' hgs ?_ hs ((qZ _ _).trans hd) h hQ;rw[hkd];exact he.put hdst (by simp[Rel])
  unfold wpListIn;have hge:g.erase.guard=g.guard:=rfl;rw[hge]at hgd;rcases hgd with ⟨ho,hgn⟩ | ⟨j,want,s,ho,hsl,hgn⟩
  ·simp only[wpG,hgn]at h;have hw:Region.wanted o (yielded ops a.tmps)=true:=by simp[Region.wanted,ho]
   rw[if_pos hw];exact exec h
  ·simp only[wpG,hgn]at h;have hsN:=zFb hsl hall;obtain⟨w1,w2⟩:=zD3 (a:=a) ho hsl (jBv hsN he.1);have hrel:=he.2 s;split at h
   ·rename_i b hb;rw[hb]at hrel;simp only[Rel]at hrel;rw[w1 b hrel];by_cases hbw:b=want
    ·simp only[hbw,decide_true,if_true];exact exec (h.1 (by simp[hbw]))
    ·simp only[hbw,decide_false,jAc,if_false];exact⟨fun _ _=>trivial,skip (h.2 (by simp[hbw]))⟩
   ·rename_i t ht;rw[ht]at hrel;simp only[Rel]at hrel;rw[w2 t hrel];simp only[jAc,if_false];exact⟨fun _ _=>trivial,skip h⟩
   ·exact h.elim
theorem zLE {N:Nat}{hint:Nat→Option (List (Nat×Nat))}{H:Mem}{L:List LI} {σ : St}{w:World}{env:Env}{a:Act}{id:Nat}{ops:Array Oper}{l:List KG}(hc:qD P N hint (.region id ops false)=some (K.ops l).erase)
 (he:qJ H L N env a.tmps)(hs:RelSt H L σ w){Q:Ex→Env→St→Prop}(h:wpK P n0 (.ops l) Q env σ){Qc:Exit→Act→World→Prop}(hQ:∀e b v,zGY H L w N Q a.defers e b v→Qc e b v):(Code.region id ops false).wpIn Fence.wide 0 P Qc a w:=by
 simp only[qD,K.erase]at hc;split at hc<;>try (cases hc; done)
 rename_i l' hl;simp only[jAc,if_false,jA1,K.ops.injEq]at hc;subst hc;simp only[wpK]at h;have hall:∀o∈ops.toList,∀x,o.dst=some x→x<N:=by
  obtain⟨hlen,hget⟩:=zC5 hl;intro o ho;obtain⟨i,hi⟩:=jCj ho;have hlt:i<(l.map KG.erase).length:=by rw[hlen]; exact(jA4.1 hi).1
  exact(zAa (hget i o _ hi (jA2 hlt))).2.1
 exact wpIn_region_list (zF4 (ro:=none) (Q:=Q) (dfs:=a.defers) hall ops.toList l (zKK hl) he hs rfl h hQ)
theorem zDf {ops:Array Oper}{N:Nat}{ro:Option Nat}{all:List (Nat×Nat×KG)}(hc:Comp P N ops all)(hall:∀o∈ops.toList,∀x,o.dst=some x→x<N){Q:Ex→Env→St→Prop}{dfs:List Deferred}{Qc:Exit→Act→World→Prop} :
 ∀(fuel:Nat) (listed:Array Bool) {H:Mem} {L:List LI} {σ : St} {w:World} {env:Env} {a:Act},qJ H L N env a.tmps→RelSt H L σ w→a.defers=dfs →
  zF3 P (zL7 Q) ops all (Q .norm) fuel listed env σ→(∀e b v,zGY H L w N Q dfs e b v→Qc e b v)→wpAnyIn (Wr ro) 0 P .any ops Qc fuel listed a w
 | 0,listed,H,L,σ,w,env,a,he,hs,hd,h,hQ=>⟨h.1,hQ _ _ _ ⟨.norm,env,σ,H,L,rfl,hd,he,Nxt.refl hs,h.2⟩⟩
 | fuel+1,listed,H,L,σ,w,env,a,he,hs,hd,h,hQ=>by
  refine⟨fun h0=>hQ _ _ _ ⟨.norm,env,σ,H,L,rfl,hd,he,Nxt.refl hs,h.1 h0⟩,fun i hi=>?_⟩;obtain⟨_,o,ho,_⟩:=mem_ready.1 hi;rcases h.2 i hi with ⟨f,g,r,σ1,hg,hy,hK⟩ | ⟨f8,d,fo,args,hf8,hg,hcn⟩
  rotate_left
  ·have hcg:=hc.get i f8 o _ ho hg;obtain⟨hk,hdst,hgd⟩:=zAa hcg;unfold wpOpIn;simp only[ho];rcases hgd with ⟨hog,hgn⟩ | ⟨j,want,s,hog,hsl,hgn⟩
   ·have hw:Region.wanted o (yielded ops a.tmps)=true:=by simp[Region.wanted,hog]
    rw[if_pos hw];refine zDH (k:=.call d fo args) (Qp:=fun v _ τ=>zL7 Q v τ) (K:=fun env' τ=>zF3 P (zL7 Q) ops all (Q .norm) fuel (listed.setIfInBounds i true) env' τ) hk hdst he hs ?_ (fun env' σ' H' L' a' w' h1 h2 h3 h4=>?_) (fun v σ' H' L' w' h1 h2=>hQ _ _ _ ⟨.pan v,env,σ',H',L',rfl,hd,he.mono h1.step.hle h1.lle,h1,h2 env⟩)
    ·simp only[wpO];unfold zKG at hcn;split at hcn
     ·rename_i g first cap hfo
      simp only[hfo];refine⟨hcn.1,fun H L w vs h3 h4=>(hcn.2 H L w vs h3 h4).mono fun e w' hh=>?_⟩;obtain⟨o,σ',H',L',g1,g2,hh⟩:=hh;refine⟨o,σ',H',L',g1,g2,?_⟩;rcases hh with ⟨r,rfl,g4,g5⟩ | ⟨v,rfl,g4⟩
      ·exact g5
      ·exact g4
     ·exact hcn.elim
    ·exact zDf hc hall fuel _ h2 h3.st (h1.trans hd) h4 fun e b v hp=>hQ e b v (hp.next h3)
   ·cases hgn
  have hcg:=hc.get i f o g ho hg;obtain⟨hk,hdst,hgd⟩:=zAa hcg;have hkd:=zA5 hk;rw[show g.erase.op.dst=g.op.dst from zG8 _]at hkd;unfold wpOpIn;simp only[ho];have exec:eff P env σ r σ1 g.op→o.wpIn (Wr ro) 0 P a w (wpAnyIn (Wr ro) 0 P .any ops Qc fuel (listed.setIfInBounds i true)) Qc:=by intro hq;refine zDH (k:=g.op) (Qp:=fun _ _ _=>False) hk hdst he hs (zMp hq) (fun env' σ' H' L' a' w' h1 h2 h3 h4=>?_) (fun v σ' H' L' w' h1 h2=>h2.elim);obtain⟨h4,h5⟩:=h4;subst h4;subst h5;exact zDf hc hall fuel _ h2 h3.st (h1.trans hd) hK fun e b v hp=>hQ e b v (hp.next h3)
  have skip:r=.lit undef→σ1 = σ→wpAnyIn (Wr ro) 0 P .any ops Qc fuel (listed.setIfInBounds i true) (a.put o.dst undef) w:=by rintro rfl rfl;refine zDf hc hall fuel _ ?_ hs ((qZ _ _).trans hd) hK hQ;rw[hkd];exact he.put hdst (by simp[Rel])
  replace hy:=hy.1;unfold zDi at hy;rcases hgd with ⟨hog,hgn⟩ | ⟨j,want,s,hog,hsl,hgn⟩
  ·replace hgn:g.guard=none:=hgn;simp only[hgn]at hy;have hw:Region.wanted o (yielded ops a.tmps)=true:=by simp[Region.wanted,hog]
   rw[if_pos hw];exact exec hy
  ·replace hgn:g.guard=some (s,want):=hgn;simp only[hgn]at hy;have hsN:=zFb hsl hall;obtain⟨w1,w2⟩:=zD3 (a:=a) hog hsl (jBv hsN he.1);have hrel:=he.2 s;split at hy
   ·rename_i b hb;rw[hb]at hrel;simp only[Rel]at hrel;rw[w1 b hrel];by_cases hbw:b=want
    ·simp only[hbw,decide_true,if_true];exact exec (hy.1 hbw)
    ·simp only[hbw,decide_false,jAc,if_false];exact⟨fun _ _=>trivial,skip (hy.2 hbw).1 (hy.2 hbw).2⟩
   ·rename_i t ht;rw[ht]at hrel;simp only[Rel]at hrel;rw[w2 t hrel];simp only[jAc,if_false];exact⟨fun _ _=>trivial,skip hy.1 hy.2⟩
   ·exact hy.elim
theorem zRU {ops:Array Oper}{N:Nat}{H:Mem}{L:List LI} {σ : St}{w:World}{env:Env}{a:Act}{ro:Option Nat}{id:Nat}{gs:List KG}{l:List (Nat×Nat×KG)}(hm:P.follows .mixedOrders=true)(hB:zKQ ops l=true)(hlo:zEl ops ops.toList gs=true)(hc:zCi P N ops ops.toList=some gs)(hl:∀x∈l,∃g,gs[x.1]?=some g∧x.2.2.erase=g.erase)
 {Q:Ex→Env→St→Prop}{dfs:List Deferred}{Qc:Exit→Act→World→Prop}(he:qJ H L N env a.tmps)(hs:RelSt H L σ w)(hd:a.defers=dfs)
 (h:wpD P (zL7 Q) (Q .norm) l env σ)(hQ:∀e b v,zGY H L w N Q dfs e b v→Qc e b v):(Code.region id ops true).wpIn (Wr ro) 0 P Qc a w:=by
 obtain⟨hlen,hget⟩:=zC5 hc;have hcm:Comp P N ops l:=⟨fun i f o g ho hg=>by obtain⟨g0,h1,h2⟩:=hl (i,f,g) hg;have h3:=hget i o g0 (by simpa using ho) h1;rw[show g.erase=g0 from h2.trans (zC4 h3)];exact h3⟩
 have hf:Fits ops l:=⟨fun i f o g ho hg=>(zG8 g.op).symm.trans (zA5 (zAa (hcm.get i f o g ho hg)).1),fun i f o g ho hg=>by obtain⟨g0,h1,h2⟩:=hl (i,f,g) hg;have h3:=hget i o g0 (by simpa using ho) h1;have h4:=zGe hlo i o g0 (by simpa using ho) h1;rw[←zJG,show g.erase=g0 from h2.trans (zC4 h3)];exact h4⟩
 have hall:∀o∈ops.toList,∀x,o.dst=some x→x<N:=by
  intro o ho;obtain⟨i,hi⟩:=jCj ho;have hlt:i<gs.length:=by rw[hlen]; exact(jA4.1 hi).1
  exact(zAa (hget i o _ hi (jA2 hlt))).2.1
 simp only[zKQ,jA6,beq_iff_eq]at hB;obtain⟨⟨hB,hsz⟩,_⟩:=hB;refine wpIn_region_any hm ?_;have hs':RelSt H L σ {w with drawn:=w.drawn+1}:=hs.heap_eq rfl;have hlex:=zDW hf l (Array.replicate ops.size false) env σ (fun _ hx=>hx) hB h;rw[hsz]at hlex;have hn:Nxt H L w H L σ {w with drawn:=w.drawn+1}:=⟨hs',⟨rfl,rfl,rfl,jA _,fun _ _ _=>rfl,HLe.refl _,fun _ _ _ h=>.inl h,jCk _,fun _ _ h=>h⟩,LLe.refl _,fun _ h=>.inl h⟩;refine zDf hcm hall _ _ he hs' hd hlex fun e b v hp=>hQ e b v ?_
 exact hp.next hn
theorem zQa {N:Nat}{hint:Nat→Option (List (Nat×Nat))}{H:Mem}{L:List LI} {σ : St}{w:World}{env:Env}{a:Act}{id:Nat}{ops:Array Oper}{l:List (Nat×Nat×KG)}(hc:qD P N hint (.region id ops true)=some (K.dops l).erase)
 (he:qJ H L N env a.tmps)(hs:RelSt H L σ w){Q:Ex→Env→St→Prop}(h:wpK P n0 (.dops l) Q env σ){Qc:Exit→Act→World→Prop}(hQ:∀e b v,zGY H L w N Q a.defers e b v→Qc e b v):(Code.region id ops true).wpIn Fence.wide 0 P Qc a w:=by
 simp only[qD,K.erase]at hc;split at hc<;>try (cases hc; done)
 rename_i l' hl;simp only[if_true]at hc;split at hc<;>try (cases hc; done)
 rename_i r hr;split at hc<;>try (cases hc; done)
 rename_i hb;simp only[jA6]at hb;simp only[jA1,K.dops.injEq]at hc;subst hc;simp only[wpK]at h;have hmem:∀x∈r,∃g,l'[x.1]?=some g∧x.2.2.erase=g.erase:=fun x hx=>by
  split at hr
  ·exact zJh hr hx
  ·cases hr; exact⟨_,zJM hx,rfl⟩
 exact zRU (ro:=none) (Q:=Q) (dfs:=a.defers) hb.1.2 hb.1.1 hb.2 hl hmem he hs rfl h hQ
theorem zIv {N:Nat}{hint:Nat→Option (List (Nat×Nat))}{H:Mem}{L:List LI} {σ : St}{w:World}{env:Env}{a:Act}{id:Nat}{ops:Array Oper}{l:List KG}{rest:Code}(hc:qD P N hint (.region id ops false)=some (K.ops l).erase)
 (he:qJ H L N env a.tmps)(hs:RelSt H L σ w){Q:Ex→Env→St→Prop}(h:wpK P n0 (.ops l) Q env σ){Qc:Exit→Act→World→Prop}
 (hQ:∀env' τ H' L' w' a',a'.defers=a.defers→qJ H' L' N env' a'.tmps→Nxt H L w H' L' τ w'→Q .norm env' τ→rest.wpIn Fence.wide 0 P Qc a' w')
 (hX:∀x env' τ H' L' w' a',x≠.norm→a'.defers=a.defers→qJ H' L' N env' a'.tmps→Nxt H L w H' L' τ w'→Q x env' τ→Qc x.exit? a' w'):(Code.seq (.region id ops false) rest).wpIn Fence.wide 0 P Qc a w:=by
 refine wpIn_seq (zLE hc he hs h fun e b v hp=>?_);obtain⟨x,env',τ,H',L',rfl,g2,g3,g4,g5⟩:=hp;cases x with
 | norm=>exact hQ env' τ H' L' v b g2 g3 g4 g5
 | exit i=>exact hX _ env' τ H' L' v b (by simp) g2 g3 g4 g5
 | ret=>exact hX _ env' τ H' L' v b (by simp) g2 g3 g4 g5
 | pan v'=>exact hX _ env' τ H' L' v b (by simp) g2 g3 g4 g5
theorem zX8 {N:Nat}{hint:Nat→Option (List (Nat×Nat))}{H:Mem}{L:List LI} {σ : St}{w:World}{env:Env}{a:Act}{id:Nat}{ops:Array Oper}{l:List (Nat×Nat×KG)}{rest:Code}(hc:qD P N hint (.region id ops true)=some (K.dops l).erase)
 (he:qJ H L N env a.tmps)(hs:RelSt H L σ w){Q:Ex→Env→St→Prop}(h:wpK P n0 (.dops l) Q env σ){Qc:Exit→Act→World→Prop}
 (hQ:∀env' τ H' L' w' a',a'.defers=a.defers→qJ H' L' N env' a'.tmps→Nxt H L w H' L' τ w'→Q .norm env' τ→rest.wpIn Fence.wide 0 P Qc a' w')
 (hX:∀x env' τ H' L' w' a',x≠.norm→a'.defers=a.defers→qJ H' L' N env' a'.tmps→Nxt H L w H' L' τ w'→Q x env' τ→Qc x.exit? a' w'):(Code.seq (.region id ops true) rest).wpIn Fence.wide 0 P Qc a w:=by
 refine wpIn_seq (zQa hc he hs h fun e b v hp=>?_);obtain⟨x,env',τ,H',L',rfl,g2,g3,g4,g5⟩:=hp;cases x with
 | norm=>exact hQ env' τ H' L' v b g2 g3 g4 g5
 | exit i=>exact hX _ env' τ H' L' v b (by simp) g2 g3 g4 g5
 | ret=>exact hX _ env' τ H' L' v b (by simp) g2 g3 g4 g5
 | pan v'=>exact hX _ env' τ H' L' v b (by simp) g2 g3 g4 g5
end
end Go.Abs
namespace Go.Proofs.YthglhccibdlccaaGreatDoor
open Go.Abs
inductive Val where
 | mk (k n:Int) (kids:List Val)
def Val.k:Val→Int | .mk k _ _=>k
def Val.n:Val→Int | .mk _ n _=>n
def Val.kids:Val→List Val | .mk _ _ l=>l
mutual
def zJA:Val→A
 | .mk _ _ l=>.sl l.length (zV l)
def zV:List Val→List A
 | []=>[]
 | v::l=>.lit (.int .i64 v.k)::.lit (.int .i64 v.n)::zJA v::zV l
end
def zJ (v:Val):List A:=[.lit (.int .i64 v.k),.lit (.int .i64 v.n),.sl v.kids.length (zV v.kids)]
theorem zVU (v:Val):zJA v=.sl v.kids.length (zV v.kids):=by cases v; simp only[zJA,Val.kids]
@[simp] theorem qDj:zV []=[]:=by simp only[zV]
@[simp] theorem zOQ (v:Val)(l:List Val):zV (v::l)=.lit (.int .i64 v.k)::.lit (.int .i64 v.n)::.sl v.kids.length (zV v.kids)::zV l:=by simp only[zV,zVU]
@[simp] theorem zQQ:∀l:List Val,(zV l).length=l.length*3
 | []=>by simp
 | v::l=>by simp[zQQ l]; omega
mutual
theorem zOM:∀v:Val,nrm0 (zJA v)=zJA v∧∀rf g,vw rf g (zJA v)=zJA v
 | .mk k n l=>by have h:=zBZ l;simp only[zJA];exact⟨by simp[h.1],fun rf g=>by simp[h.2]⟩
theorem zBZ:∀l:List Val,jM (zV l)
 | []=>by simp only[zV]; exact jM.nil
 | v::l=>by have h:=zOM v;have h':=zBZ l;simp only[zV];exact⟨by simp[h.1,h'.1],fun rf g=>by simp[h.2,h'.2]⟩
end
@[simp] theorem qBQ (l:List Val):jK (zV l)=zV l:=(zBZ l).1
@[simp] theorem qGz {rf g}(l:List Val):vwL rf g (zV l)=zV l:=(zBZ l).2 _ _
theorem jN:∀{l:List Val} {i:Nat} (h:i<l.length),(zV l).drop (i*3)=.lit (.int .i64 l[i].k)::.lit (.int .i64 l[i].n)::.sl l[i].kids.length (zV l[i].kids)::zV (l.drop (i+1))
 | v::l,0,h=>by simp
 | v::l,i+1,h=>by
  have e:(i+1)*3=i*3+3:=by omega
  rw[e,zOQ]
  simpa using jN (l:=l) (i:=i) (by simpa using h)
mutual
def qI:Val→Nat
 | .mk _ _ l=>1+qY l
def qY:List Val→Nat
 | []=>0
 | v::l=>qI v+qY l
end
theorem zGM:∀{l:List Val} {v:Val},v∈l→qI v≤qY l
 | x::l,v,h=>by
  simp only[qY];rcases jA3.1 h with rfl | h
  ·omega
  ·have:=zGM h; omega
theorem zAC {v x:Val}(h:x∈v.kids):qI x<qI v:=by
 cases v with
 | mk k n l=>have:=zGM (l:=l) h; simp only[qI]; omega
def zDu:Val→Int
 | .mk _ _ l=>l.attach.foldl (fun s x=>w64 (s+zDu x.1)) 1
termination_by v=>qI v
decreasing_by
 have:=zGM x.2;simp only[qI]; omega
def zLX (l:List Val):Int:=l.foldl (fun s x=>w64 (s+zDu x)) 1
theorem zLR (v:Val):zDu v=zLX v.kids:=by
 cases v with
 | mk k n l =>
  rw[zDu];simp only[Val.kids,zLX];rw[List.foldl_attach (f:=fun s x=>w64 (s+zDu x))]
theorem zJw {l:List Val}{i:Nat}(h:i<l.length):zLX (l.take (i+1))=IntKind.i64.wrap (zLX (l.take i)+zDu l[i]):=by rw[zLX,jA9 h,jC3];rfl
def zP8 (a b:Int):Int:=if a<b then b else a
def zBS:Val→Int
 | .mk _ _ l=>w64 (l.attach.foldl (fun s x=>zP8 s (zBS x.1)) 0+1)
termination_by v=>qI v
decreasing_by
 have:=zGM x.2;simp only[qI]; omega
def zIZ (l:List Val):Int:=l.foldl (fun s x=>zP8 s (zBS x)) 0
theorem zG6 (v:Val):zBS v=w64 (zIZ v.kids+1):=by
 cases v with
 | mk k n l =>
  rw[zBS];simp only[Val.kids,zIZ];rw[List.foldl_attach (f:=fun s x=>zP8 s (zBS x))]
theorem zGH {l:List Val}{i:Nat}(h:i<l.length):zIZ (l.take (i+1))=zP8 (zIZ (l.take i)) (zBS l[i]):=by rw[zIZ,jA9 h,jC3];rfl
def qH5:K:=G [kO 1 0,kMi 2 0] (G [kMi 3 1] (Z (G [kMi 4 0] (K.block 0 (K.loop (Z (G [M 5 4,D 6 1 2,L 7 6 1,kN 8 7,kB 9 5 8 .lss] (Y 9 ks (K.exit 0))) (Z (K.block 1 (K.ops [M 12 3,D 13 1 2,L 14 13 1,M 15 4,kX 16 14 15 3,J 17 16 3,kC 18 121 [(kt 17)],kB 19 12 18 .add,M 3 19])) (K.ops [M 10 4,kBi 11 10 1 .add,M 4 11])))))) (G [M 20 3,M 2 20] kr)))
theorem qO1:zL prog Tryz.f121.ntmps (Tryz.f121.body.getD .skip)=some qH5.erase:=by kernel_rfl
@[simp] theorem qPF:zA prog 121=true:=by kernel_rfl
theorem zLD (v:Val):Ret prog 121 [.agg (zJ v)] [] (int (zDu v)) []:=by
 refine zK Tryz.func121 rfl qO1 (rs:=[.slot 2]) (by kernel_rfl) ?_;unfold qH5;simp[zJ];refine qW (S:=Nat) (fun i=>[(1,.ptr 0 0),(3,int (zLX (v.kids.take i))),(4,int i)]) (fun s=>[.box (zJ v)]) (fun i=>i≤v.kids.length) (fun i=>v.kids.length-i) 0 (by simp)
  (zR [0] 0 (by simp) (by simp) (by simp[zJ]) (by simp[zLX])) ?_
 intro i hi;by_cases h:i<v.kids.length
 ·simp[zJ,h,jN h];intro hl;refine zT (zLD v.kids[i]) (by simp[zJ]) (by simp) ?_;simp;exact zU (i+1) h (by omega) (zR [0] 0 (by simp) (by simp) (by simp[zJ]) (by simp[qA h hl,zJw h]))
 ·have:i=v.kids.length:=by omega
  subst this;simp[zJ];exact fun _=>zC 0 (by simp[zLR v])
termination_by qI v
decreasing_by exact zAC (jA0 _)
def qH2:K:=G [kO 1 0,kMi 2 0] (G [kMi 3 0] (Z (G [kMi 4 0] (K.block 0 (K.loop (Z (G [M 5 4,D 6 1 2,L 7 6 1,kN 8 7,kB 9 5 8 .lss] (Y 9 ks (K.exit 0))) (Z (K.block 1 (K.ops [M 12 3,D 13 1 2,L 14 13 1,M 15 4,kX 16 14 15 3,J 17 16 3,kC 18 122 [(kt 17)],⟨none,.mm (some 19) true [(kt 12),(kt 18)]⟩,M 3 19])) (K.ops [M 10 4,kBi 11 10 1 .add,M 4 11])))))) (G [M 20 3,kBi 21 20 1 .add,M 2 21] kr)))
theorem qOy:zL prog Tryz.f122.ntmps (Tryz.f122.body.getD .skip)=some qH2.erase:=by kernel_rfl
@[simp] theorem qP5:zA prog 122=true:=by kernel_rfl
theorem zJY (v:Val):Ret prog 122 [.agg (zJ v)] [] (int (zBS v)) []:=by
 refine zK Tryz.func122 rfl qOy (rs:=[.slot 2]) (by kernel_rfl) ?_;unfold qH2;simp[zJ];refine qW (S:=Nat) (fun i=>[(1,.ptr 0 0),(3,int (zIZ (v.kids.take i))),(4,int i)]) (fun s=>[.box (zJ v)]) (fun i=>i≤v.kids.length) (fun i=>v.kids.length-i) 0 (by simp)
  (zR [0] 0 (by simp) (by simp) (by simp[zJ]) (by simp[zIZ])) ?_
 intro i hi;by_cases h:i<v.kids.length
 ·simp[zJ,h,jN h];intro hl;refine zT (zJY v.kids[i]) (by simp[zJ]) (by simp) ?_;simp;exact zU (i+1) h (by omega) (zR [0] 0 (by simp) (by simp) (by simp[zJ]) (by simp[qA h hl,zGH h,zP8]))
 ·have:i=v.kids.length:=by omega
  subst this;simp[zJ];exact fun _=>zC 0 (by simp[zG6 v,w64])
termination_by qI v
decreasing_by exact zAC (jA0 _)
def qHL:K:=G [kO 2 0,kO 3 1,kMi 4 0] (Z (Z (K.dops [(0,0,D 6 2 0),(1,0,L 7 6 1),(2,0,D 8 3 0),(3,0,L 9 8 1),(4,0,kC 10 135 [(kt 7),(kt 9)]),(5,0,D 11 2 1),(6,0,L 12 11 1),(7,0,D 13 3 1),(8,0,L 14 13 1),(9,0,kC 15 135 [(kt 12),(kt 14)]),(10,0,D 16 2 2),(11,0,L 17 16 1),(12,0,kN 18 17),(13,0,D 19 3 2),(14,0,L 20 19 1),(15,0,kN 21 20),(16,0,kC 22 135 [(kt 18),(kt 21)]),(17,0,kd 23 3 1 3 [ki,ki,ki] [(0,1,(kt 10)),(1,1,(kt 15)),(2,1,(kt 22))]),(18,0,kC 24 134 [(kt 23)]),(19,0,M 5 24)]) (G [M 25 5,kQi 26 25 0 true] (Y 26 (G [M 27 5,M 4 27] kr) ks))) (G [D 28 2 2,L 29 28 1,D 30 3 2,L 31 30 1,kC 32 180 [(kt 29),(kt 31),(.func 167)],M 4 32] kr))
theorem qOH:zL prog Tryz.f167.ntmps (Tryz.f167.body.getD .skip)=some qHL.erase:=by kernel_rfl
@[simp] theorem qQj:zA prog 167=true:=by kernel_rfl
def qHK:K:=G [kMi 6 0] (Z (G [M 11 0,kN 12 11,kMi 13 0] (K.block 0 (K.loop (G [kB 14 13 12 .lss] (Z (Y 14 ks (K.exit 0)) (Z (K.block 1 (G [M 15 13,kX 16 11 13 3,J 17 16 3,kZ 8 [ki,ki,kl],M 7 15,S 8 17 3] (Z (G [M 18 7,M 19 1,kN 20 19,kB 21 18 20 .geq] (Y 21 (G [kMi 6 1] kr) ks)) (G [M 22 1,M 23 7,kX 24 22 23 3,J 25 24 3,kZ 9 [ki,ki,kl],S 9 25 3] (G [M 26 2,J 27 8 3,J 28 9 3,⟨none,.call (some 29) (kt 26) [(kt 27),(kt 28)]⟩,M 10 29] (G [M 30 10,kQi 31 30 0 true] (Y 31 (G [M 32 10,M 6 32] kr) ks))))))) (K.ops [kBi 33 13 1 .add,M 13 33]))))))) (Z (G [M 34 0,kN 35 34,M 36 1,kN 37 36,kB 38 35 37 .lss] (Y 38 (G [⟨none,.mov (some 6) (kc (-1))⟩] kr) ks)) (G [kMi 6 0] kr)))
theorem qOG:zL prog Tryz.f180.ntmps (Tryz.f180.body.getD .skip)=some qHK.erase:=by kernel_rfl
@[simp] theorem qQi:zA prog 180=true:=by kernel_rfl
mutual
def zKg:Val→Val→Int
 | .mk k n l,.mk k' n' l'=>if orI [zBR k k',zBR n n',zBR l.length l'.length]≠0 then orI [zBR k k',zBR n n',zBR l.length l'.length] else zCH l l'
def zCH:List Val→List Val→Int
 | [],[]=>0
 | [],_::_=>-1
 | _::_,[]=>1
 | a::l,b::l'=>if zKg a b≠0 then zKg a b else zCH l l'
end
def zJR (a b:Val):Int:=orI [zBR a.k b.k,zBR a.n b.n,zBR a.kids.length b.kids.length]
theorem zD1 (a b:Val):zKg a b=if zJR a b≠0 then zJR a b else zCH a.kids b.kids:=by cases a; cases b; rw[zKg]; rfl
theorem zKL (xs ys:List Val)(h:∀a∈xs,∀b∈ys,Ret prog 167 [.agg (zJ a),.agg (zJ b)] [] (int (zKg a b)) []) :
 Ret prog 180 [.sl xs.length (zV xs),.sl ys.length (zV ys),.clo 167 [] []] [] (int (zCH xs ys)) []:=by
 refine zK Tryz.func180 rfl qOG (rs:=[.slot 6]) (by kernel_rfl) ?_;unfold qHK;simp;intro hl;refine qW (S:=Nat) (fun i=>[(0,.sl xs.length (zV xs)),(1,.sl ys.length (zV ys)),(2,.clo 167 [] []),(11,.sl xs.length (zV xs)),(12,int xs.length),(13,int i)]) (fun s=>[])
  (fun i=>i≤xs.length∧i≤ys.length∧zCH xs ys=zCH (xs.drop i) (ys.drop i)) (fun i=>xs.length-i) 0 (by simp)
  (zR [] 0 (by simp) (by simp) (by simp) (by simp)) ?_
 rintro i ⟨hi,hi',ho⟩;simp;refine yF (fun h1=>?_) (fun h1=>?_)<;>simp at h1
 ·have hd:xs.drop i=xs[i]::xs.drop (i+1):=jB8 h1;simp[h1,jN h1];intro hl';refine yF (fun h2=>?_) (fun h2=>?_)<;>simp at h2
  ·simp;have hn:ys.drop i=[]:=jD7 h2;exact zC 0 (by rw[ho,hd,hn]; simp[zCH])
  ·have hd':ys.drop i=ys[i]::ys.drop (i+1):=jB8 h2;simp[h2,jN h2];refine zT (h xs[i] (jA0 _) ys[i] (jA0 _)) (by simp[zJ]) (by simp) ?_;simp;refine yF (fun h3=>?_) (fun h3=>?_)<;>simp at h3
   ·simp;exact zC 0 (by rw[ho,hd,hd']; simp[zCH,h3])
   ·simp;refine zU (i+1) ⟨h1,h2,by rw[ho,hd,hd']; simp[zCH,h3]⟩ (by omega) (zR [] 0 (by simp) (by simp) (by simp) (by simp[qA h1 hl]))
 ·have:i=xs.length:=by omega
  subst this;simp;have hn:xs.drop xs.length=[]:=by simp
  intro _ hl';refine yF (fun h2=>?_) (fun h2=>?_)<;>simp at h2
  ·have hd':ys.drop xs.length=ys[xs.length]::ys.drop (xs.length+1):=jB8 h2;simp;exact zC 0 (by rw[ho,hn,hd']; simp[zCH])
  ·have hn':ys.drop xs.length=[]:=jD7 h2;simp;exact zC 0 (by rw[ho,hn,hn']; simp[zCH])
theorem zSs (a b:Val):Ret prog 167 [.agg (zJ a),.agg (zJ b)] [] (int (zKg a b)) []:=by
 refine zK Tryz.func167 rfl qOH (rs:=[.slot 4]) (by kernel_rfl) ?_;unfold qHL;simp[zJ];refine qK (zCN a.k b.k) (by simp) (by simp) ?_;simp;refine qK (zCN a.n b.n) (by simp) (by simp) ?_;simp;refine qK (zCN a.kids.length b.kids.length) (by simp) (by simp) ?_;simp;refine qK (qBV [zBR a.k b.k,zBR a.n b.n,zBR a.kids.length b.kids.length]) (by simp) (by simp) ?_;simp;refine yF (fun h=>?_) (fun h=>?_)<;>simp at h
 ·simp;exact zC 0 (by rw[zD1]; simp[zJR,h])
 ·simp;refine zT (zKL a.kids b.kids fun x hx y hy=>zSs x y) (by simp) (by simp) ?_;simp;exact zC 0 (by rw[zD1]; simp[zJR,h])
termination_by qI a
decreasing_by exact zAC hx
theorem zNQ {a b:Int}(h:a<b):zBR a b = -1:=by simp[zBR,h]
theorem zNP {a b:Int}(h:b<a):zBR a b=1:=by simp[zBR,h,Int.not_lt.2 (Int.le_of_lt h)]
theorem zNO {a b:Int}(h:b≤a)(h':a≤b):zBR a b=0:=by simp[zBR,Int.not_lt.2 h,Int.not_lt.2 h']
def qH1:K:=G [kO 2 0,kO 3 1,kMi 4 0] (G [D 10 2 0,L 11 10 1,D 12 2 1,L 13 12 1,D 14 2 2,L 15 14 1,kN 16 15,kd 17 3 1 3 [ki,ki,ki] [(0,1,(kt 11)),(1,1,(kt 13)),(2,1,(kt 16))],M 5 17] (G [D 18 3 0,L 19 18 1,D 20 3 1,L 21 20 1,D 22 3 2,L 23 22 1,kN 24 23,kd 25 3 1 3 [ki,ki,ki] [(0,1,(kt 19)),(1,1,(kt 21)),(2,1,(kt 24))],M 6 25] (Z (G [kMi 7 0] (K.block 0 (K.loop (Z (G [M 26 7,kBi 27 26 3 .lss] (Y 27 ks (K.exit 0))) (Z (K.block 1 (Z (Z (K.dops [(0,0,M 30 5),(1,0,M 31 7),(2,0,kX 32 30 31 1),(3,0,L 33 32 1),(4,0,M 34 6),(5,0,M 35 7),(6,0,kX 36 34 35 1),(7,0,L 37 36 1),(8,0,kB 38 33 37 .lss)]) (Y 38 (G [⟨none,.mov (some 4) (kc (-1))⟩] kr) ks)) (Z (K.dops [(0,0,M 39 5),(1,0,M 40 7),(2,0,kX 41 39 40 1),(3,0,L 42 41 1),(4,0,M 43 6),(5,0,M 44 7),(6,0,kX 45 43 44 1),(7,0,L 46 45 1),(8,0,kB 47 42 46 .gtr)]) (Y 47 (G [kMi 4 1] kr) ks)))) (K.ops [M 28 7,kBi 29 28 1 .add,M 7 29])))))) (Z (G [kMi 8 0] (K.block 2 (K.loop (Z (G [M 48 8,D 49 2 2,L 50 49 1,kN 51 50,kB 52 48 51 .lss] (Y 52 ks (K.exit 2))) (Z (K.block 3 (Z (K.dops [(0,0,D 55 2 2),(1,0,L 56 55 1),(2,0,M 57 8),(3,0,kX 58 56 57 3),(4,0,J 59 58 3),(5,0,D 60 3 2),(6,0,L 61 60 1),(7,0,M 62 8),(8,0,kX 63 61 62 3),(9,0,J 64 63 3),(10,0,kC 65 15 [(kt 59),(kt 64)]),(11,0,M 9 65)]) (G [M 66 9,kQi 67 66 0 true] (Y 67 (G [M 68 9,M 4 68] kr) ks)))) (K.ops [M 53 8,kBi 54 53 1 .add,M 8 54])))))) (G [kMi 4 0] kr)))))
theorem qOx:zL prog Tryz.f15.ntmps (Tryz.f15.body.getD .skip)=some qH1.erase:=by kernel_rfl
@[simp] theorem qP4:zA prog 15=true:=by kernel_rfl
theorem zHg (a b:Val):Ret prog 15 [.agg (zJ a),.agg (zJ b)] [] (int (zKg a b)) []:=by
 refine zK Tryz.func15 rfl qOx (rs:=[.slot 4]) (by kernel_rfl) ?_;unfold qH1;simp[zJ];intro hl hl';refine qW (S:=Nat) (fun i=>[(2,.ptr 0 0),(3,.ptr 1 0),(5,.sl 3 [int a.k,int a.n,int a.kids.length]),(6,.sl 3 [int b.k,int b.n,int b.kids.length]),(7,int i)])
  (fun s=>[.box [int a.k,int a.n,.sl a.kids.length (zV a.kids)],.box [int b.k,int b.n,.sl b.kids.length (zV b.kids)]])
  (fun i=>i≤3∧zJR a b=orI (([zBR a.k b.k,zBR a.n b.n,zBR a.kids.length b.kids.length]).drop i)) (fun i=>3-i) 0 (by simp[zJR])
  (zR [0,1] 0 (by simp) (by simp) (by simp) (by simp)) ?_
 rintro i ⟨hi,ho⟩;rcases (by omega:i=0∨i=1∨i=2∨i=3)with rfl | rfl | rfl | rfl
 ·simp;refine yF (fun h1=>?_) (fun h1=>?_)<;>simp at h1
  ·simp;exact zC 0 (by rw[zD1,ho]; simp[orI,zNQ h1])
  simp;refine yF (fun h2=>?_) (fun h2=>?_)<;>simp at h2
  ·simp;exact zC 0 (by rw[zD1,ho]; simp[orI,zNP h2])
  simp;exact zU 1 ⟨by omega,by rw[ho]; simp[orI,zNO h1 h2]⟩ (by omega) (zR [0,1] 0 (by simp) (by simp) (by simp) (by simp; rfl))
 ·simp;refine yF (fun h1=>?_) (fun h1=>?_)<;>simp at h1
  ·simp;exact zC 0 (by rw[zD1,ho]; simp[orI,zNQ h1])
  simp;refine yF (fun h2=>?_) (fun h2=>?_)<;>simp at h2
  ·simp;exact zC 0 (by rw[zD1,ho]; simp[orI,zNP h2])
  simp;exact zU 2 ⟨by omega,by rw[ho]; simp[orI,zNO h1 h2]⟩ (by omega) (zR [0,1] 0 (by simp) (by simp) (by simp) (by simp; rfl))
 ·simp;refine yF (fun h1=>?_) (fun h1=>?_)<;>simp at h1
  ·simp;exact zC 0 (by rw[zD1,ho]; simp[orI,zNQ (Int.ofNat_lt.2 h1)])
  simp;refine yF (fun h2=>?_) (fun h2=>?_)<;>simp at h2
  ·simp;exact zC 0 (by rw[zD1,ho]; simp[orI,zNP (Int.ofNat_lt.2 h2)])
  simp;exact zU 3 ⟨by omega,by rw[ho]; simp[orI,zNO (Int.ofNat_le.2 h1) (Int.ofNat_le.2 h2)]⟩ (by omega) (zR [0,1] 0 (by simp) (by simp) (by simp) (by simp; rfl))
 have hlen:a.kids.length=b.kids.length:=by
  have h0:zJR a b=0:=by rw[ho]; rfl
  simp only[zJR,orI]at h0;split at h0<;>try contradiction
  split at h0<;>try contradiction
  split at h0<;>try contradiction
  rename_i _ _ h;simp only[zBR]at h;split at h
  ·cases h
  ·split at h
   ·cases h
   ·omega
 simp;refine qW (S:=Nat) (fun i=>[(2,.ptr 0 0),(3,.ptr 1 0),(8,int i)])
  (fun s=>[.box [int a.k,int a.n,.sl a.kids.length (zV a.kids)],.box [int b.k,int b.n,.sl b.kids.length (zV b.kids)]])
  (fun i=>i≤a.kids.length∧zKg a b=zCH (a.kids.drop i) (b.kids.drop i)) (fun i=>a.kids.length-i) 0 ⟨by omega,by rw[zD1,ho]; simp[orI]⟩
  (zR [0,1] 0 (by simp) (by simp) (by simp) (by simp)) ?_
 rintro i ⟨hi,ho⟩;simp;intro _;refine yF (fun h1=>?_) (fun h1=>?_)<;>simp at h1
 ·have h2:i<b.kids.length:=by omega
  have hd:a.kids.drop i=a.kids[i]::a.kids.drop (i+1):=jB8 h1;have hd':b.kids.drop i=b.kids[i]::b.kids.drop (i+1):=jB8 h2;simp[h1,h2,jN h1,jN h2];refine qK (zHg a.kids[i] b.kids[i]) (by simp[zJ]) (by simp) ?_;simp;refine yF (fun h3=>?_) (fun h3=>?_)<;>simp at h3
  ·simp;exact zC 0 (by rw[ho,hd,hd']; simp[zCH,h3])
  ·simp;exact zU (i+1) ⟨h1,by rw[ho,hd,hd']; simp[zCH,h3]⟩ (by omega) (zR [0,1] 0 (by simp) (by simp) (by simp) (by simp[qA h1 hl]))
 ·simp;have e1:a.kids.drop i=[]:=jD7 h1;have e2:b.kids.drop i=[]:=jD7 (by omega);exact zC 0 (by rw[ho,e1,e2]; simp[zCH])
termination_by qI a
decreasing_by exact zAC (jA0 _)
theorem zIH {l:List Id}{m:Nat}(h1:1≤m)(h:m<l.length):zAy (l.take (m+1))=if l[m-1]=l[m] then zAy (l.take m) else zAy (l.take m)++[l[m]]:=by
 rw[jA9 h,zCM,zHh,zKJ];have:(l.take m).getLast?=some l[m-1]:=by rw[List.getLast?_eq_getElem?,jAt,jB9 (by omega),jB3,if_pos (by omega),jA2 (by omega)]
 rw[this];simp only[jA1]
theorem zMN (l:List Id):(zAy l).length≤l.length:=by
 induction l using zBK with
 | nil=>simp[zAy]
 | snoc l y ih =>
  rw[zCM,zHh];split
  ·simp; omega
  ·simp; omega
theorem zVZ {l:List Id}(h:1≤l.length):zAy (l.take 1)=l.take 1:=by
 cases l with
 | nil=>simp at h
 | cons x l=>simp[zAy,zHh]
theorem zYD {l:List Id}{i:Nat}(h1:1≤i)(h:i<l.length)(hd:l[i-1]=l[i]):zAy l≠l:=by
 intro e;have:∀r:List Id,(zAy (l.take (i+1)++r)).length≤i+r.length:=fun r=>by
  induction r using zBK with
  | nil =>
   rw[jAz,zIH h1 h,if_pos hd];have:=zMN (l.take i);simp at this;simp;omega
  | snoc r y ih =>
   rw[←jAv,zCM,zHh];split
   ·simp; omega
   ·simp; omega
 have:=this (l.drop (i+1));rw[jBy,e]at this;simp at this;omega
theorem zHm:∀{R:List Id} {k:Nat} (x:Id),k<R.length→(qE R).take (k*3)++(.lit (.int .i64 x.a)::.lit (.int .i64 x.b)::.lit (.int .i64 x.c)::(qE R).drop (k*3+3))=qE (R.set k x)
 | v::R,0,x,h=>by simp
 | v::R,k+1,x,h=>by
  have e:(k+1)*3=k*3+3:=by omega
  have:=zHm (R:=R) (k:=k) x (by simpa using h);rw[e,zEd,List.set_cons_succ,zEd,←this];simp
def zCY (n:Nat):List Id:=List.replicate n Id.zero
theorem zEQ:∀n:Nat,qE (zCY n)=(List.replicate n [A.lit (.int .i64 0),A.lit (.int .i64 0),A.lit (.int .i64 0)]).flatten
 | 0=>rfl
 | n+1=>by have:=zEQ n;simp only[zCY,List.replicate_succ,List.flatten_cons]at this ⊢;rw[←this]; rfl
theorem zXA {R:List Id}{k:Nat}{x:Id}(h:k<R.length):(R.set k x).take (k+1)=R.take k++[x]:=by rw[List.take_set,jA9 h,List.set_append_right _ _ (by simp; omega)];simp[jB9 (Nat.le_of_lt h)]
def zOT (l:List Id):A:=if zAy l=l then .row 0 l.length else .win 0 l.length 0 (zAy l).length ((zAy l).length*3)
theorem zQR (l:List Id)(hb:l.length≤1000000):Ret prog 97 [.row 0 l.length] [.row false 29 3 l.length (qE l)] (zOT l)
 [.row false 29 3 l.length (qE (zAy l++zCY (l.length-(zAy l).length)))]:=by
 have hsame:zAy l=l→qE (zAy l++zCY (l.length-(zAy l).length))=qE l:=fun e=>by rw[e]; simp[zCY]
 refine zK Tryz.func97 rfl zOI (rs:=[.slot 2]) (by kernel_rfl) ?_;unfold zK0;by_cases h2:l.length<2
 ·have hc:zAy l=l:=by
   match l,h2 with
   | [],_=>rfl
   | [x],_=>simp[zAy,zHh]
  have h2':(l.length:Int)<2:=by omega
  simp[h2'];exact zG [0] 0 (by simp) (by simp) (by simp[hsame hc]) (by simp[zOT,hc])
 ·have h2':¬(l.length:Int)<2:=by omega
  simp[h2'];refine qW (S:=Nat) (fun i=>[(0,.row 0 l.length),(3,int i)]) (fun i=>[.row false 29 3 l.length (qE l)]) (fun i=>1≤i∧i≤l.length∧zAy (l.take i)=l.take i) (fun i=>l.length-i) 1 ⟨by omega,by omega,zVZ (by omega)⟩
   (zR [0] 0 (by simp) (by simp) (by simp) (by simp)) ?_
  rintro i ⟨h1,hi,hc⟩;by_cases h:i<l.length
  ·have hi1:i-1<l.length:=by omega
   have hw:IntKind.i64.wrap ((i:Int)-1)=((i-1:Nat):Int):=by rw[Int.ofNat_sub h1]; exact IntWalk.i64_in _ (by omega)
   have hn1:¬(l.length*3<i*3+3):=by omega
   have hl1:i*3+3≤l.length*3:=by omega
   have hl2:(i-1)*3+3≤l.length*3:=by omega
   have hct:=zIH h1 h;by_cases hd:l[i-1]=l[i]
   ·rw[if_pos hd,hc]at hct;have hne:=zYD h1 h hd;have hd3:zCx l[i].a l[i].b l[i].c l[i-1].a l[i-1].b l[i-1].c=true:=by rw[zBu]; simp[hd]
    simp[h,hw,hl1,hl2,hi1,yS h,yS hi1,hd3];refine⟨hi,?_⟩;refine qW (S:=Nat×Nat×List Id) (fun s=>[(0,.row 0 l.length),(3,int s.1),(4,.win 0 l.length (i*3) (l.length-i) ((l.length-i)*3)),(5,int s.2.1)]) (fun s=>[.row false 29 3 l.length (qE s.2.2)])
     (fun s=>s.2.2.length=l.length∧1≤s.2.1∧i+s.2.1≤l.length∧s.1+1≤i+s.2.1∧(zAy (l.take (i+s.2.1))).length=s.1∧s.2.2.take s.1=zAy (l.take (i+s.2.1))∧s.2.2.drop (i+s.2.1-1)=l.drop (i+s.2.1-1))
     (fun s=>l.length-(i+s.2.1)) (i,1,l) ⟨rfl,jA _,h,by simp,by simp[hct]; omega,by simp[hct],rfl⟩
     (zR [0] 0 (by simp) (by simp) (by simp) (by simp)) ?_
    rintro⟨k,j,R⟩ ⟨r1,r2,r3,r4,r5,r6,r7⟩;simp only at r1 r2 r3 r4 r5 r6 r7;simp only;have hsub:(l.length:Int)-i=((l.length-i:Nat):Int):=by omega
    have hwj:IntKind.i64.wrap ((j:Int)-1)=((j-1:Nat):Int):=by rw[Int.ofNat_sub r2]; exact IntWalk.i64_in _ (by omega)
    have hwj1:IntKind.i64.wrap ((j:Int)+1)=((j+1:Nat):Int):=by push_cast; exact IntWalk.i64_in _ (by omega)
    have hwk1:IntKind.i64.wrap ((k:Int)+1)=((k+1:Nat):Int):=by push_cast; exact IntWalk.i64_in _ (by omega)
    by_cases hj:i+j<l.length
    ·have hjR:i+j<R.length:=by omega
     have hj1R:i+j-1<R.length:=by omega
     have hkR:k<R.length:=by omega
     have hR:R[i+j]=l[i+j]:=by have:=congrArg (fun x:List Id=>x[1]?) r7;simp only[jD4]at this;rw[show i+j-1+1=i+j by omega,jA2 hjR,jA2 hj]at this;exact jB4 this
     have hR1:R[i+j-1]=l[i+j-1]:=by have:=congrArg (fun x:List Id=>x[0]?) r7;simp only[jD4]at this;rw[show i+j-1+0=i+j-1 by omega,jA2 hj1R,jA2 (by omega)]at this;exact jB4 this
     have e0:i*3+j*3=(i+j)*3:=by omega
     have e1:i*3+(j-1)*3=(i+j-1)*3:=by omega
     have hjlt:j<l.length-i:=by omega
     have hjlt1:j-1<l.length-i:=by omega
     have hb0:(i+j)*3+3≤l.length*3:=by omega
     have hb1:(i+j-1)*3+3≤l.length*3:=by omega
     have hbk:k*3+3≤l.length*3:=by omega
     have hkl:k<l.length:=by omega
     have hct2:=zIH (l:=l) (m:=i+j) (by omega) hj;by_cases hd2:l[i+j-1]=l[i+j]
     ·rw[if_pos hd2]at hct2;have hs3:zCx R[i+j].a R[i+j].b R[i+j].c R[i+j-1].a R[i+j-1].b R[i+j-1].c=true:=by rw[zBu,hR,hR1,hd2]; simp
      simp[hjlt,hjlt1,hwj,e0,e1,r1,hb0,hb1,yS hjR,yS hj1R,hs3];exact zU (k,j+1,R) ⟨r1,by simp,by simp only; omega,by simp only; omega,by simp only[←jBe,hct2]; exact r5,by simp only[←jBe,hct2]; exact r6,by
       have:=congrArg (fun x:List Id=>x.drop 1) r7;simp only[jAs]at this;simp only;rw[show i+(j+1)-1=i+j-1+1 by omega];exact this⟩ (by simp only; omega) (zR [0] 0 (by simp) (by simp) (by simp) (by simp[hwj1]))
     ·rw[if_neg hd2]at hct2;have hs3:zCx R[i+j].a R[i+j].b R[i+j].c R[i+j-1].a R[i+j-1].b R[i+j-1].c=false:=by rw[zBu,hR,hR1]; exact decide_eq_false fun e=>hd2 e.symm
      simp[hjlt,hjlt1,hwj,e0,e1,r1,hb0,hb1,hbk,hkl,yS hjR,yS hj1R,hs3,zHm _ hkR];exact zU (k+1,j+1,R.set k l[i+j]) ⟨by simp[r1],by simp,by simp only; omega,by simp only; omega,by simp only[←jBe,hct2,jA5,r5]; simp,by
       simp only[←jBe,hct2];rw[zXA hkR,r6],by
       have:=congrArg (fun x:List Id=>x.drop 1) r7;simp only[jAs]at this;simp only;rw[show i+(j+1)-1=i+j-1+1 by omega,List.drop_set_of_lt (by omega)];exact this⟩ (by simp only; omega) (zR [0] 0 (by simp) (by simp) (by simp[hR]) (by simp[hwj1,hwk1]))
    ·have hij:i+j=l.length:=by omega
     have hj':¬(j:Int)<((l.length-i:Nat):Int):=by omega
     simp[hj',r1];rw[hij,jAp]at r5 r6;have e2:k*3+(l.length-k)*3=l.length*3:=by omega
     have hcells:List.take (k*3) (qE R)++((List.replicate (l.length-k) [A.lit (Value.int IntKind.i64 0),A.lit (Value.int IntKind.i64 0),A.lit (Value.int IntKind.i64 0)]).flatten++List.drop (k*3+(l.length-k)*3) (qE R))=qE (zAy l++zCY (l.length-(zAy l).length)):=by rw[e2,List.drop_of_length_le (by simp[r1]),jAz,zJC,r6,jS,zEQ,r5]
     rw[hcells];refine⟨by omega,by omega,by omega,?_⟩;exact zG [0] 0 (by simp) (by simp) (by simp) (by simp[zOT,hne,r5])
   ·rw[if_neg hd,hc]at hct;have hd3:zCx l[i].a l[i].b l[i].c l[i-1].a l[i-1].b l[i-1].c=false:=by rw[zBu]; exact decide_eq_false fun e=>hd e.symm
    simp[h,hw,hl1,hl2,hi1,yS h,yS hi1,hd3];exact zU (i+1) ⟨by omega,h,by rw[hct,jA9 h]⟩ (by omega) (zR [0] 0 (by simp) (by simp) (by simp) (by simp[qA h (show l.length≤maxLen by simp[maxLen]; omega)]))
  ·have:i=l.length:=by omega
   subst this;rw[jAp]at hc;simp;exact zG [0] 0 (by simp) (by simp) (by simp[hsame hc]) (by simp[zOT,hc])
def zVm:K:=G [kO 2 0,kO 3 1,kMb 4 false] (G [D 5 2 0,L 6 5 1,D 7 3 0,L 8 7 1,kQ 9 6 8 false,M 10 9,T 10 true (D 11 2 1),T 10 true (J 12 11 3),T 10 true (D 13 3 1),T 10 true (J 14 13 3),⟨some (10,true),.eqs (some 15) false [.i,.i,.i] (kt 12) (kt 14)⟩,kPf 16 10 15,M 17 16,T 17 true (D 18 2 4),T 17 true (L 19 18 1),T 17 true (D 20 3 4),T 17 true (L 21 20 1),T 17 true (kC 22 139 [(kt 19),(kt 21),(.func 105)]),kPf 23 17 22,M 4 23] kr)
theorem qC7:zL prog Tryz.f105.ntmps (Tryz.f105.body.getD .skip)=some zVm.erase:=by kernel_rfl
@[simp] theorem zVF:zA prog 105=true:=by kernel_rfl
def KSD:K:=G [kO 2 0,kO 3 1,kMb 4 false] (G [⟨none,.mov (some 5) (.func 104)⟩] (G [D 6 2 3,L 7 6 1,D 8 3 3,L 9 8 1,kQ 10 7 9 false,M 11 10,T 11 true (D 12 2 8),T 11 true (L 13 12 1),T 11 true (D 14 3 8),T 11 true (L 15 14 1),T 11 true (M 16 5),T 11 true (kC 17 106 [(kt 13),(kt 15),(kt 16)]),kPf 18 11 17,M 19 18,T 19 true (D 20 2 9),T 19 true (J 21 20 5),T 19 true (D 22 3 9),T 19 true (J 23 22 5),T 19 true (kC 24 105 [(kt 21),(kt 23)]),kPf 25 19 24,M 26 25,T 26 true (J 27 2 31),T 26 true (kC 28 43 [(kt 27)]),T 26 true (kR 29 28),T 26 true (M 30 29),T 30 false (D 31 2 14),T 30 false (D 32 31 0),T 30 false (J 33 32 3),T 30 false (D 34 3 14),T 30 false (D 35 34 0),T 30 false (J 36 35 3),⟨some (30,false),.eqs (some 37) false [.i,.i,.i] (kt 33) (kt 36)⟩,T 26 true (kPt 38 30 37),kPf 39 26 38,M 4 39] kr))
theorem cSD:zL prog Tryz.f57.ntmps (Tryz.f57.body.getD .skip)=some KSD.erase:=by kernel_rfl
@[simp] theorem qRG:zA prog 57=true:=by kernel_rfl
def qHA:K:=G [kO 2 0,kO 3 1,kMb 4 false] (G [D 5 2 0,J 6 5 3,D 7 3 0,J 8 7 3,⟨none,.eqs (some 9) false [.i,.i,.i] (kt 6) (kt 8)⟩,M 10 9,T 10 true (D 11 2 4),T 10 true (J 12 11 5),T 10 true (D 13 3 4),T 10 true (J 14 13 5),T 10 true (kC 15 105 [(kt 12),(kt 14)]),kPf 16 10 15,M 17 16,T 17 true (D 18 2 9),T 17 true (L 19 18 1),T 17 true (D 20 3 9),T 17 true (L 21 20 1),T 17 true (kQ 22 19 21 false),kPf 23 17 22,M 4 23] kr)
theorem qO6:zL prog Tryz.f104.ntmps (Tryz.f104.body.getD .skip)=some qHA.erase:=by kernel_rfl
@[simp] theorem qCL:zA prog 104=true:=by kernel_rfl
def KSN:K:=G [kO 2 0,kO 3 1,kMb 4 false] (G [⟨none,.mov (some 5) (.func 107)⟩] (G [D 6 2 3,L 7 6 1,D 8 3 3,L 9 8 1,kQ 10 7 9 false,M 11 10,T 11 true (D 12 2 4),T 11 true (L 13 12 1),T 11 true (D 14 3 4),T 11 true (L 15 14 1),T 11 true (kQ 16 13 15 false),kPf 17 11 16,M 18 17,T 18 true (D 19 2 5),T 18 true (J 20 19 3),T 18 true (D 21 3 5),T 18 true (J 22 21 3),⟨some (18,true),.eqs (some 23) false [.i,.i,.i] (kt 20) (kt 22)⟩,kPf 24 18 23,M 25 24,T 25 true (D 26 2 8),T 25 true (J 27 26 5),T 25 true (D 28 3 8),T 25 true (J 29 28 5),T 25 true (kC 30 105 [(kt 27),(kt 29)]),kPf 31 25 30,M 32 31,T 32 true (D 33 2 13),T 32 true (L 34 33 1),T 32 true (D 35 3 13),T 32 true (L 36 35 1),T 32 true (M 37 5),T 32 true (kC 38 108 [(kt 34),(kt 36),(kt 37)]),kPf 39 32 38,M 4 39] kr))
theorem cSN:zL prog Tryz.f59.ntmps (Tryz.f59.body.getD .skip)=some KSN.erase:=by kernel_rfl
@[simp] theorem qRH:zA prog 59=true:=by kernel_rfl
def qHB:K:=G [kO 2 0,kO 3 1,kMb 4 false] (G [D 5 2 0,J 6 5 3,D 7 3 0,J 8 7 3,⟨none,.eqs (some 9) false [.i,.i,.i] (kt 6) (kt 8)⟩,M 4 9] kr)
theorem qO7:zL prog Tryz.f107.ntmps (Tryz.f107.body.getD .skip)=some qHB.erase:=by kernel_rfl
@[simp] theorem qCM:zA prog 107=true:=by kernel_rfl
def qGV:K:=G [kO 1 0,kMb 2 false] (G [D 3 1 3,L 4 3 1,kQi 5 4 2 false,M 6 5,T 6 false (D 7 1 3),T 6 false (L 8 7 1),T 6 false (kQi 9 8 3 false),kPt 10 6 9,M 11 10,T 11 false (D 12 1 3),T 11 false (L 13 12 1),T 11 false (kQi 14 13 4 false),kPt 15 11 14,M 16 15,T 16 false (D 17 1 3),T 16 false (L 18 17 1),T 16 false (kQi 19 18 5 false),kPt 20 16 19,M 2 20] kr)
theorem qNS:zL prog Tryz.f43.ntmps (Tryz.f43.body.getD .skip)=some qGV.erase:=by kernel_rfl
@[simp] theorem qOQ:zA prog 43=true:=by kernel_rfl
mutual
def yT:Typ→Typ→Bool
 | .mk k i l,.mk k' i' l'=>decide (k=k')&&(decide (i=i')&&zDn l l')
def zDn:List Typ→List Typ→Bool
 | [],[]=>true
 | x::a,y::b=>yT x y&&zDn a b
 | _,_=>false
end
theorem zN7:∀(a b:List Typ),zDn a b=zCf yT a b
 | [],[]=>by simp only[zDn,zCf]
 | x::a,y::b=>by simp only[zDn,zCf,zN7 a b]
 | [],_::_=>by simp only[zDn,zCf]
 | _::_,[]=>by simp only[zDn,zCf]
theorem zN6 (a b:Typ):yT a b=(decide (a.k=b.k)&&(decide (a.id=b.id)&&zCf yT a.kids b.kids)):=by cases a; cases b; simp only[yT,zN7]; rfl
mutual
theorem zEH:∀(a b:Typ),yT a b=true↔a=b
 | .mk k i l,.mk k' i' l'=>by simp only[yT,jA6,decide_eq_true_eq,zLO l l',Typ.mk.injEq]
theorem zLO:∀(a b:List Typ),zDn a b=true↔a=b
 | [],[]=>by simp[zDn]
 | x::a,y::b=>by simp only[zDn,jA6,zEH x y,zLO a b,jB6]
 | [],_::_=>by simp[zDn]
 | _::_,[]=>by simp[zDn]
end
mutual
theorem zEp:∀(a b:Typ),Ret prog 105 [.agg (zB a),.agg (zB b)] [] (bl (yT a b)) []
 | .mk k i l,b=>by
  have ih:=zIt l;generalize ha:Typ.mk k i l=a;have hal:a.kids=l:=by rw[←ha]; rfl
  rw[←hal]at ih;refine zK Tryz.func105 rfl qC7 (rs:=[.slot 4]) (by kernel_rfl) ?_;unfold zVm;have hd:=zN6 a b;by_cases h1:a.k=b.k
  ·by_cases h2:a.id=b.id
   ·simp[zB,h1,h2];refine zT (zZd 105 zVF yT a.kids b.kids fun x hx y hy=>ih x hx y) (by simp) (by simp) ?_;simp;exact zC 0 (by simp[hd,h1,h2])
   ·have h3:zCx a.id.a a.id.b a.id.c b.id.a b.id.b b.id.c=false:=by rw[zBu]; exact decide_eq_false h2
    simp[zB,h1,h3];exact zC 0 (by simp[hd,h2])
  ·simp[zB,h1];exact zC 0 (by simp[hd,h1])
theorem zIt:∀(l:List Typ),∀x∈l,∀y:Typ,Ret prog 105 [.agg (zB x),.agg (zB y)] [] (bl (yT x y)) []
 | [],x,hx,_=>by simp at hx
 | z::l,x,hx,y=>by
  rcases jA3.1 hx with e | hx
  ·rw[e]; exact zEp z y
  ·exact zIt l x hx y
end
def zAI (k:Int):Bool:=decide (k=2)||(decide (k=3)||(decide (k=4)||decide (k=5)))
theorem zG2 (d:Dfn):Ret prog 43 [.agg (zO d)] [] (bl (zAI d.kind)) []:=by
 refine zK Tryz.func43 rfl qNS (rs:=[.slot 2]) (by kernel_rfl) ?_;unfold qGV;by_cases h2:d.kind=2
 ·simp[zO,h2];exact zC 0 (by simp[zAI,h2])
 ·by_cases h3:d.kind=3
  ·simp[zO,h2,h3];exact zC 0 (by simp[zAI,h2,h3])
  ·by_cases h4:d.kind=4
   ·simp[zO,h2,h3,h4];exact zC 0 (by simp[zAI,h2,h3,h4])
   ·simp[zO,h2,h3,h4];exact zC 0 (by simp[zAI,h2,h3,h4])
def zLN (x y:Slt):Bool:=decide (x.id=y.id)&&(yT x.typ y.typ&&decide (x.most=y.most))
theorem zQi (x y:Slt):Ret prog 104 [.agg (zAu x),.agg (zAu y)] [] (bl (zLN x y)) []:=by
 refine zK Tryz.func104 rfl qO6 (rs:=[.slot 4]) (by kernel_rfl) ?_;unfold qHA;by_cases h1:x.id=y.id
 ·simp[zAu,h1];refine zT (zEp x.typ y.typ) (by simp[zB]) (by simp) ?_;cases h2:yT x.typ y.typ with
  | true =>
   simp;exact zC 0 (by simp[zLN,h1,h2])
  | false =>
   simp;exact zC 0 (by simp[zLN,h1,h2])
 ·have h3:zCx x.id.a x.id.b x.id.c y.id.a y.id.b y.id.c=false:=by rw[zBu]; exact decide_eq_false h1
  simp[zAu,h3];exact zC 0 (by simp[zLN,h1])
def zN5 (x y:Exp):Bool:=decide (x.id=y.id)
theorem zOy (x y:Exp):Ret prog 107 [.agg (zF x),.agg (zF y)] [] (bl (zN5 x y)) []:=by refine zK Tryz.func107 rfl qO7 (rs:=[.slot 4]) (by kernel_rfl) ?_;unfold qHB;simp[zF];exact zC 0 (by simp[zN5])
def zE2 (a b:Dfn):Bool:=decide (a.kind=b.kind)&&(zCf zLN a.slots b.slots&&(yT a.res b.res&&(!zAI a.kind||decide (a.body.id=b.body.id))))
theorem zRG (a b:Dfn):Ret prog 57 [.agg (zO a),.agg (zO b)] [] (bl (zE2 a b)) []:=by
 refine zK Tryz.func57 rfl cSD (rs:=[.slot 4]) (by kernel_rfl) ?_;unfold KSD;by_cases h1:a.kind=b.kind
 ·simp[zO,h1];refine zT (zZc 104 qCL zLN a.slots b.slots fun x _ y _=>zQi x y) (by simp) (by simp) ?_;cases h2:zCf zLN a.slots b.slots with
  | false =>
   simp;exact zC 0 (by simp[zE2,h1,h2])
  | true =>
   simp[zO];refine zT (zEp a.res b.res) (by simp[zB]) (by simp) ?_;cases h3:yT a.res b.res with
   | false =>
    simp;exact zC 0 (by simp[zE2,h1,h2,h3])
   | true =>
    simp[zO];refine zT (zG2 a) (by simp[zO,h1]) (by simp) ?_;cases h4:zAI a.kind with
    | false =>
     simp;exact zC 0 (by rw[h1]at h4; simp[zE2,h1,h2,h3,h4])
    | true =>
     simp[zO];exact zC 0 (by rw[h1]at h4; simp[zE2,h1,h2,h3,h4])
 ·simp[zO,h1];exact zC 0 (by simp[zE2,h1])
def zCV (a b:Exp):Bool:=decide (a.k=b.k)&&(decide (a.n=b.n)&&(decide (a.ref=b.ref)&&(yT a.typ b.typ&&zCf zN5 a.kids b.kids)))
theorem zQj (a b:Exp):Ret prog 59 [.agg (zF a),.agg (zF b)] [] (bl (zCV a b)) []:=by
 refine zK Tryz.func59 rfl cSN (rs:=[.slot 4]) (by kernel_rfl) ?_;unfold KSN;by_cases h1:a.k=b.k
 ·by_cases h2:a.n=b.n
  ·by_cases h3:a.ref=b.ref
   ·simp[zF,h1,h2,h3];refine zT (zEp a.typ b.typ) (by simp[zB]) (by simp) ?_;cases h4:yT a.typ b.typ with
    | false =>
     simp;exact zC 0 (by simp[zCV,h1,h2,h3,h4])
    | true =>
     simp[zF];refine zT (zZb 107 qCM zN5 a.kids b.kids fun x _ y _=>zOy x y) (by simp) (by simp) ?_;simp;exact zC 0 (by simp[zCV,h1,h2,h3,h4])
   ·have h5:zCx a.ref.a a.ref.b a.ref.c b.ref.a b.ref.b b.ref.c=false:=by rw[zBu]; exact decide_eq_false h3
    simp[zF,h1,h2,h5];exact zC 0 (by simp[zCV,h1,h2,h3])
  ·simp[zF,h1,h2];exact zC 0 (by simp[zCV,h1,h2])
 ·simp[zF,h1];exact zC 0 (by simp[zCV,h1])
@[simp] theorem qP3:zA prog 177=true:=by kernel_rfl
def zBQ (n:Int):Int:=if 1099511627776<n then 1099511627776 else if n < -1099511627776 then -1099511627776 else n
@[simp] theorem qPG:zA prog 176=true:=by kernel_rfl
def zBV (b:Bool):Val:=.mk 1 (if b then 1 else 0) []
structure EVar where
 id:Id
 n:Int
 v:Val
def zEi (b:EVar):List A:=[.lit (.int .i64 b.id.a),.lit (.int .i64 b.id.b),.lit (.int .i64 b.id.c),.lit (.int .i64 b.n),.lit (.int .i64 b.v.k),.lit (.int .i64 b.v.n),.sl b.v.kids.length (zV b.v.kids)]
theorem zFS (b:EVar):jM (zEi b):=by have h:=zBZ b.v.kids;exact⟨by simp[zEi,h.1],fun rf g=>by simp[zEi,h.2]⟩
def zDa (l:List EVar):List A:=l.flatMap zEi
theorem zHd (l:List EVar):jM (zDa l):=zBg zFS l
@[simp] theorem zZD (l:List EVar):jK (zDa l)=zDa l:=(zHd l).1
@[simp] theorem qEA {rf g}(l:List EVar):vwL rf g (zDa l)=zDa l:=(zHd l).2 _ _
@[simp] theorem qBu:zDa []=[]:=rfl
@[simp] theorem qBt (l:List EVar):(zDa l).length=l.length*7:=by rw[zDa,zBD (k:=7) (fun _=>rfl)]
@[simp] theorem qFm (d:EVar):(zEi d).length=7:=rfl
@[simp] theorem qFl (d:EVar):(zEi d).take 7=zEi d:=jAk (jA _)
@[simp] theorem qDr (d:EVar)(l:List A):(zEi d++l).take 7=zEi d:=by rw[jC4 (by simp)]; exact jAk (by simp)
@[simp] theorem qDV (d:EVar):jK (zEi d)=zEi d:=(zFS d).1
@[simp] theorem qLs (d:EVar) {rf g}:vwL rf g (zEi d)=zEi d:=(zFS d).2 _ _
@[simp] theorem qPL:zA prog 101=true:=by kernel_rfl
def zE5 (env:List EVar)(id:Id)(n:Int):Val:=((env.reverse.find? fun b=>decide (b.id=id∧b.n=n)).map EVar.v).getD (.mk 0 0 [])
theorem zLa (env:List EVar)(b:EVar)(id:Id)(n:Int):zE5 (env++[b]) id n=if b.id=id∧b.n=n then b.v else zE5 env id n:=by unfold zE5;rw[List.reverse_append,List.reverse_singleton,jCu,jBz];by_cases h:b.id=id∧b.n=n<;>simp[h]
@[simp] theorem qP8:zA prog 159=true:=by kernel_rfl
def qHP:K:=G [kO 1 0,kMi 2 0] (G [kMi 3 1] (Z (G [D 6 1 2,L 7 6 1,kN 8 7,kMi 9 0] (K.block 0 (K.loop (G [kB 10 9 8 .lss] (Z (Y 10 ks (K.exit 0)) (Z (K.block 1 (G [kX 11 7 9 3,J 12 11 3,kZ 5 [ki,ki,kl],S 5 12 3] (K.ops [M 13 3,J 14 5 3,kC 15 130 [(kt 14)],kB 16 13 15 .add,M 3 16]))) (K.ops [kBi 17 9 1 .add,M 9 17]))))))) (G [M 18 3,M 2 18] kr)))
theorem qOL:zL prog Tryz.f130.ntmps (Tryz.f130.body.getD .skip)=some qHP.erase:=by kernel_rfl
@[simp] theorem qQp:zA prog 130=true:=by kernel_rfl
theorem zKx (v:Val):Ret prog 130 [.agg (zJ v)] [] (int (zDu v)) []:=by
 refine zK Tryz.func130 rfl qOL (rs:=[.slot 2]) (by kernel_rfl) ?_;unfold qHP;simp[zJ];intro hl;refine qW (S:=Nat) (fun i=>[(3,int (zLX (v.kids.take i))),(7,.sl v.kids.length (zV v.kids)),(8,int v.kids.length),(9,int i)]) (fun s=>[]) (fun i=>i≤v.kids.length) (fun i=>v.kids.length-i) 0 (by simp)
  (zR [] 0 (by simp) (by simp) (by simp) (by simp[zLX])) ?_
 intro i hi;simp;by_cases h:i<v.kids.length
 ·simp[h,jN h];refine zT (zKx v.kids[i]) (by simp[zJ]) (by simp) ?_;simp;exact zU (i+1) h (by omega) (zR [] 0 (by simp) (by simp) (by simp) (by simp[qA h hl,zJw h]))
 ·have:i=v.kids.length:=by omega
  subst this;simp;exact zC 0 (by simp[zLR v])
termination_by qI v
decreasing_by exact zAC (jA0 _)
def qHM:K:=G [kO 1 0,kMi 2 0] (G [kMi 3 0] (Z (G [D 6 1 2,L 7 6 1,kN 8 7,kMi 9 0] (K.block 0 (K.loop (G [kB 10 9 8 .lss] (Z (Y 10 ks (K.exit 0)) (Z (K.block 1 (G [kX 11 7 9 3,J 12 11 3,kZ 5 [ki,ki,kl],S 5 12 3] (K.ops [M 13 3,J 14 5 3,kC 15 131 [(kt 14)],⟨none,.mm (some 16) true [(kt 13),(kt 15)]⟩,M 3 16]))) (K.ops [kBi 17 9 1 .add,M 9 17]))))))) (G [M 18 3,kBi 19 18 1 .add,M 2 19] kr)))
theorem qOI:zL prog Tryz.f131.ntmps (Tryz.f131.body.getD .skip)=some qHM.erase:=by kernel_rfl
@[simp] theorem qQl:zA prog 131=true:=by kernel_rfl
theorem zSz (v:Val):Ret prog 131 [.agg (zJ v)] [] (int (zBS v)) []:=by
 refine zK Tryz.func131 rfl qOI (rs:=[.slot 2]) (by kernel_rfl) ?_;unfold qHM;simp[zJ];intro hl;refine qW (S:=Nat) (fun i=>[(3,int (zIZ (v.kids.take i))),(7,.sl v.kids.length (zV v.kids)),(8,int v.kids.length),(9,int i)]) (fun s=>[]) (fun i=>i≤v.kids.length) (fun i=>v.kids.length-i) 0 (by simp)
  (zR [] 0 (by simp) (by simp) (by simp) (by simp[zIZ])) ?_
 intro i hi;simp;by_cases h:i<v.kids.length
 ·simp[h,jN h];refine zT (zSz v.kids[i]) (by simp[zJ]) (by simp) ?_;simp;exact zU (i+1) h (by omega) (zR [] 0 (by simp) (by simp) (by simp) (by simp[qA h hl,zGH h,zP8]))
 ·have:i=v.kids.length:=by omega
  subst this;simp;exact zC 0 (by simp[zG6 v,w64])
termination_by qI v
decreasing_by exact zAC (jA0 _)
def qHO:K:=G [kO 1 0,kMb 2 false] (G [kZ 3 [ki],⟨none,.st none (kt 3) (kc 256) 1⟩] (G [kZ 4 [.nilFunc]] (G [⟨none,.clo (some 5) 124 [] [(kt 3),(kt 4)]⟩,S 4 5 1] (G [L 6 4 1,J 7 1 3,⟨none,.call (some 8) (kt 6) [(kt 7),(kc 1)]⟩,M 2 8] kr))))
theorem qOK:zL prog Tryz.f91.ntmps (Tryz.f91.body.getD .skip)=some qHO.erase:=by kernel_rfl
@[simp] theorem qQo:zA prog 91=true:=by kernel_rfl
def qAV:K:=G [kO 4 0,kO 5 1,kMb 6 false] (G [L 7 2 1,kBi 8 7 1 .sub,S 2 8 1] (G [L 9 2 1,kBi 10 9 0 .geq,M 11 10,T 11 true (L 12 5 1),T 11 true (kBi 13 12 24 .leq),kPf 14 11 13,M 15 14,T 15 true (D 16 4 2),T 15 true (L 17 16 1),⟨some (15,true),.clo (some 18) 126 [] [(kt 3),(kt 5)]⟩,T 15 true (kC 19 125 [(kt 17),(kt 18)]),T 15 true (kR 20 19),kPf 21 15 20,M 6 21] kr))
theorem qIN:zL prog Tryz.f124.ntmps (Tryz.f124.body.getD .skip)=some qAV.erase:=by kernel_rfl
@[simp] theorem qMk:zA prog 124=true:=by kernel_rfl
def qCr:K:=G [kMb 4 false] (G [M 5 0,M 6 1,kC 7 143 [(kt 5),(kt 6)],kBi 8 7 0 .geq,M 4 8] kr)
theorem qIH:zL prog Tryz.f125.ntmps (Tryz.f125.body.getD .skip)=some qCr.erase:=by kernel_rfl
@[simp] theorem qQk:zA prog 125=true:=by kernel_rfl
def qAW:K:=G [kO 3 0,kMb 4 false] (G [L 5 1 1,J 6 3 3,L 7 2 1,kBi 8 7 1 .add,⟨none,.call (some 9) (kt 5) [(kt 6),(kt 8)]⟩,kR 10 9,M 4 10] kr)
theorem qIO:zL prog Tryz.f126.ntmps (Tryz.f126.body.getD .skip)=some qAW.erase:=by kernel_rfl
@[simp] theorem qMl:zA prog 126=true:=by kernel_rfl
def qCs:K:=G [kMi 4 0] (Z (G [M 6 0,kN 7 6,kMi 8 0] (K.block 0 (K.loop (G [kB 9 8 7 .lss] (Z (Y 9 ks (K.exit 0)) (Z (K.block 1 (G [M 10 8,M 5 10] (G [M 11 1,M 12 0,M 13 5,kX 14 12 13 3,J 15 14 3,⟨none,.call (some 16) (kt 11) [(kt 15)]⟩] (Y 16 (G [M 17 5,M 4 17] kr) ks)))) (K.ops [kBi 18 8 1 .add,M 8 18]))))))) (G [⟨none,.mov (some 4) (kc (-1))⟩] kr))
theorem qIM:zL prog Tryz.f143.ntmps (Tryz.f143.body.getD .skip)=some qCs.erase:=by kernel_rfl
@[simp] theorem qQn:zA prog 143=true:=by kernel_rfl
mutual
def zAK:Val→Nat
 | .mk _ _ l=>zAh l+1
def zAh:List Val→Nat
 | []=>0
 | v::l=>max (zAK v) (zAh l)
end
theorem zIJ (v:Val):zAK v=zAh v.kids+1:=by cases v; simp only[zAK,Val.kids]
theorem zIy (v:Val):qI v=1+qY v.kids:=by cases v; simp only[qI,Val.kids]
theorem zJE:∀{l:List Val} {v:Val},v∈l→zAK v≤zAh l
 | x::l,v,h=>by
  simp only[zAh];rcases jA3.1 h with rfl | h
  ·omega
  ·have:=zJE h; omega
theorem zCk:∀(a b:List Val),qY (a++b)=qY a+qY b
 | [],b=>by simp[qY]
 | x::a,b=>by simp[qY,zCk a b]; omega
theorem zGp {l:List Val}{i:Nat}(h:i<l.length):qY (l.take (i+1))=qY (l.take i)+qI l[i]:=by rw[jA9 h,zCk]; simp[qY]
theorem zIz (l:List Val)(i:Nat):qY l=qY (l.take i)+qY (l.drop i):=by
 conv=>lhs; rw[←jBy i l]
 exact zCk _ _
def zBJ:A:=.clo 124 [] [.ptr 0 0,.ptr 1 0]
def sSt (L:Nat):St:=[.box [int L],.box [zBJ]]
def zEG (L:Nat)(d:Int):St:=[.box [int L],.box [zBJ],.box [int d]]
def zKk (v:Val)(d:Int):Prop:=∀L:Nat,qI v≤L→L≤256→Ret prog 124 [.agg (zJ v),int d,.ptr 0 0,.ptr 1 0] (sSt L) (bl true) (sSt (L-qI v))
theorem zU3 (v:Val)(d:Int)(hd:0≤d∧d≤100)(h:zKk v (d+1))(L:Nat)(hL:qI v≤L)(hL2:L≤256) :
 Ret prog 126 [.agg (zJ v),.ptr 1 0,.ptr 2 0] (zEG L d) (bl false) (zEG (L-qI v) d):=by
 refine zK Tryz.func126 rfl qIO (rs:=[.slot 4]) (by kernel_rfl) ?_;unfold qAW;have hw:=qF (d+1) (by omega);simp[zEG,zBJ,hw,zJ];refine zN (h L hL hL2) [0,1] (by simp) (by simp[sSt,zBJ]) (by simp[zJ]) ?_;simp[sSt,zBJ];exact zG [0,1,2] 0 (by decide) (by simp) (by simp[zBJ]) (by simp)
theorem zZr (l:List Val)(d:Int)(hd:0≤d∧d≤100)(h:∀x∈l,zKk x (d+1))(L:Nat)(hL:qY l≤L)(hL2:L≤256) :
 Ret prog 143 [.sl l.length (zV l),.clo 126 [] [.ptr 1 0,.ptr 2 0]] (zEG L d) (int (-1)) (zEG (L-qY l) d):=by
 refine zK Tryz.func143 rfl qIM (rs:=[.slot 4]) (by kernel_rfl) ?_;unfold qCs;simp[zEG,zBJ];intro hl;refine qW (S:=Nat) (fun i=>[(0,.sl l.length (zV l)),(1,.clo 126 [] [.ptr 1 0,.ptr 2 0]),(6,.sl l.length (zV l)),(7,int l.length),(8,int i)]) (fun i=>zEG (L-qY (l.take i)) d) (fun i=>i≤l.length) (fun i=>l.length-i) 0 (by simp)
  (zR [0,1,2] 0 (by decide) (by simp) (by simp[zEG,zBJ,qY]) (by simp)) ?_
 intro i hi;by_cases hil:i<l.length
 ·have e1:=zGp hil;have e2:=zIz l (i+1);simp[hil,jN hil,zEG,zBJ];refine zN (zU3 l[i] d hd (h _ (jA0 hil)) (L-qY (l.take i)) (by omega) (by omega)) [0,1,2] (by simp) (by simp[zEG,zBJ]) (by simp[zJ]) ?_;simp[zEG,zBJ];exact zU (i+1) hil (by omega) (zR [0,1,2] 0 (by decide) (by simp) (by simp[zEG,zBJ,e1,Nat.sub_sub]) (by simp[qA hil hl]))
 ·have:i=l.length:=by omega
  subst this;simp[zEG,zBJ];exact zG [0,1,2] 0 (by decide) (by simp) (by simp[zBJ]) (by simp)
theorem zYE (l:List Val)(d:Int)(hd:0≤d∧d≤100)(h:∀x∈l,zKk x (d+1))(L:Nat)(hL:qY l≤L)(hL2:L≤256) :
 Ret prog 125 [.sl l.length (zV l),.clo 126 [] [.ptr 1 0,.ptr 2 0]] (zEG L d) (bl false) (zEG (L-qY l) d):=by
 refine zK Tryz.func125 rfl qIH (rs:=[.slot 4]) (by kernel_rfl) ?_;unfold qCr;simp[zEG,zBJ];refine zN (zZr l d hd h L hL hL2) [0,1,2] (by simp) (by simp[zEG,zBJ]) (by simp) ?_;simp[zEG,zBJ];exact zG [0,1,2] 0 (by decide) (by simp) (by simp[zBJ]) (by simp)
theorem zLT (v:Val)(d:Int)(hd:1≤d∧d+zAK v≤25):zKk v d:=by
 intro L hL hL2;refine zK Tryz.func124 rfl qIN (rs:=[.slot 6]) (by kernel_rfl) ?_;unfold qAV;have e1:=zIy v;have e2:=zIJ v;have hw:IntKind.i64.wrap ((L:Int)-1)=((L-1:Nat):Int):=by rw[IntWalk.i64_in _ (by omega)]; omega
 have hd24:d≤24:=by omega
 simp[sSt,zBJ,hw,hd24,zJ];refine zN (zYE v.kids d (by omega) (fun x hx=>zLT x (d+1) (by have:=zJE hx; omega)) (L-1) (by omega) (by omega)) [0,1,3] (by simp) (by simp[zEG,zBJ]) (by simp) ?_;simp[zEG,zBJ];exact zG [0,1] 0 (by decide) (by simp) (by simp[zBJ,e1,Nat.sub_sub]) (by simp)
termination_by qI v
decreasing_by exact zAC hx
theorem zXF (v:Val)(h1:qI v≤256)(h2:zAK v≤24):Ret prog 91 [.agg (zJ v)] [] (bl true) []:=by refine zK Tryz.func91 rfl qOK (rs:=[.slot 2]) (by kernel_rfl) ?_;unfold qHO;simp[zJ];refine zN (zLT v 1 (by omega) 256 h1 (by omega)) [1,2] (by simp) (by simp[sSt,zBJ]) (by simp[zJ]) ?_;simp[sSt,zBJ];exact zC 0 (by simp)
theorem zMw:Ret prog 97 [.sl 0 []] [] (.sl 0 []) []:=by refine zK Tryz.func97 rfl zOI (rs:=[.slot 2]) (by kernel_rfl) ?_;unfold zK0;simp;exact zC 0 (by simp)
def qHC:K:=G [kMn 2] (G [M 4 0,kC 5 94 [(kt 4)],M 3 5] (G [M 6 3,kC 7 95 [(kt 6),(.func 96)]] (G [M 8 3,kC 9 97 [(kt 8)],M 2 9] kr)))
theorem qO8:zL prog Tryz.f48.ntmps (Tryz.f48.body.getD .skip)=some qHC.erase:=by kernel_rfl
@[simp] theorem qPP:zA prog 48=true:=by kernel_rfl
theorem zJu (l:List Id)(hb:l.length≤1000000):Ret prog 48 [.sl l.length (qE l)] [] (.sl (zCz l).length (qE (zCz l))) []:=by
 refine zK Tryz.func48 rfl qO8 (rs:=[.slot 2]) (by kernel_rfl) ?_;unfold qHC;simp;by_cases h:l=[]
 ·subst h;refine zN zOS [] (by simp) (by simp) (by simp) ?_;simp;refine zN (zRK (.clo 96 [] [])) [] (by simp) (by simp) (by simp) ?_;simp;refine zN zMw [] (by simp) (by simp) (by simp) ?_;simp;exact zC 0 (by simp[zCz,zDv,zAy])
 ·refine zN (zOR l h hb) [] (by simp) (by simp) (by simp) ?_;simp;refine zN (zRJ l (by omega)) [0] (by simp) (by simp) (by simp) ?_;have hp:=(zH7 l).length_eq;simp;have hc:=zQR (zDv zFC l) (by omega);rw[hp]at hc;refine zN hc [0] (by simp) (by simp) (by simp) ?_;have hle:=zMN (zDv zFC l);simp[zOT];by_cases hcc:zAy (zDv zFC l)=zDv zFC l
  ·simp[hcc,hp];exact zC 1 (by simp[zCz,hcc,hp,zCY])
  ·simp[hcc,hp];have h0:(zAy (zDv zFC l)).length≠0:=fun e=>by have h1:=jC e;obtain⟨x,hx⟩:=List.exists_mem_of_ne_nil l h;have:=(zIG (x:=x) (zDv zFC l)).2 ((zH7 l).mem_iff.2 hx);rw[h1]at this;simp at this
   exact zC 1 (by simp[zCz,h0,jS])
@[simp] theorem qJd:zA prog 30=true:=by kernel_rfl
def qA3:K:=G [kO 2 0,kMb 4 false] (G [⟨none,.mop (some 8) (.mk 3) []⟩,kZ 5 [(.map none)],S 5 8 1] (Z (G [D 9 2 0,L 10 9 1,D 11 2 1,L 12 11 1,kd 13 45 1 2 [kl,kl] [(0,1,(kt 10)),(1,1,(kt 12))],kC 14 69 [(kt 13)],kN 15 14,kMi 16 0] (K.block 0 (K.loop (G [kB 17 16 15 .lss] (Z (Y 17 ks (K.exit 0)) (Z (K.block 1 (G [kX 18 14 16 3,J 19 18 3,kZ 7 [ki,ki,ki],S 7 19 3] (K.ops [L 20 5 1,J 21 7 3,⟨none,.mop none (.set 3) [(kt 20),(kt 21),(.const (.bool true))]⟩]))) (K.ops [kBi 22 16 1 .add,M 16 22]))))))) (G [M 23 1,⟨none,.clo (some 24) 71 [] [(kt 5)]⟩,kC 25 70 [(kt 23),(kt 24)],M 4 25] kr)))
theorem qIq:zL prog Tryz.f29.ntmps (Tryz.f29.body.getD .skip)=some qA3.erase:=by kernel_rfl
@[simp] theorem qLG:zA prog 29=true:=by kernel_rfl
def zUQ:K:=G [kO 2 0,kMb 3 false] (G [L 4 1 1,J 5 2 3,⟨none,.mop (some 6) (.get 3 (.bool false) false) [(kt 4),(kt 5)]⟩,M 3 6] kr)
theorem qC0:zL prog Tryz.f71.ntmps (Tryz.f71.body.getD .skip)=some zUQ.erase:=by kernel_rfl
@[simp] theorem qIS:zA prog 71=true:=by kernel_rfl
def zSf:K:=G [kMi 4 0] (Z (G [M 6 0,kN 7 6,kMi 8 0] (K.block 0 (K.loop (G [kB 9 8 7 .lss] (Z (Y 9 ks (K.exit 0)) (Z (K.block 1 (G [M 10 8,M 5 10] (G [M 11 1,M 12 0,M 13 5,kX 14 12 13 3,J 15 14 3,⟨none,.call (some 16) (kt 11) [(kt 15)]⟩] (Y 16 (G [M 17 5,M 4 17] kr) ks)))) (K.ops [kBi 18 8 1 .add,M 8 18]))))))) (G [⟨none,.mov (some 4) (kc (-1))⟩] kr))
theorem zYu:zL prog Tryz.f117.ntmps (Tryz.f117.body.getD .skip)=some zSf.erase:=by kernel_rfl
@[simp] theorem qFa:zA prog 117=true:=by kernel_rfl
def zUR:K:=G [kMb 4 false] (G [M 5 0,M 6 1,kC 7 117 [(kt 5),(kt 6)],kBi 8 7 0 .geq,M 4 8] kr)
theorem qC1:zL prog Tryz.f70.ntmps (Tryz.f70.body.getD .skip)=some zUR.erase:=by kernel_rfl
@[simp] theorem qIV:zA prog 70=true:=by kernel_rfl
def zEA (l:List Id):List (List Int×A):=l.foldl (fun es d=>zD7 (zBz d) (.lit (.bool true)) es) []
theorem zIY (l:List Id)(x:Id):zEA (l++[x])=zD7 (zBz x) (.lit (.bool true)) (zEA l):=by simp[zEA,jC3]
theorem zFZ {x y:Id}:zBz x=zBz y↔x=y:=by simp[zBz,Id.eq_iff]
theorem zMV {ks ks':List Int}{v:A}:∀(es:List (List Int×A)),zAL ks (zD7 ks' v es)=if ks'=ks then some v else zAL ks es
 | []=>by simp[zD7,zAL]
 | p::es=>by
  simp only[zD7];by_cases h:p.1=ks'
  ·simp only[h,if_true,zAL];by_cases h':ks'=ks<;>simp[h']
  ·simp only[h,if_false,zAL];by_cases h':p.1=ks
   ·simp only[h',if_true];have:¬ks'=ks:=fun e=>h (h'.trans e.symm)
    simp[this]
   ·simp only[h',if_false,zMV es]
theorem zRd (x:Id)(l:List Id):zAL (zBz x) (zEA l)=if x∈l then some (.lit (.bool true)) else none:=by
 induction l using zBK with
 | nil=>simp[zEA,zAL]
 | snoc l y ih =>
  rw[zIY,zMV,ih];by_cases h:y=x
  ·subst h; simp
  ·have:¬zBz y=zBz x:=fun e=>h (zFZ.1 e)
   have h':¬x=y:=fun e=>h e.symm
   simp[this,h']
theorem zXj (l:List Id)(k:Nat):∀p∈zEA l,p.2.bnd k=true:=by
 induction l using zBK with
 | nil=>simp[zEA]
 | snoc l y ih =>
  rw[zIY];have:∀es:List (List Int×A),(∀p∈es,p.2.bnd k=true)→∀p∈zD7 (zBz y) (.lit (.bool true)) es,p.2.bnd k=true:=by
   intro es;induction es with
   | nil=>intro _ p hp; simp[zD7]at hp; subst hp; rfl
   | cons q es ih =>
    intro h p hp;simp only[zD7]at hp;split at hp
    ·rcases jA3.1 hp with rfl | hp
     ·rfl
     ·exact h p (jAm _ hp)
    ·rcases jA3.1 hp with rfl | hp
     ·exact h _ (jAn ..)
     ·exact ih (fun p hp=>h p (jAm _ hp)) p hp
  exact this _ ih
@[simp] theorem qMK {rf:Bool→Nat→Nat→A}{g:Nat→Option Nat}(l:List Id):((zEA l).map fun p=>(p.1,vw rf g p.2))=zEA l:=by
 have h:=zXj l 0;generalize zEA l=es at h;induction es with
 | nil=>rfl
 | cons p es ih =>
  rw[jAj,ih fun q hq=>h q (jAm _ hq),zXX (k:=0) (fun l hl=>by omega) p.2 (h p (jAn ..))]
theorem zV1 (l:List Id)(x:Id):Ret prog 71 [.agg (jF x),.ptr 0 0] [.box [.map 1],.mp true 3 (zEA l)] (bl (decide (x∈l))) [.box [.map 1],.mp true 3 (zEA l)]:=by
 refine zK Tryz.func71 rfl qC0 (rs:=[.slot 3]) (by kernel_rfl) ?_;unfold zUQ;have hf:=zRd x l;simp only[zBz]at hf;simp[jF];have hr:zFY (Value.bool false) false (zAL [x.a,x.b,x.c] (zEA l))=.lit (.bool (decide (x∈l))):=by rw[hf];by_cases h:x∈l<;>simp[zFY,h,zGK,jJ]
 rw[hr];exact zG [0,1] 0 (by decide) (by simp) (by simp) (by simp)
def zRs (l ids:List Id):Int:=match ids.findIdx? (fun x=>decide (x∈l))with
 | some i=>i
 | none=>-1
theorem zPv (l ids:List Id):decide (0≤zRs l ids)=ids.any fun x=>decide (x∈l):=by
 unfold zRs;cases h:ids.findIdx? (fun x=>decide (x∈l))with
 | none =>
  rw[List.findIdx?_eq_none_iff]at h;have:(ids.any fun x=>decide (x∈l))=false:=by rw[jDh]; exact fun x hx=>by simpa using h x hx
  rw[this]; rfl
 | some i =>
  have h':=List.findIdx?_eq_some_iff_getElem.1 h;obtain⟨hi,h1,_⟩:=h';have:(ids.any fun x=>decide (x∈l))=true:=by rw[List.any_eq_true]; exact⟨_,jA0 hi,h1⟩
  rw[this]; simp
theorem zUf (l ids:List Id):Ret prog 117 [.sl ids.length (qE ids),.clo 71 [] [.ptr 0 0]] [.box [.map 1],.mp true 3 (zEA l)] (int (zRs l ids)) [.box [.map 1],.mp true 3 (zEA l)]:=by
 refine zK Tryz.func117 rfl zYu (rs:=[.slot 4]) (by kernel_rfl) ?_;unfold zSf;simp;intro hl;refine qW (S:=Nat) (fun i=>[(0,.sl ids.length (qE ids)),(1,.clo 71 [] [.ptr 0 0]),(7,int ids.length),(8,int i)]) (fun i=>[.box [.map 1],.mp true 3 (zEA l)]) (fun i=>i≤ids.length∧∀x∈ids.take i,x∉l) (fun i=>ids.length-i) 0 (by simp)
  (zR [0,1] 0 (by decide) (by simp) (by simp) (by simp)) ?_
 rintro i ⟨hi,hn⟩;by_cases h:i<ids.length
 ·simp[h,yS h];refine zN (zV1 l ids[i]) [0,1] (by simp) (by simp) (by simp[jF]) ?_;simp;by_cases hx:ids[i]∈l
  ·have:zRs l ids=i:=by
    unfold zRs;rw[List.findIdx?_eq_some_iff_getElem.2 ⟨h,by simpa using hx,fun j hj=>by
     have:=hn ids[j] (by rw[List.mem_take_iff_getElem]; exact⟨j,by omega,rfl⟩)
     simpa using this⟩]
   simp[hx];exact zG [0,1] 0 (by decide) (by simp) (by simp) (by simp[this])
  ·simp[hx];exact zU (i+1) ⟨h,fun x hx'=>by
    rw[jA9 h]at hx';rcases jA8.1 hx' with hx' | hx'
    ·exact hn x hx'
    ·rw[jAg.1 hx']; exact hx⟩ (by omega) (zR [0,1] 0 (by decide) (by simp) (by simp) (by simp[qA h hl]))
 ·have:i=ids.length:=by omega
  subst this;rw[jAp]at hn;have:zRs l ids = -1:=by unfold zRs;rw[List.findIdx?_eq_none_iff.2 fun x hx=>by simpa using hn x hx]
  simp;exact zG [0,1] 0 (by decide) (by simp) (by simp) (by simp[this])
theorem zWa (l ids:List Id):Ret prog 70 [.sl ids.length (qE ids),.clo 71 [] [.ptr 0 0]] [.box [.map 1],.mp true 3 (zEA l)] (bl (ids.any fun x=>decide (x∈l))) [.box [.map 1],.mp true 3 (zEA l)]:=by refine zK Tryz.func70 rfl qC1 (rs:=[.slot 4]) (by kernel_rfl) ?_;unfold zUR;simp;refine zN (zUf l ids) [0,1] (by simp) (by simp) (by simp) ?_;simp;exact zG [0,1] 0 (by decide) (by simp) (by simp) (by rw[←zPv]; simp)
theorem zSn (t:Trc)(ids l:List Id)(hl:l=t.defs++t.nodes)(h:l.length≤1000000):Ret prog 29 [.agg (zDr t),.sl ids.length (qE ids)] [] (bl (ids.any fun x=>decide (x∈l))) []:=by
 refine zK Tryz.func29 rfl qIq (rs:=[.slot 4]) (by kernel_rfl) ?_;unfold qA3;have e1:[t.defs,t.nodes].flatten=l:=by simp[hl]
 simp[zDr];refine zT (zNR [t.defs,t.nodes] (by rw[zDZ,e1]; exact h)) (by simp[zBP]) (by simp) ?_;rw[zDZ,e1];simp;intro hlm;refine qW (S:=Nat) (fun i=>[(1,.sl ids.length (qE ids)),(5,.ptr 0 0),(14,.sl l.length (qE l)),(15,int l.length),(16,int i)]) (fun i=>[.box [.map 1],.mp true 3 (zEA (l.take i))]) (fun i=>i≤l.length) (fun i=>l.length-i) 0 (by simp)
  (zR [2,1] 0 (by simp) (by simp) (by simp[zEA]) (by simp)) ?_
 intro i hi;by_cases h:i<l.length
 ·have hs:=zIY (l.take i) l[i];rw[←jA9 h,zBz]at hs;simp[h,yS h];rw[←hs];exact zU (i+1) h (by omega) (zR [0,1] 0 (by simp) (by simp) (by simp) (by simp[qA h hlm]))
 ·have:i=l.length:=by omega
  subst this;simp;refine zN (zWa l ids) [0,1] (by simp) (by simp) (by simp) ?_;simp;exact zC 0 (by simp)
end Go.Proofs.YthglhccibdlccaaGreatDoor
