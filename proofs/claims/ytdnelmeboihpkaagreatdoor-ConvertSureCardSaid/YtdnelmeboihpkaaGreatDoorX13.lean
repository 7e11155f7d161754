/-
  Breadth first: what a search has met, and what that says.
  slices.Clone, Grow, Concat, SortFunc, Compact at lists of IDs.
  Types, definitions and nodes are compared.
  Regions in order: the deferred calls stay as they are.
  Values as data: their cells; size, depth and order.
  slices.Compact at lists of IDs.
  value.SameType, trace.sameDef, trace.sameNode, trace.bodied.
  Numbers of the reference's evaluator: clip, truth.
  The reference's environments: With, Find.
  value.Size and trace.deep.
  value.small: true at small values.
  trace.set, Join and Asks; the law's lists of IDs.
  The maker of programs: its state, its small functions.
  eval: environments, and the depth of a value.
  The law's lists of IDs; the law TraceJoins.
  trace.read: the first definition and the first node of each ID.
-/
import Derived.Test.YtdnelmeboihpkaaGreatDoorX12
import Derived.Test.YtdnelmeboihpkaaGreatDoorX10
set_option linter.unusedVariables false
set_option maxHeartbeats 8000000
set_option maxRecDepth 100000
set_option linter.unusedSimpArgs false
open Go.Proofs.Tryz (prog)
namespace Go.Proofs.YtdnelmeboihpkaaGreatDoor
section
variable (marked:List Id)(x:Id)
def zEe:List Edg→List Id→List Id
 | [],M=>M
 | e::l,M=>zEe l (if e.fro=x∧e.to∉M∧e.to∉marked then M++[e.to] else M)
theorem zLP (e:Edg):∀(l:List Edg) (M:List Id),zEe marked x (l++[e]) M=(if e.fro=x∧e.to∉zEe marked x l M∧e.to∉marked then zEe marked x l M++[e.to] else zEe marked x l M)
 | [],M=>rfl
 | a::l,M=>by simp only[jB9,zEe]; exact zLP e l _
theorem zH0:∀(l:List Edg) (M:List Id),∃N,zEe marked x l M=M++N
 | [],M=>⟨[],by simp[zEe]⟩
 | e::l,M=>by
  simp only[zEe];split
  ·obtain⟨N,h⟩:=zH0 l (M++[e.to]);exact⟨e.to::N,by rw[h]; simp⟩
  ·exact zH0 l M
variable {marked x}
theorem zNo:∀(l:List Edg) {M:List Id},M.Nodup→(zEe marked x l M).Nodup
 | [],_,h=>h
 | e::l,M,h=>by
  simp only[zEe];split
  ·rename_i hc;refine zNo l ?_;rw[jCk];refine⟨h,by simp,fun a ha b hb=>?_⟩;rw[jAp]at hb;subst hb;exact fun e=>hc.2.1 (e▸ha)
  ·exact zNo l h
theorem zOp:∀(l:List Edg) (M:List Id) (e:Edg),e∈l→e.fro=x→e.to∈zEe marked x l M∨e.to∈marked
 | a::l,M,e,he,hx=>by
  simp only[zEe];rcases jA6.1 he with rfl | he
  ·obtain⟨N,h⟩:=zH0 marked x l (if e.fro=x∧e.to∉M∧e.to∉marked then M++[e.to] else M);rw[h];by_cases h1:e.to∈M
   ·exact .inl (by split<;>simp[h1])
   ·by_cases h2:e.to∈marked
    ·exact .inr h2
    ·exact .inl (by rw[if_pos ⟨hx,h1,h2⟩]; simp)
  ·exact zOp l _ e he hx
theorem zOq:∀(l:List Edg) (M:List Id) (y:Id),y∈zEe marked x l M→y∈M∨∃e∈l,e.fro=x∧e.to=y∧y∉marked
 | [],M,y,h=>.inl h
 | a::l,M,y,h=>by
  simp only[zEe]at h;rcases zOq l _ y h with h | ⟨e,he,h1,h2,h3⟩
  ·split at h
   ·rename_i hc;rcases jAj.1 h with h | h
    ·exact .inl h
    ·rw[jAp]at h;subst h;exact .inr ⟨a,by simp,hc.1,rfl,hc.2.2⟩
   ·exact .inl h
  ·exact .inr ⟨e,by simp[he],h1,h2,h3⟩
end
structure Bfs (L:List Edg)(to:Id)(marked:List Id)(fro:Id)(M:List Id)(k:Nat):Prop where
 nd:M.Nodup
 first:fro∈M
 from_:∀y∈M,y=fro∨∃e∈L,e.to=y
 back:∀y∈M,Rchs L to marked y→Rchs L to marked fro
 not_:∀j (hj:j<M.length),j<k→M[j]≠to
 closed:∀j (hj:j<M.length),j<k→∀e∈L,e.fro=M[j]→e.to∈M∨e.to∈marked
 le:k≤M.length
theorem Bfs.start (L:List Edg)(to:Id)(marked:List Id)(fro:Id):Bfs L to marked fro [fro] 0 :=
 ⟨by simp,by simp,by simp,by simp,by omega,by omega,by simp⟩
theorem Bfs.len {L:List Edg}{to:Id}{marked:List Id}{fro:Id}{M:List Id}{k:Nat}(h:Bfs L to marked fro M k):M.length≤L.length+1:=by
 have:=h.nd.length_le_of_subset (l₂:=fro::L.map (·.to)) fun y hy=>by
  rcases h.from_ y hy with rfl | ⟨e,he,rfl⟩
  ·simp
  ·simp only[jA6,jAg];exact .inr ⟨e,he,rfl⟩
 simpa using this
theorem Bfs.next {L:List Edg}{to:Id}{marked:List Id}{fro:Id}{M:List Id}{k:Nat}(h:Bfs L to marked fro M k)(hk:k<M.length)(hne:M[k]≠to):Bfs L to marked fro (zEe marked M[k] L M) (k+1):=by
 obtain⟨N,hN⟩:=zH0 marked M[k] L M;have hall:=zOp (marked:=marked) (x:=M[k]) L M;have hmem:=zOq (marked:=marked) (x:=M[k]) L M;have hnd:=zNo (marked:=marked) (x:=M[k]) L h.nd;rw[hN]at hall hmem hnd ⊢;refine⟨hnd,jBh _ h.first,fun y hy=>?_,fun y hy hr=>?_,fun j hj hjk=>?_,fun j hj hjk e he hx=>?_,by simp; omega⟩
 ·rcases hmem y hy with hy | ⟨e,he,_,h2,_⟩
  ·exact h.from_ y hy
  ·exact .inr ⟨e,he,h2⟩
 ·rcases hmem y hy with hy | ⟨e,he,h1,h2,h3⟩
  ·exact h.back y hy hr
  ·refine h.back _ (jA3 hk) ?_;rw[←h1];exact .step e he (by rw[h2]; exact h3) (by rw[h2]; exact hr)
 ·rw[jBs (by omega)];by_cases hjk':j=k
  ·subst hjk'; exact hne
  ·exact h.not_ j (by omega) (by omega)
 ·rw[jBs (by omega)]at hx;by_cases hjk':j=k
  ·subst hjk'; exact hall e he hx
  ·rcases h.closed j (by omega) (by omega) e he hx with h' | h'
   ·exact .inl (jBh _ h')
   ·exact .inr h'
theorem Bfs.yes {L:List Edg}{to:Id}{marked:List Id}{fro:Id}{M:List Id}{k:Nat}(h:Bfs L to marked fro M k)(hk:k<M.length)(he:M[k]=to):Rchs L to marked fro :=
 h.back _ (jA3 hk) (he▸.here)
theorem Bfs.no {L:List Edg}{to:Id}{marked:List Id}{fro:Id}{M:List Id}{k:Nat}(h:Bfs L to marked fro M k)(hk:k=M.length):¬Rchs L to marked fro:=by
 intro hr;have key:∀y,Rchs L to marked y→y∈M→to∈M:=by
  intro y hy;induction hy with
  | here=>exact fun h=>h
  | step e he hn _ ih =>
   intro hm;obtain⟨j,hj,e'⟩:=jB0 hm;rcases h.closed j hj (by omega) e he e'.symm with h' | h'
   ·exact ih h'
   ·exact(hn h').elim
 obtain⟨j,hj,e⟩:=jB0 (key fro hr h.first);exact h.not_ j hj (by omega) e
end Go.Proofs.YtdnelmeboihpkaaGreatDoor
namespace Go.Proofs.YtdnelmeboihpkaaGreatDoor
open Go.Abs
def zQr:K:=G [kMn 2] (Z (G [M 3 0,⟨none,.isz (some 4) false (kt 3)⟩] (Y 4 (G [kMn 2] kr) ks)) (G [kd 5 31 3 0 [] [],M 6 0,kP 7 31 3 24 5 6,M 2 7] kr))
theorem zVb:zO prog Tryz.f100.ntmps (Tryz.f100.body.getD .skip)=some zQr.erase:=by kernel_rfl
@[simp] theorem qHv:zA prog 100=true:=by kernel_rfl
def zEK (Ls:List (List Id)):List A:=Ls.map fun l=>A.sl l.length (zQ l)
theorem zEL:∀(Ls:List (List Id)),qE (zEK Ls)
 | []=>qE.nil
 | l::Ls=>by
  have h1:=zEL Ls;have h2:=zBn l;refine⟨?_,fun rf g=>?_⟩
  ·show qU (A.sl l.length (zQ l)::zEK Ls)=_;simp[h1.1];rfl
  ·show vwL rf g (A.sl l.length (zQ l)::zEK Ls)=_;simp[h1.2];rfl
@[simp] theorem qA6 (l:List (List Id)):qU (zEK l)=zEK l:=(zEL l).1
@[simp] theorem qFo {rf g}(l:List (List Id)):vwL rf g (zEK l)=zEK l:=(zEL l).2 _ _
@[simp] theorem qBA (l:List (List Id)):(zEK l).length=l.length:=by simp[zEK]
end Go.Proofs.YtdnelmeboihpkaaGreatDoor
namespace Go.Proofs.YtdnelmeboihpkaaGreatDoor
open Go.Abs
def zG8 {α : Type}(same : α→α→Bool):List α→List α→Bool
 | [],[]=>true
 | x::a,y::b=>same x y&&zG8 same a b
 | _,_=>false
theorem zOt {α : Type}{same : α→α→Bool}:∀{a b:List α},a.length≠b.length→zG8 same a b=false
 | [],[],h=>(h rfl).elim
 | x::a,y::b,h=>by simp only[zG8,zOt (a:=a) (b:=b) (by simpa using h),Bool.and_false]
 | [],_::_,_=>rfl
 | _::_,[],_=>rfl
theorem zJX {α : Type}{same : α→α→Bool}:∀{a b:List α} (hl:a.length=b.length),zG8 same a b=true↔∀(j:Nat) (h:j<a.length),same a[j] (b[j]'(hl▸h))=true
 | [],[],_=>by simp[zG8]
 | x::a,y::b,hl=>by
  simp only[zG8,jA4,zJX (a:=a) (b:=b) (by simpa using hl)];constructor
  ·rintro⟨h1,h2⟩ j h;cases j with
   | zero=>exact h1
   | succ j=>exact h2 j (by simpa using h)
  ·intro h;exact⟨h 0 (by simp),fun j hj=>h (j+1) (by simpa using hj)⟩
 | [],_::_,hl=>by simp at hl
 | _::_,[],hl=>by simp at hl
def qGb:K:=G [kMb 6 false] (Z (G [M 10 0,kN 11 10,M 12 1,kN 13 12,kQ 14 11 13 true] (Y 14 (G [kMb 6 false] kr) ks)) (Z (G [M 15 0,kN 16 15,kMi 17 0] (K.block 0 (K.loop (G [kB 18 17 16 .lss] (Z (Y 18 ks (K.exit 0)) (Z (K.block 1 (G [M 19 17,kX 20 15 17 5,J 21 20 5,kZ 8 kz2,M 7 19,S 8 21 5] (G [M 22 1,M 23 7,kX 24 22 23 5,J 25 24 5,kZ 9 kz2,S 9 25 5] (G [M 26 2,J 27 8 5,J 28 9 5,⟨none,.call (some 29) (kt 26) [(kt 27),(kt 28)]⟩,kR 30 29] (Y 30 (G [kMb 6 false] kr) ks))))) (K.ops [kBi 31 17 1 .add,M 17 31]))))))) (G [kMb 6 true] kr)))
theorem qNa:zO prog Tryz.f140.ntmps (Tryz.f140.body.getD .skip)=some qGb.erase:=by kernel_rfl
@[simp] theorem qND:zA prog 140=true:=by kernel_rfl
theorem zXX (g:FuncId)(hcal:zA prog g=true)(same:Typ→Typ→Bool)(a b:List Typ)(h:∀x∈a,∀y∈b,Ret prog g [.agg (zS x),.agg (zS y)] [] (bl (same x y)) []) :
 Ret prog 140 [.sl a.length (jV a),.sl b.length (jV b),.clo g [] []] [] (bl (zG8 same a b)) []:=by
 refine zK Tryz.func140 rfl qNa (rs:=[.slot 6]) (by kernel_rfl) ?_;unfold qGb;by_cases hab:a.length=b.length
 ·simp[hab];intro hlb;refine jX (S:=Nat) (fun i=>[(1,.sl b.length (jV b)),(2,.clo g [] []),(15,.sl a.length (jV a)),(16,int a.length),(17,int i)]) (fun s=>[]) (fun i=>i≤a.length∧∀(j:Nat) (h:j<a.length),j<i→same a[j] (b[j]'(hab▸h))=true) (fun i=>a.length-i) 0 (by simp)
   (zP [] 0 (by simp) (by simp) (by simp) (by simp[hab])) ?_
  rintro i ⟨hi,hn⟩;by_cases hia:i<a.length
  ·have hib:i<b.length:=by omega
   have hla:i*5<a.length*5:=by omega
   have hlb':i*5<b.length*5:=by omega
   simp[hia,hib,zJh hia,zJh hib,hcal,zS];refine qK (h a[i] (jA3 hia) b[i] (jA3 hib)) (by simp[zS]) (by simp) ?_;cases hs:same a[i] b[i]with
   | true =>
    simp;exact zU (i+1) ⟨hia,fun j hj hji=>by
     by_cases e:j=i
     ·subst e; exact hs
     ·exact hn j hj (by omega)⟩ (by omega) (zP [] 0 (by simp) (by simp) (by simp) (by simp[qO hib hlb]))
   | false =>
    have hf:zG8 same a b=false:=by
     cases hh:zG8 same a b with
     | false=>rfl
     | true=>have:=(zJX hab).1 hh i hia; rw[hs]at this; cases this
    simp;exact zB 0 (by simp[hf])
  ·have hil:i=a.length:=by omega
   subst hil;have ht:zG8 same a b=true:=(zJX hab).2 fun j hj=>hn j hj hj
   simp;exact zB 0 (by simp[ht])
 ·have hab':¬(a.length:Int)=b.length:=by omega
  simp[hab'];exact fun _ _=>zB 0 (by simp[zOt hab])
end Go.Proofs.YtdnelmeboihpkaaGreatDoor
namespace Go.Abs
section
variable {P:Program}{n0:Nat}
def zGD (H:Mem)(L:List LI)(w:World)(N:Nat)(Q:Ex→Env→St→Prop)(dfs:List Deferred):Exit→Act→World→Prop:=fun e a' w' =>
 ∃x env' σ' H' L',e=x.exit?∧a'.defers=dfs∧zX H' L' N env' a'.tmps∧Nxt H L w H' L' σ' w'∧Q x env' σ'
theorem zGD.next {N:Nat}{w:World}{H:Mem}{L:List LI}{H':Mem}{L':List LI} {σ':St}{w':World}{Q:Ex→Env→St→Prop}{dfs:List Deferred}(hn:Nxt H L w H' L' σ' w'){e:Exit}{b:Act}{v:World}(h:zGD H' L' w' N Q dfs e b v):zGD H L w N Q dfs e b v:=by obtain⟨x,env'',σ'',H'',L'',h1,h2,h3,h4,h5⟩:=h;exact⟨x,env'',σ'',H'',L'',h1,h2,h3,hn.trans h4,h5⟩
theorem zGD.post {N:Nat}{w:World}{H:Mem}{L:List LI}{Q:Ex→Env→St→Prop}{dfs:List Deferred}{e:Exit}{b:Act}{v:World}(h:zGD H L w N Q dfs e b v):zGS H L w N Q dfs e b v:=by obtain⟨x,env'',σ'',H'',L'',h1,h2,h3,h4,h5⟩:=h;exact⟨x,env'',σ'',H'',L'',h1,h2▸Mk.refl _ _ _,h3,h4,h5⟩
theorem zFt {N:Nat}{ro:Option Nat}{ops:Array Oper}(hall:∀o∈ops.toList,∀x,o.dst=some x→x<N){Q:Ex→Env→St→Prop}{dfs:List Deferred}{Qc:Exit→Act→World→Prop} :
 ∀(l:List Oper) (gs:List KG) {H:Mem} {L:List LI} {σ : St} {w:World} {env:Env} {a:Act},zJa P N ops l gs→zX H L N env a.tmps→RelSt H L σ w→a.defers=dfs →
  zC7 P (fun v=>Q (.pan v)) (Q .norm) gs env σ→(∀e b v,zGD H L w N Q dfs e b v→Qc e b v)→wpListIn (Wr ro) 0 P ops Qc l a w
 | [],gs,H,L,σ,w,env,a,hc,he,hs,hd,h,hQ=>by simp only[zJa]at hc;subst hc;exact hQ _ _ _ ⟨.norm,env,σ,H,L,rfl,hd,he,Nxt.refl hs,h⟩
 | o::l,gs,H,L,σ,w,env,a,hc,he,hs,hd,h,hQ=>by
  simp only[zJa]at hc;obtain⟨g,gs',rfl,hg,hgs⟩:=hc;obtain⟨hk,hdst,hgd⟩:=yP hg;have hkd:=zAx hk;have hke:g.erase.op.dst=g.op.dst:=by show g.op.erase.dst=g.op.dst;cases g.op<;>rfl
  rw[hke]at hkd;simp only[zC7]at h;have exec:wpO P (fun v=>Q (.pan v)) (zC7 P (fun v=>Q (.pan v)) (Q .norm) gs') g.op env σ→o.wpIn (Wr ro) 0 P a w (wpListIn (Wr ro) 0 P ops Qc l) Qc:=by
   intro h;refine zDz hk hdst he hs h (fun env' σ' H' L' a' w' h1 h2 h3 h4=>?_) (fun v σ' H' L' w' h1 h2=>?_)
   ·exact zFt hall l gs' hgs h2 h3.st (h1.trans hd) h4 fun e b v hp=>hQ e b v (hp.next h3)
   ·exact hQ _ _ _ ⟨.pan v,env,σ',H',L',rfl,hd,he.mono h1.step.hle h1.lle,h1,h2⟩
  have skip:zC7 P (fun v=>Q (.pan v)) (Q .norm) gs' (env.put g.op.dst (.lit undef)) σ→wpListIn (Wr ro) 0 P ops Qc l (a.put o.dst undef) w:=by intro h;refine zFt hall l gs' hgs ?_ hs ((qI _ _).trans hd) h hQ;rw[hkd];exact he.put hdst (by simp[Rel])
  unfold wpListIn;have hge:g.erase.guard=g.guard:=rfl;rw[hge]at hgd;rcases hgd with ⟨ho,hgn⟩ | ⟨j,want,s,ho,hsl,hgn⟩
  ·simp only[wpG,hgn]at h;have hw:Region.wanted o (yielded ops a.tmps)=true:=by simp[Region.wanted,ho]
   rw[if_pos hw];exact exec h
  ·simp only[wpG,hgn]at h;have hsN:=zEW hsl hall;obtain⟨w1,w2⟩:=zDh (a:=a) ho hsl (jBu hsN he.1);have hrel:=he.2 s;split at h
   ·rename_i b hb;rw[hb]at hrel;simp only[Rel]at hrel;rw[w1 b hrel];by_cases hbw:b=want
    ·simp only[hbw,decide_true,if_true];exact exec (h.1 (by simp[hbw]))
    ·simp only[hbw,decide_false,jAe,if_false];exact⟨fun _ _=>trivial,skip (h.2 (by simp[hbw]))⟩
   ·rename_i t ht;rw[ht]at hrel;simp only[Rel]at hrel;rw[w2 t hrel];simp only[jAe,if_false];exact⟨fun _ _=>trivial,skip h⟩
   ·exact h.elim
theorem zLm {N:Nat}{hint:Nat→Option (List (Nat×Nat))}{H:Mem}{L:List LI} {σ : St}{w:World}{env:Env}{a:Act}{id:Nat}{ops:Array Oper}{l:List KG}(hc:qF P N hint (.region id ops false)=some (K.ops l).erase)
 (he:zX H L N env a.tmps)(hs:RelSt H L σ w){Q:Ex→Env→St→Prop}(h:wpK P n0 (.ops l) Q env σ){Qc:Exit→Act→World→Prop}(hQ:∀e b v,zGD H L w N Q a.defers e b v→Qc e b v):(Code.region id ops false).wpIn Fence.wide 0 P Qc a w:=by
 simp only[qF,K.erase]at hc;split at hc<;>try (cases hc; done)
 rename_i l' hl;simp only[jAe,if_false,jA0,K.ops.injEq]at hc;subst hc;simp only[wpK]at h;have hall:∀o∈ops.toList,∀x,o.dst=some x→x<N:=by
  obtain⟨hlen,hget⟩:=zCu hl;intro o ho;obtain⟨i,hi⟩:=jCm ho;have hlt:i<(l.map KG.erase).length:=by rw[hlen]; exact(jA1.1 hi).1
  exact(yP (hget i o _ hi (jA2 hlt))).2.1
 exact wpIn_region_list (zFt (ro:=none) (Q:=Q) (dfs:=a.defers) hall ops.toList l (zKp hl) he hs rfl h hQ)
theorem zCK {ops:Array Oper}{N:Nat}{ro:Option Nat}{all:List (Nat×Nat×KG)}(hc:Comp P N ops all)(hall:∀o∈ops.toList,∀x,o.dst=some x→x<N){Q:Ex→Env→St→Prop}{dfs:List Deferred}{Qc:Exit→Act→World→Prop} :
 ∀(fuel:Nat) (listed:Array Bool) {H:Mem} {L:List LI} {σ : St} {w:World} {env:Env} {a:Act},zX H L N env a.tmps→RelSt H L σ w→a.defers=dfs →
  zFs P (zLf Q) ops all (Q .norm) fuel listed env σ→(∀e b v,zGD H L w N Q dfs e b v→Qc e b v)→wpAnyIn (Wr ro) 0 P .any ops Qc fuel listed a w
 | 0,listed,H,L,σ,w,env,a,he,hs,hd,h,hQ=>⟨h.1,hQ _ _ _ ⟨.norm,env,σ,H,L,rfl,hd,he,Nxt.refl hs,h.2⟩⟩
 | fuel+1,listed,H,L,σ,w,env,a,he,hs,hd,h,hQ=>by
  refine⟨fun h0=>hQ _ _ _ ⟨.norm,env,σ,H,L,rfl,hd,he,Nxt.refl hs,h.1 h0⟩,fun i hi=>?_⟩;obtain⟨_,o,ho,_⟩:=mem_ready.1 hi;rcases h.2 i hi with ⟨f,g,r,σ1,hg,hy,hK⟩ | ⟨f8,d,fo,args,hf8,hg,hcn⟩
  rotate_left
  ·have hcg:=hc.get i f8 o _ ho hg;obtain⟨hk,hdst,hgd⟩:=yP hcg;unfold wpOpIn;simp only[ho];rcases hgd with ⟨hog,hgn⟩ | ⟨j,want,s,hog,hsl,hgn⟩
   ·have hw:Region.wanted o (yielded ops a.tmps)=true:=by simp[Region.wanted,hog]
    rw[if_pos hw];refine zDz (k:=.call d fo args) (Qp:=fun v _ τ=>zLf Q v τ) (K:=fun env' τ=>zFs P (zLf Q) ops all (Q .norm) fuel (listed.setIfInBounds i true) env' τ) hk hdst he hs ?_ (fun env' σ' H' L' a' w' h1 h2 h3 h4=>?_) (fun v σ' H' L' w' h1 h2=>hQ _ _ _ ⟨.pan v,env,σ',H',L',rfl,hd,he.mono h1.step.hle h1.lle,h1,h2 env⟩)
    ·simp only[wpO];unfold zKg at hcn;split at hcn
     ·rename_i g first cap hfo
      simp only[hfo];refine⟨hcn.1,fun H L w vs h3 h4=>(hcn.2 H L w vs h3 h4).mono fun e w' hh=>?_⟩;obtain⟨o,σ',H',L',g1,g2,hh⟩:=hh;refine⟨o,σ',H',L',g1,g2,?_⟩;rcases hh with ⟨r,rfl,g4,g5⟩ | ⟨v,rfl,g4⟩
      ·exact g5
      ·exact g4
     ·exact hcn.elim
    ·exact zCK hc hall fuel _ h2 h3.st (h1.trans hd) h4 fun e b v hp=>hQ e b v (hp.next h3)
   ·cases hgn
  have hcg:=hc.get i f o g ho hg;obtain⟨hk,hdst,hgd⟩:=yP hcg;have hkd:=zAx hk;rw[show g.erase.op.dst=g.op.dst from zGv _]at hkd;unfold wpOpIn;simp only[ho];have exec:eff P env σ r σ1 g.op→o.wpIn (Wr ro) 0 P a w (wpAnyIn (Wr ro) 0 P .any ops Qc fuel (listed.setIfInBounds i true)) Qc:=by intro hq;refine zDz (k:=g.op) (Qp:=fun _ _ _=>False) hk hdst he hs (zL6 hq) (fun env' σ' H' L' a' w' h1 h2 h3 h4=>?_) (fun v σ' H' L' w' h1 h2=>h2.elim);obtain⟨h4,h5⟩:=h4;subst h4;subst h5;exact zCK hc hall fuel _ h2 h3.st (h1.trans hd) hK fun e b v hp=>hQ e b v (hp.next h3)
  have skip:r=.lit undef→σ1 = σ→wpAnyIn (Wr ro) 0 P .any ops Qc fuel (listed.setIfInBounds i true) (a.put o.dst undef) w:=by rintro rfl rfl;refine zCK hc hall fuel _ ?_ hs ((qI _ _).trans hd) hK hQ;rw[hkd];exact he.put hdst (by simp[Rel])
  replace hy:=hy.1;unfold zCn at hy;rcases hgd with ⟨hog,hgn⟩ | ⟨j,want,s,hog,hsl,hgn⟩
  ·replace hgn:g.guard=none:=hgn;simp only[hgn]at hy;have hw:Region.wanted o (yielded ops a.tmps)=true:=by simp[Region.wanted,hog]
   rw[if_pos hw];exact exec hy
  ·replace hgn:g.guard=some (s,want):=hgn;simp only[hgn]at hy;have hsN:=zEW hsl hall;obtain⟨w1,w2⟩:=zDh (a:=a) hog hsl (jBu hsN he.1);have hrel:=he.2 s;split at hy
   ·rename_i b hb;rw[hb]at hrel;simp only[Rel]at hrel;rw[w1 b hrel];by_cases hbw:b=want
    ·simp only[hbw,decide_true,if_true];exact exec (hy.1 hbw)
    ·simp only[hbw,decide_false,jAe,if_false];exact⟨fun _ _=>trivial,skip (hy.2 hbw).1 (hy.2 hbw).2⟩
   ·rename_i t ht;rw[ht]at hrel;simp only[Rel]at hrel;rw[w2 t hrel];simp only[jAe,if_false];exact⟨fun _ _=>trivial,skip hy.1 hy.2⟩
   ·exact hy.elim
theorem zRY {ops:Array Oper}{N:Nat}{H:Mem}{L:List LI} {σ : St}{w:World}{env:Env}{a:Act}{ro:Option Nat}{id:Nat}{gs:List KG}{l:List (Nat×Nat×KG)}(hm:P.follows .mixedOrders=true)(hB:zKv ops l=true)(hlo:zDV ops ops.toList gs=true)(hc:zBZ P N ops ops.toList=some gs)(hl:∀x∈l,∃g,gs[x.1]?=some g∧x.2.2.erase=g.erase)
 {Q:Ex→Env→St→Prop}{dfs:List Deferred}{Qc:Exit→Act→World→Prop}(he:zX H L N env a.tmps)(hs:RelSt H L σ w)(hd:a.defers=dfs)
 (h:wpD P (zLf Q) (Q .norm) l env σ)(hQ:∀e b v,zGD H L w N Q dfs e b v→Qc e b v):(Code.region id ops true).wpIn (Wr ro) 0 P Qc a w:=by
 obtain⟨hlen,hget⟩:=zCu hc;have hcm:Comp P N ops l:=⟨fun i f o g ho hg=>by obtain⟨g0,h1,h2⟩:=hl (i,f,g) hg;have h3:=hget i o g0 (by simpa using ho) h1;rw[show g.erase=g0 from h2.trans (zCt h3)];exact h3⟩
 have hf:Fits ops l:=⟨fun i f o g ho hg=>(zGv g.op).symm.trans (zAx (yP (hcm.get i f o g ho hg)).1),fun i f o g ho hg=>by obtain⟨g0,h1,h2⟩:=hl (i,f,g) hg;have h3:=hget i o g0 (by simpa using ho) h1;have h4:=zGb hlo i o g0 (by simpa using ho) h1;rw[←zJm,show g.erase=g0 from h2.trans (zCt h3)];exact h4⟩
 have hall:∀o∈ops.toList,∀x,o.dst=some x→x<N:=by
  intro o ho;obtain⟨i,hi⟩:=jCm ho;have hlt:i<gs.length:=by rw[hlen]; exact(jA1.1 hi).1
  exact(yP (hget i o _ hi (jA2 hlt))).2.1
 simp only[zKv,jA4,beq_iff_eq]at hB;obtain⟨⟨hB,hsz⟩,_⟩:=hB;refine wpIn_region_any hm ?_;have hs':RelSt H L σ {w with drawn:=w.drawn+1}:=hs.heap_eq rfl;have hlex:=zDG hf l (Array.replicate ops.size false) env σ (fun _ hx=>hx) hB h;rw[hsz]at hlex;have hn:Nxt H L w H L σ {w with drawn:=w.drawn+1}:=⟨hs',⟨rfl,rfl,rfl,jA _,fun _ _ _=>rfl,HLe.refl _,fun _ _ _ h=>.inl h,jC9 _,fun _ _ h=>h⟩,LLe.refl _,fun _ h=>.inl h⟩;refine zCK hcm hall _ _ he hs' hd hlex fun e b v hp=>hQ e b v ?_
 exact hp.next hn
theorem zPM {N:Nat}{hint:Nat→Option (List (Nat×Nat))}{H:Mem}{L:List LI} {σ : St}{w:World}{env:Env}{a:Act}{id:Nat}{ops:Array Oper}{l:List (Nat×Nat×KG)}(hc:qF P N hint (.region id ops true)=some (K.dops l).erase)
 (he:zX H L N env a.tmps)(hs:RelSt H L σ w){Q:Ex→Env→St→Prop}(h:wpK P n0 (.dops l) Q env σ){Qc:Exit→Act→World→Prop}(hQ:∀e b v,zGD H L w N Q a.defers e b v→Qc e b v):(Code.region id ops true).wpIn Fence.wide 0 P Qc a w:=by
 simp only[qF,K.erase]at hc;split at hc<;>try (cases hc; done)
 rename_i l' hl;simp only[if_true]at hc;split at hc<;>try (cases hc; done)
 rename_i r hr;split at hc<;>try (cases hc; done)
 rename_i hb;simp only[jA4]at hb;simp only[jA0,K.dops.injEq]at hc;subst hc;simp only[wpK]at h;have hmem:∀x∈r,∃g,l'[x.1]?=some g∧x.2.2.erase=g.erase:=fun x hx=>by
  split at hr
  ·exact zIQ hr hx
  ·cases hr; exact⟨_,zJr hx,rfl⟩
 exact zRY (ro:=none) (Q:=Q) (dfs:=a.defers) hb.1.2 hb.1.1 hb.2 hl hmem he hs rfl h hQ
theorem zIj {N:Nat}{hint:Nat→Option (List (Nat×Nat))}{H:Mem}{L:List LI} {σ : St}{w:World}{env:Env}{a:Act}{id:Nat}{ops:Array Oper}{l:List KG}{rest:Code}(hc:qF P N hint (.region id ops false)=some (K.ops l).erase)
 (he:zX H L N env a.tmps)(hs:RelSt H L σ w){Q:Ex→Env→St→Prop}(h:wpK P n0 (.ops l) Q env σ){Qc:Exit→Act→World→Prop}
 (hQ:∀env' τ H' L' w' a',a'.defers=a.defers→zX H' L' N env' a'.tmps→Nxt H L w H' L' τ w'→Q .norm env' τ→rest.wpIn Fence.wide 0 P Qc a' w')
 (hX:∀x env' τ H' L' w' a',x≠.norm→a'.defers=a.defers→zX H' L' N env' a'.tmps→Nxt H L w H' L' τ w'→Q x env' τ→Qc x.exit? a' w'):(Code.seq (.region id ops false) rest).wpIn Fence.wide 0 P Qc a w:=by
 refine wpIn_seq (zLm hc he hs h fun e b v hp=>?_);obtain⟨x,env',τ,H',L',rfl,g2,g3,g4,g5⟩:=hp;cases x with
 | norm=>exact hQ env' τ H' L' v b g2 g3 g4 g5
 | exit i=>exact hX _ env' τ H' L' v b (by simp) g2 g3 g4 g5
 | ret=>exact hX _ env' τ H' L' v b (by simp) g2 g3 g4 g5
 | pan v'=>exact hX _ env' τ H' L' v b (by simp) g2 g3 g4 g5
theorem zWP {N:Nat}{hint:Nat→Option (List (Nat×Nat))}{H:Mem}{L:List LI} {σ : St}{w:World}{env:Env}{a:Act}{id:Nat}{ops:Array Oper}{l:List (Nat×Nat×KG)}{rest:Code}(hc:qF P N hint (.region id ops true)=some (K.dops l).erase)
 (he:zX H L N env a.tmps)(hs:RelSt H L σ w){Q:Ex→Env→St→Prop}(h:wpK P n0 (.dops l) Q env σ){Qc:Exit→Act→World→Prop}
 (hQ:∀env' τ H' L' w' a',a'.defers=a.defers→zX H' L' N env' a'.tmps→Nxt H L w H' L' τ w'→Q .norm env' τ→rest.wpIn Fence.wide 0 P Qc a' w')
 (hX:∀x env' τ H' L' w' a',x≠.norm→a'.defers=a.defers→zX H' L' N env' a'.tmps→Nxt H L w H' L' τ w'→Q x env' τ→Qc x.exit? a' w'):(Code.seq (.region id ops true) rest).wpIn Fence.wide 0 P Qc a w:=by
 refine wpIn_seq (zPM hc he hs h fun e b v hp=>?_);obtain⟨x,env',τ,H',L',rfl,g2,g3,g4,g5⟩:=hp;cases x with
 | norm=>exact hQ env' τ H' L' v b g2 g3 g4 g5
 | exit i=>exact hX _ env' τ H' L' v b (by simp) g2 g3 g4 g5
 | ret=>exact hX _ env' τ H' L' v b (by simp) g2 g3 g4 g5
 | pan v'=>exact hX _ env' τ H' L' v b (by simp) g2 g3 g4 g5
end
end Go.Abs
namespace Go.Proofs.YtdnelmeboihpkaaGreatDoor
open Go.Abs
inductive Val where
 | mk (k n:Int) (kids:List Val)
def Val.k:Val→Int | .mk k _ _=>k
def Val.n:Val→Int | .mk _ n _=>n
def Val.kids:Val→List Val | .mk _ _ l=>l
mutual
def zGF:Val→A
 | .mk _ _ l=>.sl l.length (zJ l)
def zJ:List Val→List A
 | []=>[]
 | v::l=>.lit (.int .i64 v.k)::.lit (.int .i64 v.n)::zGF v::zJ l
end
def zC (v:Val):List A:=[.lit (.int .i64 v.k),.lit (.int .i64 v.n),.sl v.kids.length (zJ v.kids)]
theorem zOA (v:Val):zGF v=.sl v.kids.length (zJ v.kids):=by cases v; simp only[zGF,Val.kids]
@[simp] theorem zKk:zJ []=[]:=by simp only[zJ]
@[simp] theorem zDO (v:Val)(l:List Val):zJ (v::l)=.lit (.int .i64 v.k)::.lit (.int .i64 v.n)::.sl v.kids.length (zJ v.kids)::zJ l:=by simp only[zJ,zOA]
@[simp] theorem zQA:∀l:List Val,(zJ l).length=l.length*3
 | []=>by simp
 | v::l=>by simp[zQA l]; omega
mutual
theorem zOB:∀v:Val,nrm0 (zGF v)=zGF v∧∀rf g,vw rf g (zGF v)=zGF v
 | .mk k n l=>by have h:=zBp l;simp only[zGF];exact⟨by simp[h.1],fun rf g=>by simp[h.2]⟩
theorem zBp:∀l:List Val,qE (zJ l)
 | []=>by simp only[zJ]; exact qE.nil
 | v::l=>by have h:=zOB v;have h':=zBp l;simp only[zJ];exact⟨by simp[h.1,h'.1],fun rf g=>by simp[h.2,h'.2]⟩
end
@[simp] theorem qAB (l:List Val):qU (zJ l)=zJ l:=(zBp l).1
@[simp] theorem qFt {rf g}(l:List Val):vwL rf g (zJ l)=zJ l:=(zBp l).2 _ _
theorem qY:∀{l:List Val} {i:Nat} (h:i<l.length),(zJ l).drop (i*3)=.lit (.int .i64 l[i].k)::.lit (.int .i64 l[i].n)::.sl l[i].kids.length (zJ l[i].kids)::zJ (l.drop (i+1))
 | v::l,0,h=>by simp
 | v::l,i+1,h=>by
  have e:(i+1)*3=i*3+3:=by omega
  rw[e,zDO]
  simpa using qY (l:=l) (i:=i) (by simpa using h)
mutual
def qD:Val→Nat
 | .mk _ _ l=>1+jG l
def jG:List Val→Nat
 | []=>0
 | v::l=>qD v+jG l
end
theorem zE9:∀{l:List Val} {v:Val},v∈l→qD v≤jG l
 | x::l,v,h=>by
  simp only[jG];rcases jA6.1 h with rfl | h
  ·omega
  ·have:=zE9 h; omega
theorem zAG {v x:Val}(h:x∈v.kids):qD x<qD v:=by
 cases v with
 | mk k n l=>have:=zE9 (l:=l) h; simp only[qD]; omega
def zGm:Val→Int
 | .mk _ _ l=>l.attach.foldl (fun s x=>w64 (s+zGm x.1)) 1
termination_by v=>qD v
decreasing_by
 have:=zE9 x.2;simp only[qD]; omega
def zOc (l:List Val):Int:=l.foldl (fun s x=>w64 (s+zGm x)) 1
theorem zQa (v:Val):zGm v=zOc v.kids:=by
 cases v with
 | mk k n l =>
  rw[zGm];simp only[Val.kids,zOc];rw[List.foldl_attach (f:=fun s x=>w64 (s+zGm x))]
theorem zNd {l:List Val}{i:Nat}(h:i<l.length):zOc (l.take (i+1))=IntKind.i64.wrap (zOc (l.take i)+zGm l[i]):=by rw[zOc,jAh h,jCj];rfl
def zUf (a b:Int):Int:=if a<b then b else a
def zD2:Val→Int
 | .mk _ _ l=>w64 (l.attach.foldl (fun s x=>zUf s (zD2 x.1)) 0+1)
termination_by v=>qD v
decreasing_by
 have:=zE9 x.2;simp only[qD]; omega
def zNH (l:List Val):Int:=l.foldl (fun s x=>zUf s (zD2 x)) 0
theorem zMe (v:Val):zD2 v=w64 (zNH v.kids+1):=by
 cases v with
 | mk k n l =>
  rw[zD2];simp only[Val.kids,zNH];rw[List.foldl_attach (f:=fun s x=>zUf s (zD2 x))]
theorem zMH {l:List Val}{i:Nat}(h:i<l.length):zNH (l.take (i+1))=zUf (zNH (l.take i)) (zD2 l[i]):=by rw[zNH,jAh h,jCj];rfl
@[simp] theorem qOc:zA prog 41=true:=by kernel_rfl
@[simp] theorem qNT:zA prog 42=true:=by kernel_rfl
def qGj:K:=G [kO 2 0,kO 3 1,kMi 4 0] (Z (Z (K.dops [(0,0,D 6 2 0),(1,0,L 7 6 1),(2,0,D 8 3 0),(3,0,L 9 8 1),(4,0,kC 10 80 [(kt 7),(kt 9)]),(5,0,D 11 2 1),(6,0,L 12 11 1),(7,0,D 13 3 1),(8,0,L 14 13 1),(9,0,kC 15 80 [(kt 12),(kt 14)]),(10,0,D 16 2 2),(11,0,L 17 16 1),(12,0,kN 18 17),(13,0,D 19 3 2),(14,0,L 20 19 1),(15,0,kN 21 20),(16,0,kC 22 80 [(kt 18),(kt 21)]),(17,0,kd 23 3 1 3 [ki,ki,ki] [(0,1,(kt 10)),(1,1,(kt 15)),(2,1,(kt 22))]),(18,0,kC 24 79 [(kt 23)]),(19,0,M 5 24)]) (G [M 25 5,kQi 26 25 0 true] (Y 26 (G [M 27 5,M 4 27] kr) ks))) (G [D 28 2 2,L 29 28 1,D 30 3 2,L 31 30 1,kC 32 103 [(kt 29),(kt 31),(.func 60)],M 4 32] kr))
theorem qNi:zO prog Tryz.f60.ntmps (Tryz.f60.body.getD .skip)=some qGj.erase:=by kernel_rfl
@[simp] theorem qOy:zA prog 60=true:=by kernel_rfl
def qGi:K:=G [kMi 6 0] (Z (G [M 11 0,kN 12 11,kMi 13 0] (K.block 0 (K.loop (G [kB 14 13 12 .lss] (Z (Y 14 ks (K.exit 0)) (Z (K.block 1 (G [M 15 13,kX 16 11 13 3,J 17 16 3,kZ 8 [ki,ki,kl],M 7 15,S 8 17 3] (Z (G [M 18 7,M 19 1,kN 20 19,kB 21 18 20 .geq] (Y 21 (G [kMi 6 1] kr) ks)) (G [M 22 1,M 23 7,kX 24 22 23 3,J 25 24 3,kZ 9 [ki,ki,kl],S 9 25 3] (G [M 26 2,J 27 8 3,J 28 9 3,⟨none,.call (some 29) (kt 26) [(kt 27),(kt 28)]⟩,M 10 29] (G [M 30 10,kQi 31 30 0 true] (Y 31 (G [M 32 10,M 6 32] kr) ks))))))) (K.ops [kBi 33 13 1 .add,M 13 33]))))))) (Z (G [M 34 0,kN 35 34,M 36 1,kN 37 36,kB 38 35 37 .lss] (Y 38 (G [⟨none,.mov (some 6) (kc (-1))⟩] kr) ks)) (G [kMi 6 0] kr)))
theorem qNh:zO prog Tryz.f103.ntmps (Tryz.f103.body.getD .skip)=some qGi.erase:=by kernel_rfl
@[simp] theorem qOx:zA prog 103=true:=by kernel_rfl
mutual
def zBX:Val→Val→Int
 | .mk k n l,.mk k' n' l'=>if orI [zAw k k',zAw n n',zAw l.length l'.length]≠0 then orI [zAw k k',zAw n n',zAw l.length l'.length] else zAp l l'
def zAp:List Val→List Val→Int
 | [],[]=>0
 | [],_::_=>-1
 | _::_,[]=>1
 | a::l,b::l'=>if zBX a b≠0 then zBX a b else zAp l l'
end
def zAY (a b:Val):Int:=orI [zAw a.k b.k,zAw a.n b.n,zAw a.kids.length b.kids.length]
theorem zB6 (a b:Val):zBX a b=if zAY a b≠0 then zAY a b else zAp a.kids b.kids:=by cases a; cases b; rw[zBX]; rfl
theorem zKq (xs ys:List Val)(h:∀a∈xs,∀b∈ys,Ret prog 60 [.agg (zC a),.agg (zC b)] [] (int (zBX a b)) []) :
 Ret prog 103 [.sl xs.length (zJ xs),.sl ys.length (zJ ys),.clo 60 [] []] [] (int (zAp xs ys)) []:=by
 refine zK Tryz.func103 rfl qNh (rs:=[.slot 6]) (by kernel_rfl) ?_;unfold qGi;simp;intro hl;refine jX (S:=Nat) (fun i=>[(0,.sl xs.length (zJ xs)),(1,.sl ys.length (zJ ys)),(2,.clo 60 [] []),(11,.sl xs.length (zJ xs)),(12,int xs.length),(13,int i)]) (fun s=>[])
  (fun i=>i≤xs.length∧i≤ys.length∧zAp xs ys=zAp (xs.drop i) (ys.drop i)) (fun i=>xs.length-i) 0 (by simp)
  (zP [] 0 (by simp) (by simp) (by simp) (by simp)) ?_
 rintro i ⟨hi,hi',ho⟩;simp;refine qT (fun h1=>?_) (fun h1=>?_)<;>simp at h1
 ·have hd:xs.drop i=xs[i]::xs.drop (i+1):=jAy h1;simp[h1,qY h1];intro hl';refine qT (fun h2=>?_) (fun h2=>?_)<;>simp at h2
  ·simp;have hn:ys.drop i=[]:=jCv h2;exact zB 0 (by rw[ho,hd,hn]; simp[zAp])
  ·have hd':ys.drop i=ys[i]::ys.drop (i+1):=jAy h2;simp[h2,qY h2];refine qK (h xs[i] (jA3 _) ys[i] (jA3 _)) (by simp[zC]) (by simp) ?_;simp;refine qT (fun h3=>?_) (fun h3=>?_)<;>simp at h3
   ·simp;exact zB 0 (by rw[ho,hd,hd']; simp[zAp,h3])
   ·simp;refine zU (i+1) ⟨h1,h2,by rw[ho,hd,hd']; simp[zAp,h3]⟩ (by omega) (zP [] 0 (by simp) (by simp) (by simp) (by simp[qO h1 hl]))
 ·have:i=xs.length:=by omega
  subst this;simp;have hn:xs.drop xs.length=[]:=by simp
  intro _ hl';refine qT (fun h2=>?_) (fun h2=>?_)<;>simp at h2
  ·have hd':ys.drop xs.length=ys[xs.length]::ys.drop (xs.length+1):=jAy h2;simp;exact zB 0 (by rw[ho,hn,hd']; simp[zAp])
  ·have hn':ys.drop xs.length=[]:=jCv h2;simp;exact zB 0 (by rw[ho,hn,hn']; simp[zAp])
theorem zJQ (a b:Val):Ret prog 60 [.agg (zC a),.agg (zC b)] [] (int (zBX a b)) []:=by
 refine zK Tryz.func60 rfl qNi (rs:=[.slot 4]) (by kernel_rfl) ?_;unfold qGj;simp[zC];refine qR (zCe a.k b.k) (by simp) (by simp) ?_;simp;refine qR (zCe a.n b.n) (by simp) (by simp) ?_;simp;refine qR (zCe a.kids.length b.kids.length) (by simp) (by simp) ?_;simp;refine qR (zW9 [zAw a.k b.k,zAw a.n b.n,zAw a.kids.length b.kids.length]) (by simp) (by simp) ?_;simp;refine qT (fun h=>?_) (fun h=>?_)<;>simp at h
 ·simp;exact zB 0 (by rw[zB6]; simp[zAY,h])
 ·simp;refine qK (zKq a.kids b.kids fun x hx y hy=>zJQ x y) (by simp) (by simp) ?_;simp;exact zB 0 (by rw[zB6]; simp[zAY,h])
termination_by qD a
decreasing_by exact zAG hx
theorem zNv {a b:Int}(h:a<b):zAw a b = -1:=by simp[zAw,h]
theorem zNu {a b:Int}(h:b<a):zAw a b=1:=by simp[zAw,h,Int.not_lt.2 (Int.le_of_lt h)]
theorem zNt {a b:Int}(h:b≤a)(h':a≤b):zAw a b=0:=by simp[zAw,Int.not_lt.2 h,Int.not_lt.2 h']
def qGe:K:=G [kO 2 0,kO 3 1,kMi 4 0] (G [D 10 2 0,L 11 10 1,D 12 2 1,L 13 12 1,D 14 2 2,L 15 14 1,kN 16 15,kd 17 3 1 3 [ki,ki,ki] [(0,1,(kt 11)),(1,1,(kt 13)),(2,1,(kt 16))],M 5 17] (G [D 18 3 0,L 19 18 1,D 20 3 1,L 21 20 1,D 22 3 2,L 23 22 1,kN 24 23,kd 25 3 1 3 [ki,ki,ki] [(0,1,(kt 19)),(1,1,(kt 21)),(2,1,(kt 24))],M 6 25] (Z (G [kMi 7 0] (K.block 0 (K.loop (Z (G [M 26 7,kBi 27 26 3 .lss] (Y 27 ks (K.exit 0))) (Z (K.block 1 (Z (Z (K.dops [(0,0,M 30 5),(1,0,M 31 7),(2,0,kX 32 30 31 1),(3,0,L 33 32 1),(4,0,M 34 6),(5,0,M 35 7),(6,0,kX 36 34 35 1),(7,0,L 37 36 1),(8,0,kB 38 33 37 .lss)]) (Y 38 (G [⟨none,.mov (some 4) (kc (-1))⟩] kr) ks)) (Z (K.dops [(0,0,M 39 5),(1,0,M 40 7),(2,0,kX 41 39 40 1),(3,0,L 42 41 1),(4,0,M 43 6),(5,0,M 44 7),(6,0,kX 45 43 44 1),(7,0,L 46 45 1),(8,0,kB 47 42 46 .gtr)]) (Y 47 (G [kMi 4 1] kr) ks)))) (K.ops [M 28 7,kBi 29 28 1 .add,M 7 29])))))) (Z (G [kMi 8 0] (K.block 2 (K.loop (Z (G [M 48 8,D 49 2 2,L 50 49 1,kN 51 50,kB 52 48 51 .lss] (Y 52 ks (K.exit 2))) (Z (K.block 3 (Z (K.dops [(0,0,D 55 2 2),(1,0,L 56 55 1),(2,0,M 57 8),(3,0,kX 58 56 57 3),(4,0,J 59 58 3),(5,0,D 60 3 2),(6,0,L 61 60 1),(7,0,M 62 8),(8,0,kX 63 61 62 3),(9,0,J 64 63 3),(10,0,kC 65 18 [(kt 59),(kt 64)]),(11,0,M 9 65)]) (G [M 66 9,kQi 67 66 0 true] (Y 67 (G [M 68 9,M 4 68] kr) ks)))) (K.ops [M 53 8,kBi 54 53 1 .add,M 8 54])))))) (G [kMi 4 0] kr)))))
theorem qNd:zO prog Tryz.f18.ntmps (Tryz.f18.body.getD .skip)=some qGe.erase:=by kernel_rfl
@[simp] theorem qNS:zA prog 18=true:=by kernel_rfl
theorem zB1 (a b:Val):Ret prog 18 [.agg (zC a),.agg (zC b)] [] (int (zBX a b)) []:=by
 refine zK Tryz.func18 rfl qNd (rs:=[.slot 4]) (by kernel_rfl) ?_;unfold qGe;simp[zC];intro hl hl';refine jX (S:=Nat) (fun i=>[(2,.ptr 0 0),(3,.ptr 1 0),(5,.sl 3 [int a.k,int a.n,int a.kids.length]),(6,.sl 3 [int b.k,int b.n,int b.kids.length]),(7,int i)])
  (fun s=>[.box [int a.k,int a.n,.sl a.kids.length (zJ a.kids)],.box [int b.k,int b.n,.sl b.kids.length (zJ b.kids)]])
  (fun i=>i≤3∧zAY a b=orI (([zAw a.k b.k,zAw a.n b.n,zAw a.kids.length b.kids.length]).drop i)) (fun i=>3-i) 0 (by simp[zAY])
  (zP [0,1] 0 (by simp) (by simp) (by simp) (by simp)) ?_
 rintro i ⟨hi,ho⟩;rcases (by omega:i=0∨i=1∨i=2∨i=3)with rfl | rfl | rfl | rfl
 ·simp;refine qT (fun h1=>?_) (fun h1=>?_)<;>simp at h1
  ·simp;exact zB 0 (by rw[zB6,ho]; simp[orI,zNv h1])
  simp;refine qT (fun h2=>?_) (fun h2=>?_)<;>simp at h2
  ·simp;exact zB 0 (by rw[zB6,ho]; simp[orI,zNu h2])
  simp;exact zU 1 ⟨by omega,by rw[ho]; simp[orI,zNt h1 h2]⟩ (by omega) (zP [0,1] 0 (by simp) (by simp) (by simp) (by simp; rfl))
 ·simp;refine qT (fun h1=>?_) (fun h1=>?_)<;>simp at h1
  ·simp;exact zB 0 (by rw[zB6,ho]; simp[orI,zNv h1])
  simp;refine qT (fun h2=>?_) (fun h2=>?_)<;>simp at h2
  ·simp;exact zB 0 (by rw[zB6,ho]; simp[orI,zNu h2])
  simp;exact zU 2 ⟨by omega,by rw[ho]; simp[orI,zNt h1 h2]⟩ (by omega) (zP [0,1] 0 (by simp) (by simp) (by simp) (by simp; rfl))
 ·simp;refine qT (fun h1=>?_) (fun h1=>?_)<;>simp at h1
  ·simp;exact zB 0 (by rw[zB6,ho]; simp[orI,zNv (Int.ofNat_lt.2 h1)])
  simp;refine qT (fun h2=>?_) (fun h2=>?_)<;>simp at h2
  ·simp;exact zB 0 (by rw[zB6,ho]; simp[orI,zNu (Int.ofNat_lt.2 h2)])
  simp;exact zU 3 ⟨by omega,by rw[ho]; simp[orI,zNt (Int.ofNat_le.2 h1) (Int.ofNat_le.2 h2)]⟩ (by omega) (zP [0,1] 0 (by simp) (by simp) (by simp) (by simp; rfl))
 have hlen:a.kids.length=b.kids.length:=by
  have h0:zAY a b=0:=by rw[ho]; rfl
  simp only[zAY,orI]at h0;split at h0<;>try contradiction
  split at h0<;>try contradiction
  split at h0<;>try contradiction
  rename_i _ _ h;simp only[zAw]at h;split at h
  ·cases h
  ·split at h
   ·cases h
   ·omega
 simp;refine jX (S:=Nat) (fun i=>[(2,.ptr 0 0),(3,.ptr 1 0),(8,int i)])
  (fun s=>[.box [int a.k,int a.n,.sl a.kids.length (zJ a.kids)],.box [int b.k,int b.n,.sl b.kids.length (zJ b.kids)]])
  (fun i=>i≤a.kids.length∧zBX a b=zAp (a.kids.drop i) (b.kids.drop i)) (fun i=>a.kids.length-i) 0 ⟨by omega,by rw[zB6,ho]; simp[orI]⟩
  (zP [0,1] 0 (by simp) (by simp) (by simp) (by simp)) ?_
 rintro i ⟨hi,ho⟩;simp;intro _;refine qT (fun h1=>?_) (fun h1=>?_)<;>simp at h1
 ·have h2:i<b.kids.length:=by omega
  have hd:a.kids.drop i=a.kids[i]::a.kids.drop (i+1):=jAy h1;have hd':b.kids.drop i=b.kids[i]::b.kids.drop (i+1):=jAy h2;simp[h1,h2,qY h1,qY h2];refine qR (zB1 a.kids[i] b.kids[i]) (by simp[zC]) (by simp) ?_;simp;refine qT (fun h3=>?_) (fun h3=>?_)<;>simp at h3
  ·simp;exact zB 0 (by rw[ho,hd,hd']; simp[zAp,h3])
  ·simp;exact zU (i+1) ⟨h1,by rw[ho,hd,hd']; simp[zAp,h3]⟩ (by omega) (zP [0,1] 0 (by simp) (by simp) (by simp) (by simp[qO h1 hl]))
 ·simp;have e1:a.kids.drop i=[]:=jCv h1;have e2:b.kids.drop i=[]:=jCv (by omega);exact zB 0 (by rw[ho,e1,e2]; simp[zAp])
termination_by qD a
decreasing_by exact zAG (jA3 _)
def zUN:K:=G [kO 2 0,kO 3 1,kMb 4 false] (G [D 5 2 0,L 6 5 1,D 7 3 0,L 8 7 1,kQ 9 6 8 false,M 10 9,T 10 true (D 11 2 1),T 10 true (J 12 11 3),T 10 true (D 13 3 1),T 10 true (J 14 13 3),⟨some (10,true),.eqs (some 15) false [.i,.i,.i] (kt 12) (kt 14)⟩,kPf 16 10 15,M 17 16,T 17 true (D 18 2 4),T 17 true (L 19 18 1),T 17 true (D 20 3 4),T 17 true (L 21 20 1),T 17 true (kC 22 140 [(kt 19),(kt 21),(.func 90)]),kPf 23 17 22,M 4 23] kr)
theorem qBx:zO prog Tryz.f90.ntmps (Tryz.f90.body.getD .skip)=some zUN.erase:=by kernel_rfl
@[simp] theorem zVi:zA prog 90=true:=by kernel_rfl
mutual
def zE6:Typ→Typ→Bool
 | .mk k i l,.mk k' i' l'=>decide (k=k')&&(decide (i=i')&&zCY l l')
def zCY:List Typ→List Typ→Bool
 | [],[]=>true
 | x::a,y::b=>zE6 x y&&zCY a b
 | _,_=>false
end
theorem zMX:∀(a b:List Typ),zCY a b=zG8 zE6 a b
 | [],[]=>by simp only[zCY,zG8]
 | x::a,y::b=>by simp only[zCY,zG8,zMX a b]
 | [],_::_=>by simp only[zCY,zG8]
 | _::_,[]=>by simp only[zCY,zG8]
theorem zUx (a b:Typ):zE6 a b=(decide (a.k=b.k)&&(decide (a.id=b.id)&&zG8 zE6 a.kids b.kids)):=by cases a; cases b; simp only[zE6,zMX]; rfl
mutual
theorem zMW:∀(a b:Typ),zE6 a b=true↔a=b
 | .mk k i l,.mk k' i' l'=>by simp only[zE6,jA4,decide_eq_true_eq,zLs l l',Typ.mk.injEq]
theorem zLs:∀(a b:List Typ),zCY a b=true↔a=b
 | [],[]=>by simp[zCY]
 | x::a,y::b=>by simp only[zCY,jA4,zMW x y,zLs a b,jAu]
 | [],_::_=>by simp[zCY]
 | _::_,[]=>by simp[zCY]
end
mutual
theorem zJ7:∀(a b:Typ),Ret prog 90 [.agg (zS a),.agg (zS b)] [] (bl (zE6 a b)) []
 | .mk k i l,b=>by
  have ih:=zIh l;generalize ha:Typ.mk k i l=a;have hal:a.kids=l:=by rw[←ha]; rfl
  rw[←hal]at ih;refine zK Tryz.func90 rfl qBx (rs:=[.slot 4]) (by kernel_rfl) ?_;unfold zUN;have hd:=zUx a b;by_cases h1:a.k=b.k
  ·by_cases h2:a.id=b.id
   ·simp[zS,h1,h2];refine qK (zXX 90 zVi zE6 a.kids b.kids fun x hx y hy=>ih x hx y) (by simp) (by simp) ?_;simp;exact zB 0 (by simp[hd,h1,h2])
   ·have h3:zJ5 a.id.a a.id.b a.id.c b.id.a b.id.b b.id.c=false:=by rw[zDB]; exact decide_eq_false h2
    simp[zS,h1,h3];exact zB 0 (by simp[hd,h2])
  ·simp[zS,h1];exact zB 0 (by simp[hd,h1])
theorem zIh:∀(l:List Typ),∀x∈l,∀y:Typ,Ret prog 90 [.agg (zS x),.agg (zS y)] [] (bl (zE6 x y)) []
 | [],x,hx,_=>by simp at hx
 | z::l,x,hx,y=>by
  rcases jA6.1 hx with e | hx
  ·rw[e]; exact zJ7 z y
  ·exact zIh l x hx y
end
def zQ1 (k:Int):Bool:=decide (k=2)||(decide (k=3)||(decide (k=4)||decide (k=5)))
@[simp] theorem qNR:zA prog 206=true:=by kernel_rfl
def zBE (n:Int):Int:=if 1099511627776<n then 1099511627776 else if n < -1099511627776 then -1099511627776 else n
@[simp] theorem qOd:zA prog 205=true:=by kernel_rfl
def zBN (b:Bool):Val:=.mk 1 (if b then 1 else 0) []
structure EVar where
 id:Id
 n:Int
 v:Val
def zDR (b:EVar):List A:=[.lit (.int .i64 b.id.a),.lit (.int .i64 b.id.b),.lit (.int .i64 b.id.c),.lit (.int .i64 b.n),.lit (.int .i64 b.v.k),.lit (.int .i64 b.v.n),.sl b.v.kids.length (zJ b.v.kids)]
theorem zFM (b:EVar):qE (zDR b):=by have h:=zBp b.v.kids;exact⟨by simp[zDR,h.1],fun rf g=>by simp[zDR,h.2]⟩
def zDd (l:List EVar):List A:=l.flatMap zDR
theorem zGI (l:List EVar):qE (zDd l):=zAU zFM l
@[simp] theorem zYA (l:List EVar):qU (zDd l)=zDd l:=(zGI l).1
@[simp] theorem qD0 {rf g}(l:List EVar):vwL rf g (zDd l)=zDd l:=(zGI l).2 _ _
@[simp] theorem qAf:zDd []=[]:=rfl
@[simp] theorem qAe (l:List EVar):(zDd l).length=l.length*7:=by rw[zDd,zBG (k:=7) (fun _=>rfl)]
@[simp] theorem qEh (d:EVar):(zDR d).length=7:=rfl
@[simp] theorem qEg (d:EVar):(zDR d).take 7=zDR d:=jAm (jA _)
@[simp] theorem qBU (d:EVar)(l:List A):(zDR d++l).take 7=zDR d:=by rw[jC (by simp)]; exact jAm (by simp)
@[simp] theorem qCC (d:EVar):qU (zDR d)=zDR d:=(zFM d).1
@[simp] theorem qJY (d:EVar) {rf g}:vwL rf g (zDR d)=zDR d:=(zFM d).2 _ _
@[simp] theorem qOi:zA prog 170=true:=by kernel_rfl
def zEu (env:List EVar)(id:Id)(n:Int):Val:=((env.reverse.find? fun b=>decide (b.id=id∧b.n=n)).map EVar.v).getD (.mk 0 0 [])
theorem zK6 (env:List EVar)(b:EVar)(id:Id)(n:Int):zEu (env++[b]) id n=if b.id=id∧b.n=n then b.v else zEu env id n:=by unfold zEu;rw[List.reverse_append,List.reverse_singleton,jD0,jD7];by_cases h:b.id=id∧b.n=n<;>simp[h]
@[simp] theorem qNW:zA prog 198=true:=by kernel_rfl
def qGm:K:=G [kO 1 0,kMi 2 0] (G [kMi 3 1] (Z (G [D 6 1 2,L 7 6 1,kN 8 7,kMi 9 0] (K.block 0 (K.loop (G [kB 10 9 8 .lss] (Z (Y 10 ks (K.exit 0)) (Z (K.block 1 (G [kX 11 7 9 3,J 12 11 3,kZ 5 [ki,ki,kl],S 5 12 3] (K.ops [M 13 3,J 14 5 3,kC 15 151 [(kt 14)],kB 16 13 15 .add,M 3 16]))) (K.ops [kBi 17 9 1 .add,M 9 17]))))))) (G [M 18 3,M 2 18] kr)))
theorem qNl:zO prog Tryz.f151.ntmps (Tryz.f151.body.getD .skip)=some qGm.erase:=by kernel_rfl
@[simp] theorem qO3:zA prog 151=true:=by kernel_rfl
theorem zNZ (v:Val):Ret prog 151 [.agg (zC v)] [] (int (zGm v)) []:=by
 refine zK Tryz.func151 rfl qNl (rs:=[.slot 2]) (by kernel_rfl) ?_;unfold qGm;simp[zC];intro hl;refine jX (S:=Nat) (fun i=>[(3,int (zOc (v.kids.take i))),(7,.sl v.kids.length (zJ v.kids)),(8,int v.kids.length),(9,int i)]) (fun s=>[]) (fun i=>i≤v.kids.length) (fun i=>v.kids.length-i) 0 (by simp)
  (zP [] 0 (by simp) (by simp) (by simp) (by simp[zOc])) ?_
 intro i hi;simp;by_cases h:i<v.kids.length
 ·simp[h,qY h];refine qK (zNZ v.kids[i]) (by simp[zC]) (by simp) ?_;simp;exact zU (i+1) h (by omega) (zP [] 0 (by simp) (by simp) (by simp) (by simp[qO h hl,zNd h]))
 ·have:i=v.kids.length:=by omega
  subst this;simp;exact zB 0 (by simp[zQa v])
termination_by qD v
decreasing_by exact zAG (jA3 _)
def qGl:K:=G [kO 1 0,kMb 2 false] (G [kZ 3 [ki],⟨none,.st none (kt 3) (kc 256) 1⟩] (G [kZ 4 [.nilFunc]] (G [⟨none,.clo (some 5) 111 [] [(kt 3),(kt 4)]⟩,S 4 5 1] (G [L 6 4 1,J 7 1 3,⟨none,.call (some 8) (kt 6) [(kt 7),(kc 1)]⟩,M 2 8] kr))))
theorem qNk:zO prog Tryz.f73.ntmps (Tryz.f73.body.getD .skip)=some qGl.erase:=by kernel_rfl
@[simp] theorem qO2:zA prog 73=true:=by kernel_rfl
def zZG:K:=G [kO 4 0,kO 5 1,kMb 6 false] (G [L 7 2 1,kBi 8 7 1 .sub,S 2 8 1] (G [L 9 2 1,kBi 10 9 0 .geq,M 11 10,T 11 true (L 12 5 1),T 11 true (kBi 13 12 24 .leq),kPf 14 11 13,M 15 14,T 15 true (D 16 4 2),T 15 true (L 17 16 1),⟨some (15,true),.clo (some 18) 113 [] [(kt 3),(kt 5)]⟩,T 15 true (kC 19 112 [(kt 17),(kt 18)]),T 15 true (kR 20 19),kPf 21 15 20,M 6 21] kr))
theorem qHt:zO prog Tryz.f111.ntmps (Tryz.f111.body.getD .skip)=some zZG.erase:=by kernel_rfl
@[simp] theorem qKZ:zA prog 111=true:=by kernel_rfl
def qBd:K:=G [kMb 4 false] (G [M 5 0,M 6 1,kC 7 153 [(kt 5),(kt 6)],kBi 8 7 0 .geq,M 4 8] kr)
theorem qHn:zO prog Tryz.f112.ntmps (Tryz.f112.body.getD .skip)=some qBd.erase:=by kernel_rfl
@[simp] theorem qOz:zA prog 112=true:=by kernel_rfl
def zZH:K:=G [kO 3 0,kMb 4 false] (G [L 5 1 1,J 6 3 3,L 7 2 1,kBi 8 7 1 .add,⟨none,.call (some 9) (kt 5) [(kt 6),(kt 8)]⟩,kR 10 9,M 4 10] kr)
theorem qHu:zO prog Tryz.f113.ntmps (Tryz.f113.body.getD .skip)=some zZH.erase:=by kernel_rfl
@[simp] theorem qLa:zA prog 113=true:=by kernel_rfl
def qBe:K:=G [kMi 4 0] (Z (G [M 6 0,kN 7 6,kMi 8 0] (K.block 0 (K.loop (G [kB 9 8 7 .lss] (Z (Y 9 ks (K.exit 0)) (Z (K.block 1 (G [M 10 8,M 5 10] (G [M 11 1,M 12 0,M 13 5,kX 14 12 13 3,J 15 14 3,⟨none,.call (some 16) (kt 11) [(kt 15)]⟩] (Y 16 (G [M 17 5,M 4 17] kr) ks)))) (K.ops [kBi 18 8 1 .add,M 8 18]))))))) (G [⟨none,.mov (some 4) (kc (-1))⟩] kr))
theorem qHs:zO prog Tryz.f153.ntmps (Tryz.f153.body.getD .skip)=some qBe.erase:=by kernel_rfl
@[simp] theorem qO1:zA prog 153=true:=by kernel_rfl
mutual
def zAs:Val→Nat
 | .mk _ _ l=>yT l+1
def yT:List Val→Nat
 | []=>0
 | v::l=>max (zAs v) (yT l)
end
theorem zCl (v:Val):zAs v=yT v.kids+1:=by cases v; simp only[zAs,Val.kids]
theorem zC3 (v:Val):qD v=1+jG v.kids:=by cases v; simp only[qD,Val.kids]
theorem zJj:∀{l:List Val} {v:Val},v∈l→zAs v≤yT l
 | x::l,v,h=>by
  simp only[yT];rcases jA6.1 h with rfl | h
  ·omega
  ·have:=zJj h; omega
theorem zCc:∀(a b:List Val),jG (a++b)=jG a+jG b
 | [],b=>by simp[jG]
 | x::a,b=>by simp[jG,zCc a b]; omega
theorem zJ9 {l:List Val}{i:Nat}(h:i<l.length):jG (l.take (i+1))=jG (l.take i)+qD l[i]:=by rw[jAh h,zCc]; simp[jG]
theorem zIl (l:List Val)(i:Nat):jG l=jG (l.take i)+jG (l.drop i):=by
 conv=>lhs; rw[←jCd i l]
 exact zCc _ _
def zBA:A:=.clo 111 [] [.ptr 0 0,.ptr 1 0]
def sSt (L:Nat):St:=[.box [int L],.box [zBA]]
def zE5 (L:Nat)(d:Int):St:=[.box [int L],.box [zBA],.box [int d]]
def zJN (v:Val)(d:Int):Prop:=∀L:Nat,qD v≤L→L≤256→Ret prog 111 [.agg (zC v),int d,.ptr 0 0,.ptr 1 0] (sSt L) (bl true) (sSt (L-qD v))
theorem zU1 (v:Val)(d:Int)(hd:0≤d∧d≤100)(h:zJN v (d+1))(L:Nat)(hL:qD v≤L)(hL2:L≤256) :
 Ret prog 113 [.agg (zC v),.ptr 1 0,.ptr 2 0] (zE5 L d) (bl false) (zE5 (L-qD v) d):=by
 refine zK Tryz.func113 rfl qHu (rs:=[.slot 4]) (by kernel_rfl) ?_;unfold zZH;have hw:=jT (d+1) (by omega);simp[zE5,zBA,hw,zC];refine jN (h L hL hL2) [0,1] (by simp) (by simp[sSt,zBA]) (by simp[zC]) ?_;simp[sSt,zBA];exact zI [0,1,2] 0 (by decide) (by simp) (by simp[zBA]) (by simp)
theorem zYr (l:List Val)(d:Int)(hd:0≤d∧d≤100)(h:∀x∈l,zJN x (d+1))(L:Nat)(hL:jG l≤L)(hL2:L≤256) :
 Ret prog 153 [.sl l.length (zJ l),.clo 113 [] [.ptr 1 0,.ptr 2 0]] (zE5 L d) (int (-1)) (zE5 (L-jG l) d):=by
 refine zK Tryz.func153 rfl qHs (rs:=[.slot 4]) (by kernel_rfl) ?_;unfold qBe;simp[zE5,zBA];intro hl;refine jX (S:=Nat) (fun i=>[(0,.sl l.length (zJ l)),(1,.clo 113 [] [.ptr 1 0,.ptr 2 0]),(6,.sl l.length (zJ l)),(7,int l.length),(8,int i)]) (fun i=>zE5 (L-jG (l.take i)) d) (fun i=>i≤l.length) (fun i=>l.length-i) 0 (by simp)
  (zP [0,1,2] 0 (by decide) (by simp) (by simp[zE5,zBA,jG]) (by simp)) ?_
 intro i hi;by_cases hil:i<l.length
 ·have e1:=zJ9 hil;have e2:=zIl l (i+1);simp[hil,qY hil,zE5,zBA];refine jN (zU1 l[i] d hd (h _ (jA3 hil)) (L-jG (l.take i)) (by omega) (by omega)) [0,1,2] (by simp) (by simp[zE5,zBA]) (by simp[zC]) ?_;simp[zE5,zBA];exact zU (i+1) hil (by omega) (zP [0,1,2] 0 (by decide) (by simp) (by simp[zE5,zBA,e1,Nat.sub_sub]) (by simp[qO hil hl]))
 ·have:i=l.length:=by omega
  subst this;simp[zE5,zBA];exact zI [0,1,2] 0 (by decide) (by simp) (by simp[zBA]) (by simp)
theorem zXH (l:List Val)(d:Int)(hd:0≤d∧d≤100)(h:∀x∈l,zJN x (d+1))(L:Nat)(hL:jG l≤L)(hL2:L≤256) :
 Ret prog 112 [.sl l.length (zJ l),.clo 113 [] [.ptr 1 0,.ptr 2 0]] (zE5 L d) (bl false) (zE5 (L-jG l) d):=by
 refine zK Tryz.func112 rfl qHn (rs:=[.slot 4]) (by kernel_rfl) ?_;unfold qBd;simp[zE5,zBA];refine jN (zYr l d hd h L hL hL2) [0,1,2] (by simp) (by simp[zE5,zBA]) (by simp) ?_;simp[zE5,zBA];exact zI [0,1,2] 0 (by decide) (by simp) (by simp[zBA]) (by simp)
theorem zLw (v:Val)(d:Int)(hd:1≤d∧d+zAs v≤25):zJN v d:=by
 intro L hL hL2;refine zK Tryz.func111 rfl qHt (rs:=[.slot 6]) (by kernel_rfl) ?_;unfold zZG;have e1:=zC3 v;have e2:=zCl v;have hw:IntKind.i64.wrap ((L:Int)-1)=((L-1:Nat):Int):=by rw[IntWalk.i64_in _ (by omega)]; omega
 have hd24:d≤24:=by omega
 simp[sSt,zBA,hw,hd24,zC];refine jN (zXH v.kids d (by omega) (fun x hx=>zLw x (d+1) (by have:=zJj hx; omega)) (L-1) (by omega) (by omega)) [0,1,3] (by simp) (by simp[zE5,zBA]) (by simp) ?_;simp[zE5,zBA];exact zI [0,1] 0 (by decide) (by simp) (by simp[zBA,e1,Nat.sub_sub]) (by simp)
termination_by qD v
decreasing_by exact zAG hx
theorem zWX (v:Val)(h1:qD v≤256)(h2:zAs v≤24):Ret prog 73 [.agg (zC v)] [] (bl true) []:=by refine zK Tryz.func73 rfl qNk (rs:=[.slot 2]) (by kernel_rfl) ?_;unfold qGl;simp[zC];refine jN (zLw v 1 (by omega) 256 h1 (by omega)) [1,2] (by simp) (by simp[sSt,zBA]) (by simp[zC]) ?_;simp[sSt,zBA];exact zB 0 (by simp)
def zP4 (l:List Id):List (List Int×A):=l.foldl (fun es d=>putI (zHm d) (.lit (.bool true)) es) []
theorem zUe (l:List Id)(x:Id):zP4 (l++[x])=putI (zHm x) (.lit (.bool true)) (zP4 l):=by simp[zP4,jCj]
theorem zWy (l:List Id)(k:Nat):∀p∈zP4 l,p.2.bnd k=true:=by
 induction l using zG6 with
 | nil=>simp[zP4]
 | snoc l y ih =>
  rw[zUe];have:∀es:List (List Int×A),(∀p∈es,p.2.bnd k=true)→∀p∈putI (zHm y) (.lit (.bool true)) es,p.2.bnd k=true:=by
   intro es;induction es with
   | nil=>intro _ p hp; simp[putI]at hp; subst hp; rfl
   | cons q es ih =>
    intro h p hp;simp only[putI]at hp;split at hp
    ·rcases jA6.1 hp with rfl | hp
     ·rfl
     ·exact h p (jAf _ hp)
    ·rcases jA6.1 hp with rfl | hp
     ·exact h _ (jAk ..)
     ·exact ih (fun p hp=>h p (jAf _ hp)) p hp
  exact this _ ih
@[simp] theorem qL9 {rf:Bool→Nat→Nat→A}{g:Nat→Option Nat}(l:List Id):((zP4 l).map fun p=>(p.1,vw rf g p.2))=zP4 l:=by
 have h:=zWy l 0;generalize zP4 l=es at h;induction es with
 | nil=>rfl
 | cons p es ih =>
  rw[jA9,ih fun q hq=>h q (jAf _ hq),zL1 (k:=0) (fun l hl=>by omega) p.2 (h p (jAk ..))]
def KAt:K:=G [kMi 6 0] (Z (G [M 7 1,kBi 8 7 0 .lss,M 9 8,T 9 false (M 10 1),T 9 false (M 11 0),T 9 false (kN 12 11),T 9 false (kB 13 10 12 .geq),kPt 14 9 13] (Y 14 (G [kMi 6 0] kr) ks)) (G [M 15 0,M 16 1,kX 17 15 16 1,L 18 17 1,M 19 2,kC 20 12 [(kt 18),(kt 19)],M 6 20] kr))
theorem cAt:zO prog Tryz.f38.ntmps (Tryz.f38.body.getD .skip)=some KAt.erase:=by kernel_rfl
@[simp] theorem qP1:zA prog 38=true:=by kernel_rfl
@[simp] theorem qNX:zA prog 83=true:=by kernel_rfl
def KOf:K:=G [kO 1 0,kZ 2 kz2] (G [J 3 1 3,kb 4 kz2 [(0,1,(kc 3)),(1,3,(kt 3))],S 2 4 5] kr)
theorem cOf:zO prog Tryz.f62.ntmps (Tryz.f62.body.getD .skip)=some KOf.erase:=by kernel_rfl
@[simp] theorem qP2:zA prog 62=true:=by kernel_rfl
@[simp] theorem qKE:zA prog 126=true:=by kernel_rfl
@[simp] theorem qDU:zA prog 39=true:=by kernel_rfl
@[simp] theorem qNM:zA prog 128=true:=by kernel_rfl
@[simp] theorem qKH:zA prog 132=true:=by kernel_rfl
@[simp] theorem qKF:zA prog 133=true:=by kernel_rfl
@[simp] theorem qO6:zA prog 168=true:=by kernel_rfl
@[simp] theorem qNN:zA prog 167=true:=by kernel_rfl
@[simp] theorem qLb:zA prog 130=true:=by kernel_rfl
@[simp] theorem qBz:zA prog 129=true:=by kernel_rfl
@[simp] theorem qH5:zA prog 134=true:=by kernel_rfl
def atV (l:List Int)(i most:Int):Int:=if i<0∨(l.length:Int)≤i then 0 else zAz (l.getD i.toNat 0) most
theorem qGy (l:List Int)(i most:Int)(hm:0<most):Ret prog 38 [.sl l.length (zBe l),int i,int most] [] (int (atV l i most)) []:=by
 refine zK Tryz.func38 rfl cAt (rs:=[.slot 6]) (by kernel_rfl) ?_;unfold KAt;by_cases h:i<0
 ·simp[h];exact zB 0 (by simp[atV,h])
 by_cases h2:(l.length:Int)≤i
 ·simp[h,h2];exact fun _=>zB 0 (by simp[atV,h2])
 ·obtain⟨j,rfl⟩:∃j:Nat,i=j:=⟨i.toNat,by omega⟩;have hj:j<l.length:=by omega
  have hd:=zGz hj;simp[h,h2,hj,hd];intro _;refine qK (zDp l[j] most hm) (by simp) (by simp) ?_;simp;exact zB 0 (by simp[atV,hj,h,show ¬l.length≤j by omega])
theorem zBY {l:List Int}{i most:Int}(hl:∀x∈l,w64 x=x)(hm:0<most):0≤atV l i most∧atV l i most<most:=by
 unfold atV;split
 ·omega
 ·rename_i h;have hj:i.toNat<l.length:=by omega
  rw[jBm,jA2 hj];exact zBP (hl _ (jA3 hj)) hm
def idR (k:Int):Id:=⟨0,IntKind.i64.wrap (1+IntKind.i64.wrap (k.tdiv 32)),k.tmod 32⟩
theorem qAF (d:Id):Ret prog 62 [.agg (zF d)] [] (.agg (zS (.mk 3 d []))) []:=by refine zK Tryz.func62 rfl cOf (rs:=[.cell 2 5 true]) (by kernel_rfl) ?_;unfold KOf;simp[zF];exact zB 0 (by simp[zS])
structure Mk where
 mods:List Md
 defs:List Dfn
 l:List Int
 at_:Int
 temp:Int
 left:Int
 own:Int
 home:Id
 name:Int
def mkB (m:Mk):List A:=[.sl m.mods.length (jI m.mods),.row 1 m.defs.length,.sl m.l.length (zBe m.l),int m.at_,int m.temp,int m.left,int m.own,int m.home.a,int m.home.b,int m.home.c,int m.name]
def mkS (m:Mk):St:=[.box (mkB m),.row false 41 31 m.defs.length (qM m.defs)]
def scA:List EVar→A
 | []=>.lit (.pointer none)
 | b::l=>.rptr (zDR b++[scA l])
@[simp] theorem qLR:scA []=.lit (.pointer none):=rfl
theorem zGl (b:EVar)(l:List EVar):scA (b::l)=.rptr [.lit (.int .i64 b.id.a),.lit (.int .i64 b.id.b),.lit (.int .i64 b.id.c),.lit (.int .i64 b.n),.lit (.int .i64 b.v.k),.lit (.int .i64 b.v.n),.sl b.v.kids.length (zJ b.v.kids),scA l]:=rfl
@[simp] theorem zW5:∀l:List EVar,nrm0 (scA l)=scA l
 | []=>rfl
 | b::l=>by simp[zGl,zW5 l]
@[simp] theorem qD1 {rf:Bool→Nat→Nat→A}{g:Nat→Option Nat}:∀l:List EVar,vw rf g (scA l)=scA l
 | []=>rfl
 | b::l=>by simp[zGl,qD1 l]
@[simp] theorem qAa (l:List EVar):cellsOf (scA l)=some [scA l]:=by cases l<;>rfl
abbrev scE (V:List EVar):A:=scA V.reverse
@[simp] theorem qLS:scE []=.lit (.pointer none):=rfl
@[simp] theorem qJ5 (V:List EVar)(b:EVar):scE (V++[b])=scA (b::V.reverse):=by simp[scE]
@[simp] theorem qEU (V:List EVar)(a b:EVar):scE (V++[a,b])=scA (b::a::V.reverse):=by simp[scE]
def zJp (l:List EVar)(id:Id)(n:Int):Val:=((l.find? fun b=>decide (b.id=id∧b.n=n)).map EVar.v).getD (.mk 0 0 [])
theorem zQN (b:EVar)(l:List EVar)(id:Id)(n:Int):zJp (b::l) id n=if b.id=id∧b.n=n then b.v else zJp l id n:=by unfold zJp;rw[jD7];by_cases h:b.id=id∧b.n=n<;>simp[h]
def zWN (a b c n a' b' c' n':Int):Bool:=decide (Id.mk a b c=Id.mk a' b' c'∧n=n')
@[simp] theorem qJ4 {x y:Id}{n m:Int}:zWN x.a x.b x.c n y.a y.b y.c m=decide (x=y∧n=m):=rfl
@[simp] theorem qHV {a b c n a' b' c' n':Int}:zNz [.i,.i,.i,.i] false (.agg [.lit (.int .i64 a),.lit (.int .i64 b),.lit (.int .i64 c),.lit (.int .i64 n)]) (.agg [.lit (.int .i64 a'),.lit (.int .i64 b'),.lit (.int .i64 c'),.lit (.int .i64 n')]) =
 some (.lit (.bool (zWN a b c n a' b' c' n'))):=by simp[zNz,yU,zBF,zAR,and_assoc,zWN]
def qFT:K:=G [kO 3 1,kZ 4 [ki,ki,kl]] (Z (K.block 0 (K.loop (Z (G [M 5 0,⟨none,.isp (some 6) true (kt 5)⟩] (Y 6 ks (K.exit 0))) (Z (K.block 1 (Z (K.dops [(0,0,M 11 0),(1,0,kU 12 11),(2,0,D 13 12 0),(3,0,J 14 13 4),(4,0,J 15 3 4),(5,0,⟨none,.eqs (some 16) false [.i,.i,.i,.i] (kt 14) (kt 15)⟩)]) (Y 16 (G [M 17 0,kU 18 17,D 19 18 4,J 20 19 3,S 4 20 3] kr) ks))) (K.ops [M 7 0,kU 8 7,D 9 8 7,L 10 9 1,M 0 10]))))) (G [kb 21 [ki,ki,kl] [],S 4 21 3] kr))
theorem qMS:zO prog Tryz.f175.ntmps (Tryz.f175.body.getD .skip)=some qFT.erase:=by kernel_rfl
@[simp] theorem qN4:zA prog 175=true:=by kernel_rfl
theorem zVB (l:List EVar)(id:Id)(n:Int):Ret prog 175 [scA l,.agg [int id.a,int id.b,int id.c,int n]] [] (.agg (zC (zJp l id n))) []:=by
 refine zK Tryz.func175 rfl qMS (rs:=[.cell 4 3 true]) (by kernel_rfl) ?_;unfold qFT;simp;refine jX (S:=List EVar) (fun s=>[(0,scA s),(3,.ptr 0 0),(4,.ptr 1 0)]) (fun _=>[.box [int id.a,int id.b,int id.c,int n],.box [int 0,int 0,.nil]])
  (fun s=>zJp l id n=zJp s id n) (fun s=>s.length) l rfl (zP [0,1] 0 (by decide) (by simp) (by simp) (by simp)) ?_
 intro s hs;cases s with
 | nil =>
  simp;exact zB 0 (by rw[hs]; simp[zJp,zC,Val.k,Val.n,Val.kids])
 | cons b s =>
  rw[zQN]at hs;by_cases h:b.id=id∧b.n=n
  ·rw[if_pos h]at hs;obtain⟨rfl,rfl⟩:=h;simp[zGl];exact zB 0 (by rw[hs]; simp[zC])
  ·rw[if_neg h]at hs;have hd:decide (b.id=id∧b.n=n)=false:=by simpa using h
   simp[zGl,hd,-Bool.decide_and];exact zU s hs (by simp) (zP [0,1] 0 (by decide) (by simp) (by simp) (by simp))
def qGa:K:=G [kO 5 1,kO 7 3,⟨none,.mov (some 8) (.const (.pointer none))⟩] (G [J 9 5 3,M 10 2,kb 11 qI3 [(0,3,(kt 9)),(3,1,(kt 10))],J 12 7 3,M 13 0,kb 14 [ki,ki,ki,ki,ki,ki,kl,(.pointer none)] [(0,4,(kt 11)),(4,3,(kt 12)),(7,1,(kt 13))],kO 15 14,M 8 15] kr)
theorem qMZ:zO prog Tryz.f109.ntmps (Tryz.f109.body.getD .skip)=some qGa.erase:=by kernel_rfl
@[simp] theorem qNC:zA prog 109=true:=by kernel_rfl
theorem zCw (l:List EVar)(b:EVar):Ret prog 109 [scA l,.agg (zF b.id),int b.n,.agg (zC b.v)] [] (scA (b::l)) []:=by refine zK Tryz.func109 rfl qMZ (rs:=[.slot 8]) (by kernel_rfl) ?_;unfold qGa;simp[zF,zC];exact zB 1 (by simp[zGl])
def qFR:K:=G [kO 1 0,kMi 2 0] (G [kMi 3 0] (Z (G [D 6 1 2,L 7 6 1,kN 8 7,kMi 9 0] (K.block 0 (K.loop (G [kB 10 9 8 .lss] (Z (Y 10 ks (K.exit 0)) (Z (K.block 1 (G [kX 11 7 9 3,J 12 11 3,kZ 5 [ki,ki,kl],S 5 12 3] (K.ops [M 13 3,J 14 5 3,kC 15 152 [(kt 14)],⟨none,.mm (some 16) true [(kt 13),(kt 15)]⟩,M 3 16]))) (K.ops [kBi 17 9 1 .add,M 9 17]))))))) (G [M 18 3,kBi 19 18 1 .add,M 2 19] kr)))
theorem qMQ:zO prog Tryz.f152.ntmps (Tryz.f152.body.getD .skip)=some qFR.erase:=by kernel_rfl
@[simp] theorem qN1:zA prog 152=true:=by kernel_rfl
theorem zI8 (v:Val):Ret prog 152 [.agg (zC v)] [] (int (zD2 v)) []:=by
 refine zK Tryz.func152 rfl qMQ (rs:=[.slot 2]) (by kernel_rfl) ?_;unfold qFR;simp[zC];intro hl;refine jX (S:=Nat) (fun i=>[(3,int (zNH (v.kids.take i))),(7,.sl v.kids.length (zJ v.kids)),(8,int v.kids.length),(9,int i)]) (fun s=>[]) (fun i=>i≤v.kids.length) (fun i=>v.kids.length-i) 0 (by simp)
  (zP [] 0 (by simp) (by simp) (by simp) (by simp[zNH])) ?_
 intro i hi;simp;by_cases h:i<v.kids.length
 ·simp[h,qY h];refine qK (zI8 v.kids[i]) (by simp[zC]) (by simp) ?_;simp;exact zU (i+1) h (by omega) (zP [] 0 (by simp) (by simp) (by simp) (by simp[qO h hl,zMH h,zUf]))
 ·have:i=v.kids.length:=by omega
  subst this;simp;exact zB 0 (by simp[zMe v,w64])
termination_by qD v
decreasing_by exact zAG (jA3 _)
def zE:List A:=[.lit (.int .i64 0),.lit (.int .i64 0),.lit (.int .i64 0),.lit (.int .i64 0),.lit (.int .i64 0),.lit (.int .i64 0),.lit (.int .i64 0),.lit (.int .i64 0),.lit (.int .i64 0),.lit (.int .i64 0),.lit (.int .i64 0),.lit (.int .i64 0),.nil,.nil,.nil]
def zD:List A:=[.lit (.int .i64 0),.lit (.int .i64 0),.lit (.int .i64 0),.lit (.int .i64 0),.lit (.int .i64 0),.lit (.int .i64 0),.lit (.int .i64 0),.lit (.string ⟨#[]⟩),.nil,.lit (.int .i64 0),.lit (.int .i64 0),.lit (.int .i64 0),.lit (.int .i64 0),.nil,.lit (.int .i64 0),.lit (.int .i64 0),.lit (.int .i64 0),.lit (.int .i64 0),.lit (.int .i64 0),.lit (.int .i64 0),.lit (.int .i64 0),.lit (.int .i64 0),.lit (.int .i64 0),.lit (.int .i64 0),.lit (.int .i64 0),.lit (.int .i64 0),.nil,.nil,.nil,.lit (.int .i64 0),.nil]
@[simp] theorem qEp {z:Value}{a:A}:zEV z true (some a)=.tup [a,.lit (.bool true)]:=rfl
@[simp] theorem qCn:zEV (.agg #[(.int .i64 0),(.int .i64 0),(.int .i64 0),(.int .i64 0),(.int .i64 0),(.int .i64 0),(.int .i64 0),(.int .i64 0),(.int .i64 0),(.int .i64 0),(.int .i64 0),(.int .i64 0),(.slice none 0 0),(.slice none 0 0),(.slice none 0 0)]) true none=.tup [.agg zE,.lit (.bool false)]:=by kernel_rfl
@[simp] theorem qCm:zEV (.agg #[(.int .i64 0),(.int .i64 0),(.int .i64 0),(.int .i64 0),(.int .i64 0),(.int .i64 0),(.int .i64 0),(.string ⟨#[]⟩),(.slice none 0 0),(.int .i64 0),(.int .i64 0),(.int .i64 0),(.int .i64 0),(.slice none 0 0),(.int .i64 0),(.int .i64 0),(.int .i64 0),(.int .i64 0),(.int .i64 0),(.int .i64 0),(.int .i64 0),(.int .i64 0),(.int .i64 0),(.int .i64 0),(.int .i64 0),(.int .i64 0),(.slice none 0 0),(.slice none 0 0),(.slice none 0 0),(.int .i64 0),(.slice none 0 0)]) true none=.tup [.agg zD,.lit (.bool false)]:=by kernel_rfl
@[simp] theorem qPv:zE.length=15:=rfl
@[simp] theorem qPu:zD.length=31:=rfl
def zNG {α : Type}(idf : α→Id)(enc : α→List A)(l:List α):List (List Int×A):=l.map fun x=>(zHm (idf x),.agg (enc x))
@[simp] theorem zSB {α : Type}{idf : α→Id}{enc : α→List A}{rf:Bool→Nat→Nat→A}{g:Nat→Option Nat}(hp:∀x,qE (enc x))(l:List α):((zNG idf enc l).map fun p=>(p.1,vw rf g p.2))=zNG idf enc l:=by
 simp only[zNG,jC5];refine jBr fun x _=>?_
 simp[(hp x).2]
@[simp] theorem qL8 {rf:Bool→Nat→Nat→A}{g:Nat→Option Nat}(l:List Exp):((zNG Exp.id zR l).map fun p=>(p.1,vw rf g p.2))=zNG Exp.id zR l:=zSB zHc l
@[simp] theorem qL7 {rf:Bool→Nat→Nat→A}{g:Nat→Option Nat}(l:List Dfn):((zNG Dfn.id zH l).map fun p=>(p.1,vw rf g p.2))=zNG Dfn.id zH l:=zSB zAt l
end Go.Proofs.YtdnelmeboihpkaaGreatDoor
