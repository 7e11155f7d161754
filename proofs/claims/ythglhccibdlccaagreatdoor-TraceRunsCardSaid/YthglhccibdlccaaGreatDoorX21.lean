/-
  Types, definitions and nodes are compared.
  Regions in order: the deferred calls stay as they are.
-/
import Derived.Test.YthglhccibdlccaaGreatDoorX20
set_option linter.unusedVariables false
set_option linter.unusedSimpArgs false
namespace Go.Proofs.YthglhccibdlccaaGreatDoor
open Go.Abs
def zCi {α : Type}(same : α→α→Bool):List α→List α→Bool
 | [],[]=>true
 | x::a,y::b=>same x y&&zCi same a b
 | _,_=>false
theorem zFm {α : Type}{same : α→α→Bool}:∀{a b:List α},a.length≠b.length→zCi same a b=false
 | [],[],h=>(h rfl).elim
 | x::a,y::b,h=>by simp only[zCi,zFm (a:=a) (b:=b) (by simpa using h),Bool.and_false]
 | [],_::_,_=>rfl
 | _::_,[],_=>rfl
theorem zCj {α : Type}{same : α→α→Bool}:∀{a b:List α} (hl:a.length=b.length),zCi same a b=true↔∀(j:Nat) (h:j<a.length),same a[j] (b[j]'(hl▸h))=true
 | [],[],_=>by simp[zCi]
 | x::a,y::b,hl=>by
  simp only[zCi,Bool.and_eq_true,zCj (a:=a) (b:=b) (by simpa using hl)];constructor
  ·rintro⟨h1,h2⟩ j h;cases j with
   | zero=>exact h1
   | succ j=>exact h2 j (by simpa using h)
  ·intro h;exact⟨h 0 (by simp),fun j hj=>h (j+1) (by simpa using hj)⟩
 | [],_::_,hl=>by simp at hl
 | _::_,[],hl=>by simp at hl
def qFt:K:=G [kMb 6 false] (Z (G [M 10 0,kN 11 10,M 12 1,kN 13 12,kQ 14 11 13 true] (Y 14 (G [kMb 6 false] kr) ks)) (Z (G [M 15 0,kN 16 15,kMi 17 0] (K.block 0 (K.loop (G [kB 18 17 16 .lss] (Z (Y 18 ks (K.exit 0)) (Z (K.block 1 (G [M 19 17,kX 20 15 17 5,J 21 20 5,kZ 8 kz2,M 7 19,S 8 21 5] (G [M 22 1,M 23 7,kX 24 22 23 5,J 25 24 5,kZ 9 kz2,S 9 25 5] (G [M 26 2,J 27 8 5,J 28 9 5,⟨none,.call (some 29) (kt 26) [(kt 27),(kt 28)]⟩,kR 30 29] (Y 30 (G [kMb 6 false] kr) ks))))) (K.ops [kBi 31 17 1 .add,M 17 31]))))))) (G [kMb 6 true] kr)))
theorem qMd:zL Tryz.prog Tryz.f139.ntmps (Tryz.f139.body.getD .skip)=some qFt.erase:=by kernel_rfl
@[simp] theorem qNe:zA Tryz.prog 139=true:=by kernel_rfl
theorem zXv (g:FuncId)(hcal:zA Tryz.prog g=true)(same:Typ→Typ→Bool)(a b:List Typ)(h:∀x∈a,∀y∈b,Ret Tryz.prog g [.agg (zB x),.agg (zB y)] [] (bl (same x y)) []) :
 Ret Tryz.prog 139 [.sl a.length (jB a),.sl b.length (jB b),.clo g [] []] [] (bl (zCi same a b)) []:=by
 refine zK Tryz.func139 rfl qMd (rs:=[.slot 6]) (by kernel_rfl) ?_;unfold qFt;by_cases hab:a.length=b.length
 ·simp[hab];intro hlb;refine qZ (S:=Nat) (fun i=>[(1,.sl b.length (jB b)),(2,.clo g [] []),(15,.sl a.length (jB a)),(16,int a.length),(17,int i)]) (fun s=>[]) (fun i=>i≤a.length∧∀(j:Nat) (h:j<a.length),j<i→same a[j] (b[j]'(hab▸h))=true) (fun i=>a.length-i) 0 (by simp)
   (zS [] 0 (by simp) (by simp) (by simp) (by simp[hab])) ?_
  rintro i ⟨hi,hn⟩;by_cases hia:i<a.length
  ·have hib:i<b.length:=by omega
   have hla:i*5<a.length*5:=by omega
   have hlb':i*5<b.length*5:=by omega
   simp[hia,hib,zCb hia,zCb hib,hcal,zB];refine zR (h a[i] (List.getElem_mem hia) b[i] (List.getElem_mem hib)) (by simp[zB]) (by simp) ?_;cases hs:same a[i] b[i]with
   | true =>
    simp;exact zT (i+1) ⟨hia,fun j hj hji=>by
     by_cases e:j=i
     ·subst e; exact hs
     ·exact hn j hj (by omega)⟩ (by omega) (zS [] 0 (by simp) (by simp) (by simp) (by simp[qB hib hlb]))
   | false =>
    have hf:zCi same a b=false:=by
     cases hh:zCi same a b with
     | false=>rfl
     | true=>have:=(zCj hab).1 hh i hia; rw[hs]at this; cases this
    simp;exact zC 0 (by simp[hf])
  ·have hil:i=a.length:=by omega
   subst hil;have ht:zCi same a b=true:=(zCj hab).2 fun j hj=>hn j hj hj
   simp;exact zC 0 (by simp[ht])
 ·have hab':¬(a.length:Int)=b.length:=by omega
  simp[hab'];exact fun _ _=>zC 0 (by simp[zFm hab])
def qFs:K:=G [kMb 6 false] (Z (G [M 10 0,kN 11 10,M 12 1,kN 13 12,kQ 14 11 13 true] (Y 14 (G [kMb 6 false] kr) ks)) (Z (G [M 15 0,kN 16 15,kMi 17 0] (K.block 0 (K.loop (G [kB 18 17 16 .lss] (Z (Y 18 ks (K.exit 0)) (Z (K.block 1 (G [M 19 17,kX 20 15 17 11,J 21 20 11,kZ 8 kz5,M 7 19,S 8 21 11] (G [M 22 1,M 23 7,kX 24 22 23 11,J 25 24 11,kZ 9 kz5,S 9 25 11] (G [M 26 2,J 27 8 11,J 28 9 11,⟨none,.call (some 29) (kt 26) [(kt 27),(kt 28)]⟩,kR 30 29] (Y 30 (G [kMb 6 false] kr) ks))))) (K.ops [kBi 31 17 1 .add,M 17 31]))))))) (G [kMb 6 true] kr)))
theorem qMc:zL Tryz.prog Tryz.f106.ntmps (Tryz.f106.body.getD .skip)=some qFs.erase:=by kernel_rfl
@[simp] theorem qNd:zA Tryz.prog 106=true:=by kernel_rfl
theorem zXu (g:FuncId)(hcal:zA Tryz.prog g=true)(same:Slt→Slt→Bool)(a b:List Slt)(h:∀x∈a,∀y∈b,Ret Tryz.prog g [.agg (zAd x),.agg (zAd y)] [] (bl (same x y)) []) :
 Ret Tryz.prog 106 [.sl a.length (jU a),.sl b.length (jU b),.clo g [] []] [] (bl (zCi same a b)) []:=by
 refine zK Tryz.func106 rfl qMc (rs:=[.slot 6]) (by kernel_rfl) ?_;unfold qFs;by_cases hab:a.length=b.length
 ·simp[hab];intro hlb;refine qZ (S:=Nat) (fun i=>[(1,.sl b.length (jU b)),(2,.clo g [] []),(15,.sl a.length (jU a)),(16,int a.length),(17,int i)]) (fun s=>[]) (fun i=>i≤a.length∧∀(j:Nat) (h:j<a.length),j<i→same a[j] (b[j]'(hab▸h))=true) (fun i=>a.length-i) 0 (by simp)
   (zS [] 0 (by simp) (by simp) (by simp) (by simp[hab])) ?_
  rintro i ⟨hi,hn⟩;by_cases hia:i<a.length
  ·have hib:i<b.length:=by omega
   have hla:i*11<a.length*11:=by omega
   have hlb':i*11<b.length*11:=by omega
   simp[hia,hib,jL hia,jL hib,hcal,zAd];refine zR (h a[i] (List.getElem_mem hia) b[i] (List.getElem_mem hib)) (by simp[zAd]) (by simp) ?_;cases hs:same a[i] b[i]with
   | true =>
    simp;exact zT (i+1) ⟨hia,fun j hj hji=>by
     by_cases e:j=i
     ·subst e; exact hs
     ·exact hn j hj (by omega)⟩ (by omega) (zS [] 0 (by simp) (by simp) (by simp) (by simp[qB hib hlb]))
   | false =>
    have hf:zCi same a b=false:=by
     cases hh:zCi same a b with
     | false=>rfl
     | true=>have:=(zCj hab).1 hh i hia; rw[hs]at this; cases this
    simp;exact zC 0 (by simp[hf])
  ·have hil:i=a.length:=by omega
   subst hil;have ht:zCi same a b=true:=(zCj hab).2 fun j hj=>hn j hj hj
   simp;exact zC 0 (by simp[ht])
 ·have hab':¬(a.length:Int)=b.length:=by omega
  simp[hab'];exact fun _ _=>zC 0 (by simp[zFm hab])
def qFr:K:=G [kMb 6 false] (Z (G [M 10 0,kN 11 10,M 12 1,kN 13 12,kQ 14 11 13 true] (Y 14 (G [kMb 6 false] kr) ks)) (Z (G [M 15 0,kN 16 15,kMi 17 0] (K.block 0 (K.loop (G [kB 18 17 16 .lss] (Z (Y 18 ks (K.exit 0)) (Z (K.block 1 (G [M 19 17,kX 20 15 17 15,J 21 20 15,kZ 8 kz1,M 7 19,S 8 21 15] (G [M 22 1,M 23 7,kX 24 22 23 15,J 25 24 15,kZ 9 kz1,S 9 25 15] (G [M 26 2,J 27 8 15,J 28 9 15,⟨none,.call (some 29) (kt 26) [(kt 27),(kt 28)]⟩,kR 30 29] (Y 30 (G [kMb 6 false] kr) ks))))) (K.ops [kBi 31 17 1 .add,M 17 31]))))))) (G [kMb 6 true] kr)))
theorem qMb:zL Tryz.prog Tryz.f108.ntmps (Tryz.f108.body.getD .skip)=some qFr.erase:=by kernel_rfl
@[simp] theorem qNc:zA Tryz.prog 108=true:=by kernel_rfl
theorem zXt (g:FuncId)(hcal:zA Tryz.prog g=true)(same:Exp→Exp→Bool)(a b:List Exp)(h:∀x∈a,∀y∈b,Ret Tryz.prog g [.agg (zF x),.agg (zF y)] [] (bl (same x y)) []) :
 Ret Tryz.prog 108 [.sl a.length (qL a),.sl b.length (qL b),.clo g [] []] [] (bl (zCi same a b)) []:=by
 refine zK Tryz.func108 rfl qMb (rs:=[.slot 6]) (by kernel_rfl) ?_;unfold qFr;by_cases hab:a.length=b.length
 ·simp[hab];intro hlb;refine qZ (S:=Nat) (fun i=>[(1,.sl b.length (qL b)),(2,.clo g [] []),(15,.sl a.length (qL a)),(16,int a.length),(17,int i)]) (fun s=>[]) (fun i=>i≤a.length∧∀(j:Nat) (h:j<a.length),j<i→same a[j] (b[j]'(hab▸h))=true) (fun i=>a.length-i) 0 (by simp)
   (zS [] 0 (by simp) (by simp) (by simp) (by simp[hab])) ?_
  rintro i ⟨hi,hn⟩;by_cases hia:i<a.length
  ·have hib:i<b.length:=by omega
   have hla:i*15<a.length*15:=by omega
   have hlb':i*15<b.length*15:=by omega
   simp[hia,hib,yJ hia,yJ hib,hcal,zF];refine zR (h a[i] (List.getElem_mem hia) b[i] (List.getElem_mem hib)) (by simp[zF]) (by simp) ?_;cases hs:same a[i] b[i]with
   | true =>
    simp;exact zT (i+1) ⟨hia,fun j hj hji=>by
     by_cases e:j=i
     ·subst e; exact hs
     ·exact hn j hj (by omega)⟩ (by omega) (zS [] 0 (by simp) (by simp) (by simp) (by simp[qB hib hlb]))
   | false =>
    have hf:zCi same a b=false:=by
     cases hh:zCi same a b with
     | false=>rfl
     | true=>have:=(zCj hab).1 hh i hia; rw[hs]at this; cases this
    simp;exact zC 0 (by simp[hf])
  ·have hil:i=a.length:=by omega
   subst hil;have ht:zCi same a b=true:=(zCj hab).2 fun j hj=>hn j hj hj
   simp;exact zC 0 (by simp[ht])
 ·have hab':¬(a.length:Int)=b.length:=by omega
  simp[hab'];exact fun _ _=>zC 0 (by simp[zFm hab])
end Go.Proofs.YthglhccibdlccaaGreatDoor
namespace Go.Abs
section
variable {P:Program}{n0:Nat}
def zGx (H:Mem)(L:List LI)(w:World)(N:Nat)(Q:Ex→Env→St→Prop)(dfs:List Deferred):Exit→Act→World→Prop:=fun e a' w' =>
 ∃x env' σ' H' L',e=x.exit?∧a'.defers=dfs∧qI H' L' N env' a'.tmps∧Nxt H L w H' L' σ' w'∧Q x env' σ'
theorem zGx.next {N:Nat}{w:World}{H:Mem}{L:List LI}{H':Mem}{L':List LI} {σ':St}{w':World}{Q:Ex→Env→St→Prop}{dfs:List Deferred}(hn:Nxt H L w H' L' σ' w'){e:Exit}{b:Act}{v:World}(h:zGx H' L' w' N Q dfs e b v):zGx H L w N Q dfs e b v:=by obtain⟨x,env'',σ'',H'',L'',h1,h2,h3,h4,h5⟩:=h;exact⟨x,env'',σ'',H'',L'',h1,h2,h3,hn.trans h4,h5⟩
theorem zGx.post {N:Nat}{w:World}{H:Mem}{L:List LI}{Q:Ex→Env→St→Prop}{dfs:List Deferred}{e:Exit}{b:Act}{v:World}(h:zGx H L w N Q dfs e b v):zG8 H L w N Q dfs e b v:=by obtain⟨x,env'',σ'',H'',L'',h1,h2,h3,h4,h5⟩:=h;exact⟨x,env'',σ'',H'',L'',h1,h2▸Mk.refl _ _ _,h3,h4,h5⟩
theorem zFa {N:Nat}{ro:Option Nat}{ops:Array Oper}(hall:∀o∈ops.toList,∀x,o.dst=some x→x<N){Q:Ex→Env→St→Prop}{dfs:List Deferred}{Qc:Exit→Act→World→Prop} :
 ∀(l:List Oper) (gs:List KG) {H:Mem} {L:List LI} {σ : St} {w:World} {env:Env} {a:Act},zIK P N ops l gs→qI H L N env a.tmps→RelSt H L σ w→a.defers=dfs →
  zCx P (fun v=>Q (.pan v)) (Q .norm) gs env σ→(∀e b v,zGx H L w N Q dfs e b v→Qc e b v)→wpListIn (Wr ro) 0 P ops Qc l a w
 | [],gs,H,L,σ,w,env,a,hc,he,hs,hd,h,hQ=>by simp only[zIK]at hc;subst hc;exact hQ _ _ _ ⟨.norm,env,σ,H,L,rfl,hd,he,Nxt.refl hs,h⟩
 | o::l,gs,H,L,σ,w,env,a,hc,he,hs,hd,h,hQ=>by
  simp only[zIK]at hc;obtain⟨g,gs',rfl,hg,hgs⟩:=hc;obtain⟨hk,hdst,hgd⟩:=yQ hg;have hkd:=zAo hk;have hke:g.erase.op.dst=g.op.dst:=by show g.op.erase.dst=g.op.dst;cases g.op<;>rfl
  rw[hke]at hkd;simp only[zCx]at h;have exec:wpO P (fun v=>Q (.pan v)) (zCx P (fun v=>Q (.pan v)) (Q .norm) gs') g.op env σ→o.wpIn (Wr ro) 0 P a w (wpListIn (Wr ro) 0 P ops Qc l) Qc:=by
   intro h;refine zDw hk hdst he hs h (fun env' σ' H' L' a' w' h1 h2 h3 h4=>?_) (fun v σ' H' L' w' h1 h2=>?_)
   ·exact zFa hall l gs' hgs h2 h3.st (h1.trans hd) h4 fun e b v hp=>hQ e b v (hp.next h3)
   ·exact hQ _ _ _ ⟨.pan v,env,σ',H',L',rfl,hd,he.mono h1.step.hle h1.lle,h1,h2⟩
  have skip:zCx P (fun v=>Q (.pan v)) (Q .norm) gs' (env.put g.op.dst (.lit undef)) σ→wpListIn (Wr ro) 0 P ops Qc l (a.put o.dst undef) w:=by intro h;refine zFa hall l gs' hgs ?_ hs ((qW _ _).trans hd) h hQ;rw[hkd];exact he.put hdst (by simp[Rel])
  unfold wpListIn;have hge:g.erase.guard=g.guard:=rfl;rw[hge]at hgd;rcases hgd with ⟨ho,hgn⟩ | ⟨j,want,s,ho,hsl,hgn⟩
  ·simp only[wpG,hgn]at h;have hw:Region.wanted o (yielded ops a.tmps)=true:=by simp[Region.wanted,ho]
   rw[if_pos hw];exact exec h
  ·simp only[wpG,hgn]at h;have hsN:=zEB hsl hall;obtain⟨w1,w2⟩:=zDi (a:=a) ho hsl (Nat.lt_of_lt_of_le hsN he.1);have hrel:=he.2 s;split at h
   ·rename_i b hb;rw[hb]at hrel;simp only[Rel]at hrel;rw[w1 b hrel];by_cases hbw:b=want
    ·simp only[hbw,decide_true,if_true];exact exec (h.1 (by simp[hbw]))
    ·simp only[hbw,decide_false,Bool.false_eq_true,if_false];exact⟨fun _ _=>trivial,skip (h.2 (by simp[hbw]))⟩
   ·rename_i t ht;rw[ht]at hrel;simp only[Rel]at hrel;rw[w2 t hrel];simp only[Bool.false_eq_true,if_false];exact⟨fun _ _=>trivial,skip h⟩
   ·exact h.elim
theorem zKE {N:Nat}{hint:Nat→Option (List (Nat×Nat))}{H:Mem}{L:List LI} {σ : St}{w:World}{env:Env}{a:Act}{id:Nat}{ops:Array Oper}{l:List KG}(hc:qC P N hint (.region id ops false)=some (K.ops l).erase)
 (he:qI H L N env a.tmps)(hs:RelSt H L σ w){Q:Ex→Env→St→Prop}(h:wpK P n0 (.ops l) Q env σ){Qc:Exit→Act→World→Prop}(hQ:∀e b v,zGx H L w N Q a.defers e b v→Qc e b v):(Code.region id ops false).wpIn Fence.wide 0 P Qc a w:=by
 simp only[qC,K.erase]at hc;split at hc<;>try (cases hc; done)
 rename_i l' hl;simp only[Bool.false_eq_true,if_false,Option.some.injEq,K.ops.injEq]at hc;subst hc;simp only[wpK]at h;have hall:∀o∈ops.toList,∀x,o.dst=some x→x<N:=by
  obtain⟨hlen,hget⟩:=zCo hl;intro o ho;obtain⟨i,hi⟩:=List.getElem?_of_mem ho;have hlt:i<(l.map KG.erase).length:=by rw[hlen]; exact(List.getElem?_eq_some_iff.1 hi).1
  exact(yQ (hget i o _ hi (List.getElem?_eq_getElem hlt))).2.1
 exact wpIn_region_list (zFa (ro:=none) (Q:=Q) (dfs:=a.defers) hall ops.toList l (zJR hl) he hs rfl h hQ)
theorem zCJ {ops:Array Oper}{N:Nat}{ro:Option Nat}{all:List (Nat×Nat×KG)}(hc:Comp P N ops all)(hall:∀o∈ops.toList,∀x,o.dst=some x→x<N){Q:Ex→Env→St→Prop}{dfs:List Deferred}{Qc:Exit→Act→World→Prop} :
 ∀(fuel:Nat) (listed:Array Bool) {H:Mem} {L:List LI} {σ : St} {w:World} {env:Env} {a:Act},qI H L N env a.tmps→RelSt H L σ w→a.defers=dfs →
  zEZ P (zK8 Q) ops all (Q .norm) fuel listed env σ→(∀e b v,zGx H L w N Q dfs e b v→Qc e b v)→wpAnyIn (Wr ro) 0 P .any ops Qc fuel listed a w
 | 0,listed,H,L,σ,w,env,a,he,hs,hd,h,hQ=>⟨h.1,hQ _ _ _ ⟨.norm,env,σ,H,L,rfl,hd,he,Nxt.refl hs,h.2⟩⟩
 | fuel+1,listed,H,L,σ,w,env,a,he,hs,hd,h,hQ=>by
  refine⟨fun h0=>hQ _ _ _ ⟨.norm,env,σ,H,L,rfl,hd,he,Nxt.refl hs,h.1 h0⟩,fun i hi=>?_⟩;obtain⟨_,o,ho,_⟩:=mem_ready.1 hi;rcases h.2 i hi with ⟨f,g,r,σ1,hg,hy,hK⟩ | ⟨f8,d,fo,args,hf8,hg,hcn⟩
  rotate_left
  ·have hcg:=hc.get i f8 o _ ho hg;obtain⟨hk,hdst,hgd⟩:=yQ hcg;unfold wpOpIn;simp only[ho];rcases hgd with ⟨hog,hgn⟩ | ⟨j,want,s,hog,hsl,hgn⟩
   ·have hw:Region.wanted o (yielded ops a.tmps)=true:=by simp[Region.wanted,hog]
    rw[if_pos hw];refine zDw (k:=.call d fo args) (Qp:=fun v _ τ=>zK8 Q v τ) (K:=fun env' τ=>zEZ P (zK8 Q) ops all (Q .norm) fuel (listed.setIfInBounds i true) env' τ) hk hdst he hs ?_ (fun env' σ' H' L' a' w' h1 h2 h3 h4=>?_) (fun v σ' H' L' w' h1 h2=>hQ _ _ _ ⟨.pan v,env,σ',H',L',rfl,hd,he.mono h1.step.hle h1.lle,h1,h2 env⟩)
    ·simp only[wpO];unfold zJN at hcn;split at hcn
     ·rename_i g first cap hfo
      simp only[hfo];refine⟨hcn.1,fun H L w vs h3 h4=>(hcn.2 H L w vs h3 h4).mono fun e w' hh=>?_⟩;obtain⟨o,σ',H',L',g1,g2,hh⟩:=hh;refine⟨o,σ',H',L',g1,g2,?_⟩;rcases hh with ⟨r,rfl,g4,g5⟩ | ⟨v,rfl,g4⟩
      ·exact g5
      ·exact g4
     ·exact hcn.elim
    ·exact zCJ hc hall fuel _ h2 h3.st (h1.trans hd) h4 fun e b v hp=>hQ e b v (hp.next h3)
   ·cases hgn
  have hcg:=hc.get i f o g ho hg;obtain⟨hk,hdst,hgd⟩:=yQ hcg;have hkd:=zAo hk;rw[show g.erase.op.dst=g.op.dst from zFX _]at hkd;unfold wpOpIn;simp only[ho];have exec:eff P env σ r σ1 g.op→o.wpIn (Wr ro) 0 P a w (wpAnyIn (Wr ro) 0 P .any ops Qc fuel (listed.setIfInBounds i true)) Qc:=by intro hq;refine zDw (k:=g.op) (Qp:=fun _ _ _=>False) hk hdst he hs (zLh hq) (fun env' σ' H' L' a' w' h1 h2 h3 h4=>?_) (fun v σ' H' L' w' h1 h2=>h2.elim);obtain⟨h4,h5⟩:=h4;subst h4;subst h5;exact zCJ hc hall fuel _ h2 h3.st (h1.trans hd) hK fun e b v hp=>hQ e b v (hp.next h3)
  have skip:r=.lit undef→σ1 = σ→wpAnyIn (Wr ro) 0 P .any ops Qc fuel (listed.setIfInBounds i true) (a.put o.dst undef) w:=by rintro rfl rfl;refine zCJ hc hall fuel _ ?_ hs ((qW _ _).trans hd) hK hQ;rw[hkd];exact he.put hdst (by simp[Rel])
  replace hy:=hy.1;unfold zCP at hy;rcases hgd with ⟨hog,hgn⟩ | ⟨j,want,s,hog,hsl,hgn⟩
  ·replace hgn:g.guard=none:=hgn;simp only[hgn]at hy;have hw:Region.wanted o (yielded ops a.tmps)=true:=by simp[Region.wanted,hog]
   rw[if_pos hw];exact exec hy
  ·replace hgn:g.guard=some (s,want):=hgn;simp only[hgn]at hy;have hsN:=zEB hsl hall;obtain⟨w1,w2⟩:=zDi (a:=a) hog hsl (Nat.lt_of_lt_of_le hsN he.1);have hrel:=he.2 s;split at hy
   ·rename_i b hb;rw[hb]at hrel;simp only[Rel]at hrel;rw[w1 b hrel];by_cases hbw:b=want
    ·simp only[hbw,decide_true,if_true];exact exec (hy.1 hbw)
    ·simp only[hbw,decide_false,Bool.false_eq_true,if_false];exact⟨fun _ _=>trivial,skip (hy.2 hbw).1 (hy.2 hbw).2⟩
   ·rename_i t ht;rw[ht]at hrel;simp only[Rel]at hrel;rw[w2 t hrel];simp only[Bool.false_eq_true,if_false];exact⟨fun _ _=>trivial,skip hy.1 hy.2⟩
   ·exact hy.elim
theorem zQ3 {ops:Array Oper}{N:Nat}{H:Mem}{L:List LI} {σ : St}{w:World}{env:Env}{a:Act}{ro:Option Nat}{id:Nat}{gs:List KG}{l:List (Nat×Nat×KG)}(hm:P.follows .mixedOrders=true)(hB:zJX ops l=true)(hlo:zDL ops ops.toList gs=true)(hc:zBP P N ops ops.toList=some gs)(hl:∀x∈l,∃g,gs[x.1]?=some g∧x.2.2.erase=g.erase)
 {Q:Ex→Env→St→Prop}{dfs:List Deferred}{Qc:Exit→Act→World→Prop}(he:qI H L N env a.tmps)(hs:RelSt H L σ w)(hd:a.defers=dfs)
 (h:wpD P (zK8 Q) (Q .norm) l env σ)(hQ:∀e b v,zGx H L w N Q dfs e b v→Qc e b v):(Code.region id ops true).wpIn (Wr ro) 0 P Qc a w:=by
 obtain⟨hlen,hget⟩:=zCo hc;have hcm:Comp P N ops l:=⟨fun i f o g ho hg=>by obtain⟨g0,h1,h2⟩:=hl (i,f,g) hg;have h3:=hget i o g0 (by simpa using ho) h1;rw[show g.erase=g0 from h2.trans (zCn h3)];exact h3⟩
 have hf:Fits ops l:=⟨fun i f o g ho hg=>(zFX g.op).symm.trans (zAo (yQ (hcm.get i f o g ho hg)).1),fun i f o g ho hg=>by obtain⟨g0,h1,h2⟩:=hl (i,f,g) hg;have h3:=hget i o g0 (by simpa using ho) h1;have h4:=zF6 hlo i o g0 (by simpa using ho) h1;rw[←zIX,show g.erase=g0 from h2.trans (zCn h3)];exact h4⟩
 have hall:∀o∈ops.toList,∀x,o.dst=some x→x<N:=by
  intro o ho;obtain⟨i,hi⟩:=List.getElem?_of_mem ho;have hlt:i<gs.length:=by rw[hlen]; exact(List.getElem?_eq_some_iff.1 hi).1
  exact(yQ (hget i o _ hi (List.getElem?_eq_getElem hlt))).2.1
 simp only[zJX,Bool.and_eq_true,beq_iff_eq]at hB;obtain⟨⟨hB,hsz⟩,_⟩:=hB;refine wpIn_region_any hm ?_;have hs':RelSt H L σ {w with drawn:=w.drawn+1}:=hs.heap_eq rfl;have hlex:=zD8 hf l (Array.replicate ops.size false) env σ (fun _ hx=>hx) hB h;rw[hsz]at hlex;have hn:Nxt H L w H L σ {w with drawn:=w.drawn+1}:=⟨hs',⟨rfl,rfl,rfl,Nat.le_refl _,fun _ _ _=>rfl,HLe.refl _,fun _ _ _ h=>.inl h,Nat.le_succ _,fun _ _ h=>h⟩,LLe.refl _,fun _ h=>.inl h⟩;refine zCJ hcm hall _ _ he hs' hd hlex fun e b v hp=>hQ e b v ?_
 exact hp.next hn
theorem zOB {N:Nat}{hint:Nat→Option (List (Nat×Nat))}{H:Mem}{L:List LI} {σ : St}{w:World}{env:Env}{a:Act}{id:Nat}{ops:Array Oper}{l:List (Nat×Nat×KG)}(hc:qC P N hint (.region id ops true)=some (K.dops l).erase)
 (he:qI H L N env a.tmps)(hs:RelSt H L σ w){Q:Ex→Env→St→Prop}(h:wpK P n0 (.dops l) Q env σ){Qc:Exit→Act→World→Prop}(hQ:∀e b v,zGx H L w N Q a.defers e b v→Qc e b v):(Code.region id ops true).wpIn Fence.wide 0 P Qc a w:=by
 simp only[qC,K.erase]at hc;split at hc<;>try (cases hc; done)
 rename_i l' hl;simp only[if_true]at hc;split at hc<;>try (cases hc; done)
 rename_i r hr;split at hc<;>try (cases hc; done)
 rename_i hb;simp only[Bool.and_eq_true]at hb;simp only[Option.some.injEq,K.dops.injEq]at hc;subst hc;simp only[wpK]at h;have hmem:∀x∈r,∃g,l'[x.1]?=some g∧x.2.2.erase=g.erase:=fun x hx=>by
  split at hr
  ·exact zI2 hr hx
  ·cases hr; exact⟨_,zJc hx,rfl⟩
 exact zQ3 (ro:=none) (Q:=Q) (dfs:=a.defers) hb.1.2 hb.1.1 hb.2 hl hmem he hs rfl h hQ
theorem zHH {N:Nat}{hint:Nat→Option (List (Nat×Nat))}{H:Mem}{L:List LI} {σ : St}{w:World}{env:Env}{a:Act}{id:Nat}{ops:Array Oper}{l:List KG}{rest:Code}(hc:qC P N hint (.region id ops false)=some (K.ops l).erase)
 (he:qI H L N env a.tmps)(hs:RelSt H L σ w){Q:Ex→Env→St→Prop}(h:wpK P n0 (.ops l) Q env σ){Qc:Exit→Act→World→Prop}
 (hQ:∀env' τ H' L' w' a',a'.defers=a.defers→qI H' L' N env' a'.tmps→Nxt H L w H' L' τ w'→Q .norm env' τ→rest.wpIn Fence.wide 0 P Qc a' w')
 (hX:∀x env' τ H' L' w' a',x≠.norm→a'.defers=a.defers→qI H' L' N env' a'.tmps→Nxt H L w H' L' τ w'→Q x env' τ→Qc x.exit? a' w'):(Code.seq (.region id ops false) rest).wpIn Fence.wide 0 P Qc a w:=by
 refine wpIn_seq (zKE hc he hs h fun e b v hp=>?_);obtain⟨x,env',τ,H',L',rfl,g2,g3,g4,g5⟩:=hp;cases x with
 | norm=>exact hQ env' τ H' L' v b g2 g3 g4 g5
 | exit i=>exact hX _ env' τ H' L' v b (by simp) g2 g3 g4 g5
 | ret=>exact hX _ env' τ H' L' v b (by simp) g2 g3 g4 g5
 | pan v'=>exact hX _ env' τ H' L' v b (by simp) g2 g3 g4 g5
theorem zVT {N:Nat}{hint:Nat→Option (List (Nat×Nat))}{H:Mem}{L:List LI} {σ : St}{w:World}{env:Env}{a:Act}{id:Nat}{ops:Array Oper}{l:List (Nat×Nat×KG)}{rest:Code}(hc:qC P N hint (.region id ops true)=some (K.dops l).erase)
 (he:qI H L N env a.tmps)(hs:RelSt H L σ w){Q:Ex→Env→St→Prop}(h:wpK P n0 (.dops l) Q env σ){Qc:Exit→Act→World→Prop}
 (hQ:∀env' τ H' L' w' a',a'.defers=a.defers→qI H' L' N env' a'.tmps→Nxt H L w H' L' τ w'→Q .norm env' τ→rest.wpIn Fence.wide 0 P Qc a' w')
 (hX:∀x env' τ H' L' w' a',x≠.norm→a'.defers=a.defers→qI H' L' N env' a'.tmps→Nxt H L w H' L' τ w'→Q x env' τ→Qc x.exit? a' w'):(Code.seq (.region id ops true) rest).wpIn Fence.wide 0 P Qc a w:=by
 refine wpIn_seq (zOB hc he hs h fun e b v hp=>?_);obtain⟨x,env',τ,H',L',rfl,g2,g3,g4,g5⟩:=hp;cases x with
 | norm=>exact hQ env' τ H' L' v b g2 g3 g4 g5
 | exit i=>exact hX _ env' τ H' L' v b (by simp) g2 g3 g4 g5
 | ret=>exact hX _ env' τ H' L' v b (by simp) g2 g3 g4 g5
 | pan v'=>exact hX _ env' τ H' L' v b (by simp) g2 g3 g4 g5
end
end Go.Abs
