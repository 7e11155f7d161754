/-
  The types of the maker's definitions are types of the program.
  The maker's bodies exist.
  The numbers of nodes become IDs: the data.
-/
import Derived.Test.YthglhccibdlccaaGreatDoorX36
import Derived.Test.YthglhccibdlccaaGreatDoorX22
set_option linter.unusedVariables false
set_option linter.unusedSimpArgs false
namespace Go.Proofs.YthglhccibdlccaaGreatDoor
open Go.Abs
def zLu (mods:Int)(ps:List Pln):List Hd:=(zDG mods ps).map Dfn.hd
@[simp] theorem qHA (mods:Int)(ps:List Pln):(zLu mods ps).length=ps.length:=by simp[zLu]
theorem zEg (mods:Int)(ps:List Pln){k:Nat}(h:k<ps.length):(zLu mods ps)[k]'(by simpa using h)=⟨idR (mods+k),ps[k].kind,zAZ (zAz mods ps k) ps[k],ps[k].out⟩:=by simp only[zLu,List.getElem_map];rw[zIg mods ps h];rfl
theorem zGQ {next:Int}{p:Pln}{s:Slt}(h:s∈zAZ next p):s.typ∈p.types:=by simp only[zAZ,List.mem_map,List.mem_range]at h;obtain⟨k,hk,rfl⟩:=h;simp only[zMv,List.getD_eq_getElem?_getD,List.getElem?_eq_getElem hk,Option.getD_some];exact List.getElem_mem hk
theorem zMC {mods:Int}{ps:List Pln}(hm:1≤mods)(hm2:mods≤2)(hps:ps.length≤8)(h6:∀p∈ps,PlnOk mods p){k:Nat}(hk:k<ps.length)(hkd:ps[k].kind=0∨ps[k].kind=1){r:Nat}(ht:∀t∈ps[k].types,TyOk (zLu mods ps) r t) :
 TyOk (zLu mods ps) (r+1) (zBm (idR (mods+k))):=by
 have hk':k<(zLu mods ps).length:=by simpa using hk
 have hg:=zEg mods ps hk;have hp:=h6 _ (List.getElem_mem hk);have:=TyOk.dfn (hs:=zLu mods ps) r k hk' (fun j hj=>by
  rw[hg,zEg mods ps (show j<ps.length by omega)];intro e;have:=zH0 (by omega) (by omega) (by omega) (by omega) e;omega) (by
  rw[hg];rcases hkd with h | h
  ·exact .inl h
  ·exact .inr ⟨h,by simp only[zCB]; exact hp.t1⟩) (by rw[hg]; simp only[zCB]; exact hp.t6) (fun s hs=>by
  rw[hg]at hs;exact ht _ (zGQ hs))
 rw[hg]at this;exact this
section
variable (l:List Int)(mods:Int)(hm:1≤mods)(hm2:mods≤2)(hl:∀x∈l,w64 x=x)
abbrev hsV:List Hd:=zLu mods (qD l mods)
theorem pv0:∃h:0<(qD l mods).length,(qD l mods)[0]=zAW l mods:=⟨by simp[qD],by simp[qD]⟩
theorem pv1:∃h:1<(qD l mods).length,(qD l mods)[1]=zBk l mods:=⟨by simp[qD],by simp[qD]⟩
theorem pv2 (hh:zDY l=true):∃h:2<(qD l mods).length,(qD l mods)[2]=zC8 l mods:=⟨by simp[qD,hh],by simp[qD,hh]⟩
theorem pv3 (hh:zDY l=true):∃h:3<(qD l mods).length,(qD l mods)[3]=zJw mods:=⟨by simp[qD,hh],by simp[qD,hh]⟩
include hm hm2 hl
theorem zHO:TyOk (hsV l mods) 2 (qP mods):=by
 obtain⟨h,e⟩:=pv0 l mods;have h8:=(zAO l mods).2;have:=zMC hm hm2 h8 (zBs l mods hm hm2 hl) h (by rw[e]; exact .inl rfl) (r:=1) (fun t ht=>by
  rw[e]at ht;obtain⟨i,rfl⟩:=zJ7 ht;obtain⟨a,b⟩:=yS (i:=3+i) hl (most:=3) (by omega);rcases zVW a b (qP mods) (qP mods)with e | e | e<;>rw[e]
  ·exact .int _
  ·exact .bool _
  ·exact .list _ _ (.int _))
 simpa [qP] using this
theorem zWg {r:Nat}(hr:2≤r){x:Int}(h0:0≤x)(h:x<4):TyOk (hsV l mods) r (zCv x (qP mods) (qP mods)):=by
 refine TyOk.mono ?_ hr;rcases zVX h0 h (qP mods) (qP mods)with e | e | e | e<;>rw[e]
 ·exact .int _
 ·exact .bool _
 ·exact .list _ _ (.int _)
 ·exact zHO l mods hm hm2 hl
theorem zOY:TyOk (hsV l mods) 3 (zBa mods):=by
 obtain⟨h,e⟩:=pv1 l mods;have h8:=(zAO l mods).2;have:=zMC hm hm2 h8 (zBs l mods hm hm2 hl) h (by rw[e]; exact .inr rfl) (r:=2) (fun t ht=>by
  rw[e]at ht;rcases List.mem_cons.1 ht with rfl | ht
  ·exact .int _
  ·obtain⟨i,rfl⟩:=zJ7 ht;obtain⟨a,b⟩:=yS (i:=7+i) hl (most:=4) (by omega);exact zWg l mods hm hm2 hl (Nat.le_refl _) a b)
 simpa [zBa] using this
theorem zEv (hh:zDY l=true):TyOk (hsV l mods) 3 (zBm (idR (mods+2))):=by
 obtain⟨h,e⟩:=pv2 l mods hh;have h8:=(zAO l mods).2;have:=zMC hm hm2 h8 (zBs l mods hm hm2 hl) h (by rw[e]; exact .inl rfl) (r:=2) (fun t ht=>by
  rw[e]at ht;rcases List.mem_cons.1 ht with rfl | ht
  ·exact .int _
  ·obtain⟨i,rfl⟩:=zJ7 ht;obtain⟨a,b⟩:=yS (i:=10+i) hl (most:=4) (by omega);exact zWg l mods hm hm2 hl (Nat.le_refl _) a b)
 simpa using this
theorem zWi:TyOk (hsV l mods) 3 (zCY l mods):=by
 unfold zCY;split
 ·rename_i hh; exact zEv l mods hm hm2 hl hh
 ·exact(zHO l mods hm hm2 hl).mono (by omega)
theorem zWh (hh:zDY l=true):TyOk (hsV l mods) 4 (zBm (idR (mods+3))):=by
 obtain⟨h,e⟩:=pv3 l mods hh;have h8:=(zAO l mods).2;have:=zMC hm hm2 h8 (zBs l mods hm hm2 hl) h (by rw[e]; exact .inl rfl) (r:=3) (fun t ht=>by
  rw[e]at ht;simp only[zJw,List.mem_cons,List.not_mem_nil,or_false]at ht;rcases ht with rfl | rfl | rfl
  ·exact zEv l mods hm hm2 hl hh
  ·exact .list _ _ (.int _)
  ·exact .int _)
 simpa using this
omit hm hm2 hl in
theorem zGT {a b:Typ}(ha:TyOk (hsV l mods) 4 a)(hb:TyOk (hsV l mods) 4 b){x:Int}(hx:w64 x=x):TyOk (hsV l mods) 4 (zCv x a b):=by
 rcases zQp x a b hx with e | e | e | e | e<;>rw[e]
 ·exact .int _
 ·exact .bool _
 ·exact .list _ _ (.int _)
 ·exact ha
 ·exact hb
theorem zI4:∀p∈qD l mods,(∀t∈p.types,TyOk (hsV l mods) 4 t)∧TyOk (hsV l mods) 4 p.out:=by
 have t1:=(zHO l mods hm hm2 hl).mono (show 2≤4 by omega);have t2:=(zOY l mods hm hm2 hl).mono (show 3≤4 by omega);have t3:=(zWi l mods hm hm2 hl).mono (show 3≤4 by omega);have tR:TyOk (hsV l mods) 4 (zQu l mods):=zGT l mods t1 t1 (zJI hl (by omega) (by omega));have tL:∀(a m n:Int),0<m→m≤4→∀t∈tyL l a m n (qP mods),TyOk (hsV l mods) 4 t:=fun a m n h0 h1 t ht=>by obtain⟨i,rfl⟩:=zJ7 ht;exact zGT l mods t1 t1 (zJI hl h0 (by omega))
 intro p hp;simp only[qD,plB,plC,plD,plE,List.mem_append,List.mem_cons]at hp;rcases hp with ((rfl | rfl | h) | h) | rfl | h | rfl | h
 ·exact⟨tL _ _ _ (by omega) (by omega),.int _⟩
 ·refine⟨fun t ht=>?_,.int _⟩;rcases List.mem_cons.1 ht with rfl | ht
  ·exact .int _
  ·exact tL _ _ _ (by omega) (by omega) t ht
 ·simp at h
 ·split at h
  ·rename_i hh;simp at h;rcases h with rfl | rfl
   ·refine⟨fun t ht=>?_,.int _⟩;rcases List.mem_cons.1 ht with rfl | ht
    ·exact .int _
    ·exact tL _ _ _ (by omega) (by omega) t ht
   ·refine⟨fun t ht=>?_,.int _⟩;simp only[zJw,List.mem_cons,List.not_mem_nil,or_false]at ht;rcases ht with rfl | rfl | rfl
    ·exact(zEv l mods hm hm2 hl hh).mono (by omega)
    ·exact .list _ _ (.int _)
    ·exact .int _
  ·simp at h
 ·refine⟨fun t ht=>?_,tR⟩;simp only[pF,zE7,List.mem_cons]at ht;rcases ht with rfl | ht
  ·exact zGT l mods t1 t2 (zJI hl (by omega) (by omega))
  ·split at ht
   ·simp at ht; rw[ht]; exact zGT l mods t1 t2 (zJI hl (by omega) (by omega))
   ·simp at ht
 ·split at h
  ·rename_i hh;subst h;refine⟨fun t ht=>?_,zWh l mods hm hm2 hl hh⟩;simp only[zHB,List.mem_cons,List.not_mem_nil,or_false]at ht;rcases ht with rfl | rfl
   ·exact(zEv l mods hm hm2 hl hh).mono (by omega)
   ·exact t2
  ·subst h;refine⟨fun t ht=>?_,zGT l mods t1 t2 (zJI hl (by omega) (by omega))⟩;simp only[pG,List.mem_cons,List.not_mem_nil,or_false]at ht;rw[ht]; exact t2
 ·refine⟨fun t ht=>?_,zGT l mods t1 tR (zJI hl (by omega) (by omega))⟩;simp only[pT,List.mem_map]at ht;obtain⟨q,hq,rfl⟩:=ht;simp only[inV,List.mem_cons]at hq;rcases hq with rfl | hq
  ·unfold qBO;split
   ·exact .bool _
   ·split
    ·exact .list _ _ (.int _)
    ·split
     ·exact t1
     ·exact .int _
  ·unfold zVj at hq;split at hq
   ·simp at hq; rw[hq]; exact .int _
   ·split at hq
    ·simp at hq; rw[hq]; exact .bool _
    ·simp at hq
 ·split at h
  ·simp at h;subst h;refine⟨fun t ht=>?_,zGT l mods t1 t3 (zJI hl (by omega) (by omega))⟩;simp only[pC,List.mem_cons,List.not_mem_nil,or_false]at ht;rw[ht]; exact t3
  ·simp at h
theorem cxV (m:Mk)(hd:m.defs.map Dfn.hd=hsV l mods)(hmods:0<m.mods.length)(hml:m.l=l)(ho:m.own≤1000):Cx (hsV l mods) 4 m:=by
 obtain⟨n5,n8⟩:=zAO l mods;refine⟨hd,by simp; omega,by simp; omega,hmods,hml▸hl,ho,fun k h hk=>?_,fun k h=>?_⟩
 ·have h':k<(qD l mods).length:=by simpa using h
  have hg:=zEg mods (qD l mods) h';rw[hg]at hk ⊢;have hpt:=zI4 l mods hm hm2 hl _ (List.getElem_mem h');have hk4:k<2∨zDY l=true∧k<4:=by
   by_cases h2:k<2
   ·exact .inl h2
   cases hh:zDY l with
   | true =>
    refine .inr ⟨rfl,?_⟩;by_cases h4:k<4
    ·exact h4
    ·exfalso;have hmem:(qD l mods)[k]∈plB l mods:=by
      have e:qD l mods=[zAW l mods,zBk l mods,zC8 l mods,zJw mods]++plB l mods:=by simp[qD,hh]
      simp only[e];rw[List.getElem_append_right (by simp; omega)];exact List.getElem_mem _
     simp only[plB,plC,plD,plE,List.mem_cons]at hmem;rcases hmem with e | e | e | e
     ·rw[e]at hk; simp[pF]at hk
     ·rw[e]at hk; split at hk<;>simp[zHB,pG]at hk
     ·rw[e]at hk; simp[pT]at hk
     ·split at e
      ·simp at e; rw[e]at hk; simp[pC]at hk
      ·simp at e
   | false =>
    exfalso;have hmem:(qD l mods)[k]∈plB l mods:=by
     have e:qD l mods=[zAW l mods,zBk l mods]++plB l mods:=by simp[qD,hh]
     simp only[e];rw[List.getElem_append_right (by simp; omega)];exact List.getElem_mem _
    simp only[plB,plC,plD,plE,List.mem_cons]at hmem;rcases hmem with e | e | e | e
    ·rw[e]at hk; simp[pF]at hk
    ·rw[e]at hk; split at hk<;>simp[zHB,pG]at hk
    ·rw[e]at hk; simp[pT]at hk
    ·split at e
     ·simp at e; rw[e]at hk; simp[pC]at hk
     ·simp at e
  have hc:k=0∨k=1∨(zDY l=true∧k=2)∨(zDY l=true∧k=3):=by
   rcases hk4 with h | ⟨h,h'⟩
   ·omega
   ·have:k=0∨k=1∨k=2∨k=3:=by omega
    rcases this with e | e | e | e
    ·exact .inl e
    ·exact .inr (.inl e)
    ·exact .inr (.inr (.inl ⟨h,e⟩))
    ·exact .inr (.inr (.inr ⟨h,e⟩))
  rcases hc with rfl | rfl | ⟨hh,rfl⟩ | ⟨hh,rfl⟩
  ·have:=(zHO l mods hm hm2 hl).mono (show 2≤4 by omega)
   simpa [qP] using this
  ·have:=(zOY l mods hm hm2 hl).mono (show 3≤4 by omega)
   simpa [zBa] using this
  ·exact(zEv l mods hm hm2 hl hh).mono (by omega)
  ·exact zWh l mods hm hm2 hl hh
 ·have h':k<(qD l mods).length:=by simpa using h
  have hg:=zEg mods (qD l mods) h';have hpt:=zI4 l mods hm hm2 hl _ (List.getElem_mem h');rw[hg];exact⟨by simp only[zCB]; exact(zBs l mods hm hm2 hl _ (List.getElem_mem h')).t6,fun s hs=>hpt.1 _ (zGQ hs)⟩
end
end Go.Proofs.YthglhccibdlccaaGreatDoor
namespace Go.Proofs.YthglhccibdlccaaGreatDoor
open Go.Abs
theorem zVU {α : Type}(I:Nat→α→Prop)(S:Nat→α→α→Prop)(a0 : α)(h0:I 0 a0):∀n:Nat,(∀i<n,∀a,I i a→∃b,I (i+1) b∧S i a b)→∃f:Nat→α,f 0=a0∧(∀i≤n,I i (f i))∧∀i<n,S i (f i) (f (i+1))
 | 0,_=>⟨fun _=>a0,rfl,(fun i hi=>by
  obtain rfl:i=0:=by omega
  exact h0),fun i hi=>by omega⟩
 | n+1,h=>by
  obtain⟨f,f0,f1,f2⟩:=zVU I S a0 h0 n fun i hi=>h i (by omega)
  obtain⟨b,b1,b2⟩:=h n (by omega) (f n) (f1 n (Nat.le_refl _));refine⟨fun i=>if i≤n then f i else b,by simp[f0],fun i hi=>?_,fun i hi=>?_⟩
  ·by_cases e:i≤n
   ·simp only[e,if_true]; exact f1 i e
   ·obtain rfl:i=n+1:=by omega
    simp only[show ¬n+1≤n by omega,if_false]; exact b1
  ·by_cases e:i=n
   ·subst e;simp only[Nat.le_refl,if_true,show ¬i+1≤i by omega,if_false]; exact b2
   ·simp only[show i≤n by omega,show i+1≤n by omega,if_true]; exact f2 i (by omega)
def Dfn.wb (d:Dfn)(e:Exp):Dfn:={d with body:=e}
@[simp] theorem Dfn.hd_wb (d:Dfn)(e:Exp):(d.wb e).hd=d.hd:=rfl
def zBp (d:Dfn):List Bnd:=d.slots.map fun s=>⟨s.id,0,s.typ⟩
@[simp] theorem zHp (d:Dfn):(zBp d).length=d.slots.length:=by simp[zBp]
@[simp] theorem qKv (d:Dfn)(e:Exp):zBp (d.wb e)=zBp d:=rfl
def mkA (m:Mk)(i:Nat)(d:Dfn):Mk:={m with own:=i,home:=d.mod,left:=14,name:=0}
def mkD (m:Mk)(i:Nat)(d:Dfn):Mk:={m with defs:=m.defs.set i d}
def mkL (m:Mk):Mk:={m with left:=0}
theorem zGb {ds:List Dfn}{i:Nat}{d:Dfn}(h:ds[i]?=some d)(e:Exp):(ds.set i (d.wb e)).map Dfn.hd=ds.map Dfn.hd:=by
 apply List.ext_getElem?;intro j;rw[List.getElem?_map,List.getElem?_map];by_cases hj:j=i
 ·subst hj;rw[List.getElem?_set_self (List.getElem?_eq_some_iff.1 h).1,h]; rfl
 ·rw[List.getElem?_set_ne (Ne.symm hj)]
def zQ6 (i:Nat)(m m':Mk):Prop:=∃d,m.defs[i]?=some d ∧
 ((d.kind=0∨d.kind=1)∧m'=m ∨
  (d.kind≠0∧d.kind≠1)∧∃(e1:Exp) (m1:Mk),Ret Tryz.prog yU [.ptr 0 0,.agg (zB d.res),.sl (zBp d).length (zQ (zBp d)),int 4] (mkS (mkA m i d)) (.agg (zF e1)) (mkS m1)∧m1.defs=m.defs∧m1.mods=m.mods∧(tmps e1).length≤1000000000 ∧
   ((tmps e1).length≤30∧m'=mkD m1 i (d.wb e1) ∨
    30<(tmps e1).length∧∃(e2:Exp) (m2:Mk),Ret Tryz.prog yU [.ptr 0 0,.agg (zB d.res),.sl (zBp d).length (zQ (zBp d)),int 0] (mkS (mkL (mkD m1 i (d.wb e1)))) (.agg (zF e2)) (mkS m2)∧m2.defs=m.defs.set i (d.wb e1)∧m2.mods=m.mods ∧
     m'=mkD m2 i (d.wb e2)))
structure BGood (hs:List Hd)(k:Nat)(d:Dfn)(lo hi:Int)(e:Exp):Prop where
 wt:WT hs k (zBp d) e d.res
 seg:Seg lo hi (tmps e)
 num:e.num0
 len:(tmps e).length≤32768
def zQ5 (hs:List Hd)(i:Nat)(m m':Mk):Prop:=∃d,m.defs[i]?=some d∧m.temp≤m'.temp ∧
 ((d.kind=0∨d.kind=1)∧m'.defs=m.defs∨(d.kind≠0∧d.kind≠1)∧∃e,m'.defs=m.defs.set i (d.wb e)∧BGood hs i d m.temp m'.temp e)
structure BInv (l:List Int)(mods:Int)(i:Nat)(m:Mk):Prop where
 heads:m.defs.map Dfn.hd=hsV l mods
 mods:m.mods=zJk mods (qD l mods)
 l:m.l=l
 at0:0≤m.at_
 at1:m.at_≤24+i*200000000
 temp0:0≤m.temp
 temp1:m.temp≤i*200000000
theorem zRy {a b:Int}{l:List Int}(h:Seg a b l)(hab:a≤b):(l.length:Int)≤b-a:=by
 have hp:(l.map fun x=>(x-a).toNat).Nodup:=by rw[List.nodup_iff_pairwise_ne,List.pairwise_map];refine List.Pairwise.imp_of_mem (fun {x y} hx hy hne=>?_) (List.nodup_iff_pairwise_ne.1 h.nd);have:=h.rng x hx;have:=h.rng y hy;intro e;exact hne (by omega)
 have hs:(l.map fun x=>(x-a).toNat)⊆List.range (b-a).toNat:=fun n hn=>by obtain⟨x,hx,rfl⟩:=List.mem_map.1 hn;have:=h.rng x hx;rw[List.mem_range];omega
 have:=hp.length_le_of_subset hs;rw[List.length_map,List.length_range]at this;omega
section
variable {l:List Int}{mods:Int}(hm:1≤mods)(hm2:mods≤2)(hl:∀x∈l,w64 x=x)
include hm hm2 hl
theorem zIk {i:Nat}{d:Dfn}(h:(hsV l mods)[i]?=some d.hd)(temp:Int):EnvOk (hsV l mods) 4 temp (zBp d)∧1≤(zBp d).length∧(zBp d).length≤6∧TyOk (hsV l mods) 4 d.res:=by
 obtain⟨hi,he⟩:=List.getElem?_eq_some_iff.1 h;have hi':i<(qD l mods).length:=by simpa using hi
 rw[zEg mods (qD l mods) hi']at he;have hp:=zBs l mods hm hm2 hl _ (List.getElem_mem hi');have ht:=zI4 l mods hm hm2 hl _ (List.getElem_mem hi');obtain⟨n1,n2⟩:=zCR (show 0≤mods by omega) (fun p hp=>(zBs l mods hm hm2 hl p hp).t6) i;have n8:=(zAO l mods).2;have eS:d.slots=zAZ (zAz mods (qD l mods) i) (qD l mods)[i]:=by have:=congrArg Hd.slots he;exact this.symm
 have eR:d.res=(qD l mods)[i].out:=by have:=congrArg Hd.res he;exact this.symm
 generalize (qD l mods)[i]=p at *
 generalize zAz mods (qD l mods) i=nx at *
 refine⟨⟨fun b hb=>?_,?_,fun b hb h0=>?_⟩,by simp only[zHp,eS,zCB]; exact hp.t1,by simp only[zHp,eS,zCB]; exact hp.t6,by rw[eR]; exact ht.2⟩
 ·simp only[zBp,List.mem_map]at hb;obtain⟨s,hs,rfl⟩:=hb;rw[eS]at hs;exact ht.1 _ (zGQ hs)
 ·simp only[zBp,eS,zAZ,List.map_map];rw[List.pairwise_map];refine List.Pairwise.imp_of_mem (fun {a b} ha hb hlt=>?_) List.pairwise_lt_range;rw[List.mem_range]at ha hb;have:=hp.t6;intro e;have:=zH0 (by omega) (by omega) (by omega) (by omega) e.1;omega
 ·exfalso;simp only[zBp,List.mem_map]at hb;obtain⟨s,hs,rfl⟩:=hb;rw[eS]at hs;simp only[zAZ,List.mem_map,List.mem_range]at hs;obtain⟨k,hk,rfl⟩:=hs;have:=hp.t6;have:=zZK (k:=nx+k) (by omega) (by omega);simp only[zMv]at h0;omega
theorem zW6 (i:Nat)(hi:i<(qD l mods).length)(m:Mk)(h:BInv l mods i m):∃m',BInv l mods (i+1) m'∧zQ6 i m m'∧zQ5 (hsV l mods) i m m':=by
 have hlen:m.defs.length=(qD l mods).length:=by have:=congrArg List.length h.heads; simpa using this
 have n8:=(zAO l mods).2;obtain⟨d,hd⟩:∃d,m.defs[i]?=some d:=⟨m.defs[i]'(by omega),by simp⟩;have hhd:(hsV l mods)[i]?=some d.hd:=by rw[←h.heads,List.getElem?_map,hd]; rfl
 by_cases hk:d.kind=0∨d.kind=1
 ·refine⟨m,⟨h.heads,h.mods,h.l,h.at0,by have:=h.at1; omega,h.temp0,by have:=h.temp1; omega⟩,⟨d,hd,.inl ⟨hk,rfl⟩⟩,⟨d,hd,Int.le_refl _,.inl ⟨hk,rfl⟩⟩⟩
 have hk':d.kind≠0∧d.kind≠1:=⟨fun e=>hk (.inl e),fun e=>hk (.inr e)⟩;have hmne:0<m.mods.length:=by rw[h.mods]; simp[zJk]
 have h89:(8:Int) ^ (4+4+1)=134217728:=by decide
 have h85:(8:Int) ^ (0+4+1)=32768:=by decide
 obtain⟨k4,_⟩:=zKe (hsV l mods) 4 (by omega) (by omega) 4 (by omega);obtain⟨k0,_⟩:=zKe (hsV l mods) 4 (by omega) (by omega) 0 (by omega);rw[h89]at k4;rw[h85]at k0;obtain⟨at0,at1,tp0,tp1⟩:=(⟨h.at0,h.at1,h.temp0,h.temp1⟩:_∧_∧_∧_);have hi8:(i:Int)≤8:=by omega
 obtain⟨eo,e1,e6,et⟩:=zIk hm hm2 hl hhd (mkA m i d).temp;have cA:Cx (hsV l mods) 4 (mkA m i d):=cxV l mods hm hm2 hl _ h.heads hmne h.l (by simp only[mkA]; omega);have lA:Lim (mkA m i d) 134217728:=⟨at0,by simp only[mkA]; omega,tp0,by simp only[mkA]; omega,by simp only[mkA]; omega,by simp only[mkA]; omega,by simp only[mkA]; omega,by simp only[mkA]; omega⟩;obtain⟨x1,m1,g1,g2,g3,g4,g5⟩:=k4 (mkA m i d) 4 d.res (zBp d) cA lA et (Nat.le_refl _) eo e1 (by omega);have htA:(mkA m i d).temp=m.temp:=rfl;have sl1:=zRy g4 g2.temp1;rw[htA]at sl1 g4;have a1:m.at_≤m1.at_:=g2.at1;have a2:m1.at_≤m.at_+134217728:=g2.at2;have b1:m.temp≤m1.temp:=g2.temp1;have b2:m1.temp≤m.temp+134217728:=g2.temp2;have dd:m1.defs=m.defs:=g2.defs;have dm:m1.mods=m.mods:=g2.mods;have dl:m1.l=m.l:=g2.l;by_cases h30:(tmps x1).length≤30
 ·refine⟨mkD m1 i (d.wb x1),⟨?_,dm.trans h.mods,dl.trans h.l,by simp only[mkD]; omega,by simp only[mkD]; omega,by simp only[mkD]; omega,by simp only[mkD]; omega⟩,⟨d,hd,.inr ⟨hk',x1,m1,g1,dd,dm,by omega,.inl ⟨h30,rfl⟩⟩⟩,⟨d,hd,b1,.inr ⟨hk',x1,?_,g3,g4,g5,by omega⟩⟩⟩
  ·simp only[mkD,dd]; rw[zGb hd]; exact h.heads
  ·simp only[mkD,dd]
 ·have cB:Cx (hsV l mods) 4 (mkL (mkD m1 i (d.wb x1))):=cxV l mods hm hm2 hl _ (by simp only[mkL,mkD,dd]; rw[zGb hd]; exact h.heads) (by simp only[mkL,mkD,dm]; exact hmne) (dl.trans h.l) (by
   have:m1.own=i:=g2.own;simp only[mkL,mkD]; omega)
  have nm:m1.name≤134217728:=by have:m1.name≤0+134217728:=g2.name2; omega
  have nm0:0≤m1.name:=g2.name1;have lB:Lim (mkL (mkD m1 i (d.wb x1))) 32768:=⟨by simp only[mkL,mkD]; omega,by simp only[mkL,mkD]; omega,by simp only[mkL,mkD]; omega,by simp only[mkL,mkD]; omega,by simp only[mkL,mkD]; omega,by simp only[mkL,mkD]; omega,nm0,by simp only[mkL,mkD]; omega⟩;obtain⟨x2,m2,f1,f2,f3,f4,f5⟩:=k0 (mkL (mkD m1 i (d.wb x1))) 4 d.res (zBp d) cB lB et (Nat.le_refl _) (zIk hm hm2 hl hhd _).1 e1 (by omega);have sl2:=zRy f4 f2.temp1;have p1:m1.at_≤m2.at_:=f2.at1;have p2:m2.at_≤m1.at_+32768:=f2.at2;have q1:m1.temp≤m2.temp:=f2.temp1;have q2:m2.temp≤m1.temp+32768:=f2.temp2;have dd2:m2.defs=m.defs.set i (d.wb x1):=by have:=f2.defs; rw[this]; simp only[mkL,mkD,dd]
  have dm2:m2.mods=m.mods:=by have:=f2.mods; rw[this]; simp only[mkL,mkD,dm]
  have dl2:m2.l=m.l:=by have:=f2.l; rw[this]; simp only[mkL,mkD,dl]
  have hset:(m.defs.set i (d.wb x1)).set i (d.wb x2)=m.defs.set i (d.wb x2):=by rw[List.set_set]
  have o1:m1.own=i:=g2.own;have hwt:WT (hsV l mods) i (zBp d) x2 d.res:=by have:(mkL (mkD m1 i (d.wb x1))).own=i:=o1;rw[this]at f3; exact f3
  have ht1:(mkL (mkD m1 i (d.wb x1))).temp=m1.temp:=rfl;rw[ht1]at f4 sl2;refine⟨mkD m2 i (d.wb x2),⟨?_,dm2.trans h.mods,dl2.trans h.l,by simp only[mkD]; omega,by simp only[mkD]; omega,by simp only[mkD]; omega,by simp only[mkD]; omega⟩,⟨d,hd,.inr ⟨hk',x1,m1,g1,dd,dm,by omega,.inr ⟨by omega,x2,m2,f1,dd2,dm2,rfl⟩⟩⟩,
   ⟨d,hd,by simp only[mkD]; omega,.inr ⟨hk',x2,?_,hwt,f4.mono b1 (Int.le_refl _),f5,by omega⟩⟩⟩
  ·simp only[mkD,dd2,hset]; rw[zGb hd]; exact h.heads
  ·simp only[mkD,dd2,hset]
theorem zRJ (m0:Mk)(h0:BInv l mods 0 m0):∃ms:Nat→Mk,ms 0=m0∧(∀i≤(qD l mods).length,BInv l mods i (ms i))∧∀i<(qD l mods).length,zQ6 i (ms i) (ms (i+1))∧zQ5 (hsV l mods) i (ms i) (ms (i+1)) :=
 zVU (BInv l mods) (fun i m m'=>zQ6 i m m'∧zQ5 (hsV l mods) i m m') m0 h0 _ fun i hi a ha=>by obtain⟨b,h1,h2⟩:=zW6 hm hm2 hl i hi a ha;exact⟨b,h1,h2⟩
end
end Go.Proofs.YthglhccibdlccaaGreatDoor
namespace Go.Abs
theorem qBx {P:Program}{KD:Env→Prop}{env:Env} {σ : St}{d:Option Nat}{f:FuncId}{args args':List A} {σ0:St}{r:A}(h:Ret P f args σ0 r σ0)(js:List Nat)(hd:js.Nodup)(ho:zAt σ jQ (qU js) js σ0)(ha:zBo js args' args)
 (hr:ren js σ.length r=r)(hp:jO σ js (σ0.map (zB0 js σ.length)) = σ)(hq:KD (env.put d r)):zJC P σ d KD f args' env:=by
 refine⟨r,zAw h js hd ho ha ?_,hq⟩;rw[hr,hp];simp
end Go.Abs
namespace Go.Proofs.YthglhccibdlccaaGreatDoor
open Go.Abs
def zCX:List Id→Int→List Int→List Id
 | ids,_,[]=>ids
 | ids,next,c::cs=>zCX (ids.set c.toNat (idR next)) (next+1) cs
theorem zMt (c:Int):∀(cs:List Int) (ids:List Id) (next:Int),zCX ids next (cs++[c])=(zCX ids next cs).set c.toNat (idR (next+cs.length))
 | [],ids,next=>by simp[zCX]
 | x::cs,ids,next=>by simp only[List.cons_append,zCX];rw[zMt c cs,List.length_cons,show next+1+(cs.length:Int)=next+((cs.length+1:Nat):Int) by omega]
theorem zSR {cs:List Int}{k:Nat}(h:k<cs.length)(ids:List Id)(next:Int):zCX ids next (cs.take (k+1))=(zCX ids next (cs.take k)).set cs[k].toNat (idR (next+k)):=by rw[List.take_succ_eq_append_getElem h,zMt,List.length_take,Nat.min_eq_left (by omega)]
@[simp] theorem zHI:∀(cs:List Int) (ids:List Id) (next:Int),(zCX ids next cs).length=ids.length
 | [],_,_=>rfl
 | _::cs,ids,next=>by simp only[zCX]; rw[zHI cs,List.length_set]
theorem zKQ {c:Nat}:∀(cs:List Int) (ids:List Id) (next:Int),(∀x∈cs,0≤x∧x≠c)→(zCX ids next cs)[c]?=ids[c]?
 | [],_,_,_=>rfl
 | x::cs,ids,next,h=>by simp only[zCX];obtain⟨h1,h2⟩:=h x (by simp);rw[zKQ cs _ _ (fun y hy=>h y (by simp[hy])),List.getElem?_set_ne (by omega)]
theorem zOQ:∀(cs:List Int) (ids:List Id) (next:Int),cs.Nodup→(∀x∈cs,0≤x∧x<ids.length)→∀(k:Nat) (h:k<cs.length),zDZ (zCX ids next cs) cs[k]=idR (next+k)
 | [],_,_,_,_,k,h=>by simp at h
 | x::cs,ids,next,hn,hb,0,h=>by
  rw[List.nodup_cons]at hn;obtain⟨h1,h2⟩:=hb x (by simp);obtain⟨n,rfl⟩:∃n:Nat,x=n:=⟨x.toNat,by omega⟩;have hne:∀y∈cs,0≤y∧y≠n:=fun y hy=>⟨(hb y (by simp[hy])).1,fun e=>hn.1 (e▸hy)⟩
  simp only[List.getElem_cons_zero,zCX,zDZ,Int.toNat_natCast,List.getD_eq_getElem?_getD];rw[zKQ cs _ _ hne,List.getElem?_set_self (by omega)];simp
 | x::cs,ids,next,hn,hb,k+1,h=>by rw[List.nodup_cons]at hn;simp only[zCX,List.getElem_cons_succ];have:=zOQ cs (ids.set x.toNat (idR next)) (next+1) hn.2 (fun y hy=>by rw[List.length_set]; exact hb y (by simp[hy])) k (by simpa using h);rw[this,show next+1+(k:Int)=next+((k+1:Nat):Int) by omega]
def zBL (d:Dfn):Bool:=!(decide (d.kind=0)||decide (d.kind=1))
structure NSt where
 ds:List Dfn
 ids:List Id
 next:Int
def zMg (s:NSt)(i:Nat):NSt:=match s.ds[i]? with
 | some d=>if zBL d then ⟨s.ds.set i (d.wb (zCh (zDZ (zCX s.ids s.next (tmps d.body))) d.body)),zCX s.ids s.next (tmps d.body),s.next+(tmps d.body).length⟩ else s
 | none=>s
def zBj (s:NSt):Nat→NSt
 | 0=>s
 | i+1=>zMg (zBj s i) i
theorem zF8 (s:NSt):∀i:Nat,(zBj s i).ds.length=s.ds.length∧(zBj s i).ids.length=s.ids.length
 | 0=>⟨rfl,rfl⟩
 | i+1=>by
  have ih:=zF8 s i;simp only[zBj,zMg];split
  ·split
   ·simp[ih]
   ·exact ih
  ·exact ih
theorem zEL (s:NSt):∀(i j:Nat),i≤j→(zBj s i).ds[j]?=s.ds[j]?
 | 0,j,_=>rfl
 | i+1,j,h=>by
  have ih:=zEL s i j (by omega);simp only[zBj,zMg];split
  ·split
   ·simp only;rw[List.getElem?_set_ne (by omega),ih]
   ·exact ih
  ·exact ih
theorem zIx (s:NSt){i:Nat}{d:Dfn}(hd:s.ds[i]?=some d):zBj s (i+1)=if zBL d then ⟨(zBj s i).ds.set i (d.wb (zCh (zDZ (zCX (zBj s i).ids (zBj s i).next (tmps d.body))) d.body)),zCX (zBj s i).ids (zBj s i).next (tmps d.body),(zBj s i).next+(tmps d.body).length⟩ else zBj s i:=by simp only[zBj,zMg];rw[zEL s i i (Nat.le_refl _),hd]
theorem zKx (s:NSt):∀i:Nat,(zBj s i).ds.map Dfn.hd=s.ds.map Dfn.hd
 | 0=>rfl
 | i+1=>by
  have ih:=zKx s i;simp only[zBj,zMg];split
  ·rename_i d hd;split
   ·simp only; rw[zGb hd,ih]
   ·exact ih
  ·exact ih
theorem zMf (s:NSt){i:Nat}:∀(j:Nat),i<j→(zBj s j).ds[i]?=(zBj s (i+1)).ds[i]?
 | 0,h=>by omega
 | j+1,h=>by
  by_cases e:i=j
  ·rw[e]
  ·have ih:=zMf s (i:=i) j (by omega);rw[←ih];simp only[zBj,zMg];split
   ·split
    ·simp only;rw[List.getElem?_set_ne (by omega)]
    ·rfl
   ·rfl
theorem zHY {ds:List Dfn}{i:Nat}(h:i<ds.length)(e:Exp):(zZ ds).take (i*31+14)++(zF e++(zZ ds).drop (i*31+14+15))=zZ (ds.set i (ds[i].wb e)):=by
 have hs:=zPv (ds[i].wb e) h;rw[←hs];have hd:=yB h;have h1:(zZ ds).take (i*31+14)=(zZ ds).take (i*31)++(zP ds[i]).take 14:=by rw[List.take_add,hd,List.take_append_of_le_length (by simp)]
 have h2:(zZ ds).drop (i*31+14+15)=(zP ds[i]).drop 29++(zZ ds).drop (i*31+31):=by
  have h3:(zZ ds).drop (i*31+31)=zZ (ds.drop (i+1)):=by rw[←List.drop_drop,hd,List.drop_left' (zU7 _)]
  rw[h3,Nat.add_assoc,←List.drop_drop,hd,List.drop_append_of_le_length (by simp)]
 rw[h1,h2,List.append_assoc]
 congr 1
end Go.Proofs.YthglhccibdlccaaGreatDoor
