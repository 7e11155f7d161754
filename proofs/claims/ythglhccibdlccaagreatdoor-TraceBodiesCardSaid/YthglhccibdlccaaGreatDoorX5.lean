/-
  All operations that leave the state alone, in one theorem; how the state goes on when memory is made or written.
  How the state goes on when a box or a row is written, and when a row grows.
-/
import Derived.Test.YthglhccibdlccaaGreatDoorX4
import Derived.Laws.CopyRow
import Derived.Laws.Tables
set_option linter.unusedVariables false
set_option linter.unusedSimpArgs false
namespace Go.Abs
section
variable {P:Program}{H:Mem}{L:List LI} {σ : St}{w:World}{N:Nat}{env:Env}{a:Act}
theorem zPD {o:Oper}{k:KOp}{p:Prop}{r:A}(hc:zAe P o=some k)(h:zK env σ k=some (p,r))(hp:p)(he:qK H L N env a.tmps)(hs:RelSt H L σ w) :
 zAf P H L w a o r:=by
 unfold zAe at hc;split at hc
 case h_1 x heq=>cases hc; cases h; exact zLp (.inl heq) he
 case h_2 x heq=>cases hc; cases h; exact zLp (.inr heq) he
 case h_3 c x y heq =>
  cases hc;simp only[zK]at h;split at h<;>try (cases h; done)
  rename_i t hce;cases h;exact zPr heq he hce
 case h_4 e heq =>
  simp only[Option.bind_eq_bind,Option.bind_eq_some_iff]at hc;obtain⟨i,_,z,_,hc⟩:=hc;split at hc
  ·cases hc; simp[zK]at h
  ·cases hc
 case h_5 e x heq=>cases hc; simp[zK]at h
 case h_6 t x heq =>
  simp only[Option.bind_eq_bind,Option.bind_eq_some_iff,Option.some.injEq]at hc;obtain⟨u,hu,i,hi,rfl⟩:=hc;simp only[zK,Option.map_eq_some_iff,Prod.mk.injEq]at h;obtain⟨r',hr,_,rfl⟩:=h;exact zU8 heq hu hi he hs hr
 case h_7 t x y heq =>
  simp only[Option.bind_eq_bind,Option.bind_eq_some_iff,Option.some.injEq]at hc;obtain⟨i,hi,rfl⟩:=hc;simp[zK]at h
 case h_8 s x f heq =>
  split at hc<;>try (cases hc; done)
  rename_i fs hfs;simp only[Option.bind_eq_bind,Option.bind_eq_some_iff]at hc;obtain⟨g,hg,i,hi,hc⟩:=hc;split at hc<;>try (cases hc; done)
  rename_i h0;cases hc;exact zPo heq hfs hg hi h0 he hs h
 case h_9 t x i heq =>
  split at hc<;>try (cases hc; done)
  ·rename_i e hu;simp only[Option.bind_eq_bind,Option.bind_eq_some_iff,Option.some.injEq]at hc;obtain⟨ti,hi,rfl⟩:=hc;exact zRQ heq hu hi he hs h hp
  ·rename_i n e hu;simp only[Option.bind_eq_bind,Option.bind_eq_some_iff,Option.some.injEq]at hc;obtain⟨ti,hi,rfl⟩:=hc;exact zMc heq hu hi he h hp
 case h_10 t x f heq =>
  split at hc<;>try (cases hc; done)
  rename_i fs hfs;simp only[Option.bind_eq_bind,Option.bind_eq_some_iff,Option.some.injEq]at hc;obtain⟨g,hg,u,hu,i,hi,rfl⟩:=hc;exact zRP heq hfs hg hu hi he h
 case h_11 t x i heq =>
  split at hc<;>try (cases hc; done)
  rename_i n e hut;simp only[Option.bind_eq_bind,Option.bind_eq_some_iff,Option.some.injEq]at hc;obtain⟨u,hu,j,hj,rfl⟩:=hc;exact zU7 heq hut hu hj he h hp
 case h_12 op t x y t' heq =>
  split at hc<;>try (cases hc; done)
  all_goals try (cases hc; exact zRM heq he h hp)
  ·split at hc
   ·rename_i k hk;cases hc;exact zLl (ng:=false) heq hk he h
   ·split at hc
    ·rename_i hn;cases hc;exact zLm (ng:=false) heq hn he h hp
    ·rcases zFv hc with ⟨hn,rfl⟩ | ⟨ks,hk,rfl⟩
     ·exact zLn (ng:=false) heq hn he h
     ·rcases hk with hk | hk
      ·exact zLk (ng:=false) heq hk he h
      ·exact zLj (ng:=false) heq hk he h
  ·split at hc
   ·rename_i k hk;cases hc;exact zLl (ng:=true) heq hk he h
   ·split at hc
    ·rename_i hn;cases hc;exact zLm (ng:=true) heq hn he h hp
    ·rcases zFv hc with ⟨hn,rfl⟩ | ⟨ks,hk,rfl⟩
     ·exact zLn (ng:=true) heq hn he h
     ·rcases hk with hk | hk
      ·exact zLk (ng:=true) heq hk he h
      ·exact zLj (ng:=true) heq hk he h
 case h_13 op t x heq =>
  split at hc<;>try (cases hc; done)
  ·cases hc; exact zRT heq he h
  ·cases hc; exact zRU heq he h
 case h_14 t i heq=>cases hc; exact zRO heq he h
 case h_15 f first cap heq=>cases hc; cases h; exact zRN heq he
 case h_16 t x lo hi mx heq =>
  split at hc<;>try (cases hc; done)
  rename_i e hu;simp only[Option.bind_eq_bind,Option.bind_eq_some_iff,Option.some.injEq]at hc;obtain⟨i,hi,rfl⟩:=hc;exact zRV heq hu hi he h hp
 case h_17 t parts heq =>
  split at hc<;>try (cases hc; done)
  ·rename_i fs hu;simp only[Option.bind_eq_bind,Option.bind_eq_some_iff]at hc;obtain⟨i,hi,z,hz,hc⟩:=hc;split at hc<;>try (cases hc; done)
   rename_i hb;simp only[Bool.and_eq_true]at hb;simp only[Option.bind_eq_some_iff,Option.some.injEq]at hc;obtain⟨ps,hps,rfl⟩:=hc;exact zI2 heq hi hz hb.1 hps (.inl ⟨fs,hu,hb.2,rfl⟩) he h
  ·rename_i n e hu;simp only[Option.bind_eq_bind,Option.bind_eq_some_iff]at hc;obtain⟨i,hi,z,hz,j,hj,hc⟩:=hc;split at hc<;>try (cases hc; done)
   rename_i hb;simp only[Option.bind_eq_some_iff,Option.some.injEq]at hc;obtain⟨ps,hps,rfl⟩:=hc;exact zI2 heq hi hz hb hps (.inr ⟨n,e,j,hu,hj,rfl⟩) he h
 case h_18 t len parts heq =>
  split at hc<;>try (cases hc; done)
  simp only[Option.bind_eq_bind,Option.bind_eq_some_iff]at hc;obtain⟨j,hj,z,hz,hc⟩:=hc;split at hc<;>try (cases hc; done)
  simp only[Option.bind_eq_some_iff,Option.some.injEq]at hc;obtain⟨ps,hps,rfl⟩:=hc;simp[zK]at h
 case h_19 c heq =>
  split at hc
  ·split at hc
   ·split at hc
    ·cases hc; simp[zK]at h
    ·cases hc
   ·cases hc; simp[zK]at h
   ·cases hc
  ·rename_i hcal;split at hc<;>try (cases hc; done)
   rename_i x t ha ht;split at hc<;>try (cases hc; done)
   ·rename_i e hu;cases hc;exact zRR heq hcal ha ht hu he hs h
   ·rename_i hu;cases hc;exact zPp heq hcal ha ht hu he h
  ·split at hc<;>try (cases hc; done)
   simp only[Option.map_eq_some_iff]at hc;obtain⟨nk,_,rfl⟩:=hc;simp[zK]at h
  ·split at hc<;>try (cases hc; done)
   split at hc<;>try (cases hc; done)
   simp only[Option.bind_eq_bind,Option.bind_eq_some_iff]at hc;obtain⟨j,hj,z,hz,hc⟩:=hc;split at hc<;>try (cases hc; done)
   cases hc;simp[zK]at h
  ·rename_i hcal; cases hc; exact zNu (mx:=true) heq hcal he h
  ·rename_i hcal; cases hc; exact zNu (mx:=false) heq hcal he h
  ·split at hc<;>try (cases hc; done)
   split at hc<;>try (cases hc; done)
   split at hc<;>try (cases hc; done)
   simp only[Option.bind_eq_bind,Option.bind_eq_some_iff]at hc;obtain⟨j,hj,z,hz,hc⟩:=hc;split at hc<;>try (cases hc; done)
   cases hc;simp[zK]at h
  ·cases hc
 case h_20 x heq=>cases hc; exact zPq heq he h
 case h_21 t heq =>
  simp only[Option.map_eq_some_iff]at hc;obtain⟨nk,_,rfl⟩:=hc;simp[zK]at h
 case h_22 t x k ok heq =>
  split at hc<;>try (cases hc; done)
  simp only[Option.bind_eq_bind,Option.bind_eq_some_iff,Option.some.injEq]at hc;obtain⟨nk,_,j,_,z,_,rfl⟩:=hc;simp[zK]at h
 case h_23 t m k v heq =>
  simp only[Option.map_eq_some_iff]at hc;obtain⟨nk,_,rfl⟩:=hc;simp[zK]at h
 case h_24 t x heq =>
  split at hc<;>try (cases hc; done)
  cases hc;simp[zK]at h
 case h_25 x heq=>cases hc; simp[zK]at h
 case h_26 x heq=>cases hc; simp[zK]at h
 case h_27 t x heq =>
  split at hc<;>try (cases hc; done)
  rename_i u hu;split at hc<;>try (cases hc; done)
  rename_i hn;cases hc;exact zRS heq hu hn he h
 case h_28=>cases hc; simp[zK]at h
 case h_29 t x y heq =>
  split at hc<;>try (cases hc; done)
  simp only[Option.bind_eq_bind,Option.bind_eq_some_iff]at hc;obtain⟨j,hj,z,hz,hc⟩:=hc;split at hc<;>try (cases hc; done)
  cases hc;simp[zK]at h
 case h_30 s d x heq =>
  split at hc<;>try (cases hc; done)
  ·split at hc<;>try (cases hc; done)
   cases hc;simp[zK]at h
  ·split at hc<;>try (cases hc; done)
   split at hc<;>try (cases hc; done)
   cases hc;simp[zK]at h
 case h_31=>cases hc
structure Nxt (H:Mem)(L:List LI)(w:World)(H':Mem)(L':List LI) (σ':St)(w':World):Prop where
 st:RelSt H' L' σ' w'
 step:Step (zOb L) w H w' H'
 lle:LLe L L'
 own:∀b,zOb L' b→zOb L b∨w.heap.size≤b
theorem Nxt.refl (hs:RelSt H L σ w):Nxt H L w H L σ w:=⟨hs,Step.refl _ _ _,LLe.refl _,fun _ h=>.inl h⟩
theorem Nxt.trans {H' H'':Mem}{L' L'':List LI} {σ' σ'':St}{w' w'':World}(h:Nxt H L w H' L' σ' w')(k:Nxt H' L' w' H'' L'' σ'' w''):Nxt H L w H'' L'' σ'' w'' :=
 ⟨k.st,h.step.trans k.step h.own,h.lle.trans k.lle,fun b hb=>(k.own b hb).elim (h.own b) fun hb=>.inr (Nat.le_trans h.step.size hb)⟩
theorem Inv.next {O:Nat→Prop}{w0:World}{H0:Mem}{H':Mem}{L':List LI} {σ':St}{w':World}(h:Inv O w0 H0 H L σ w)(k:Nxt H L w H' L' σ' w'):Inv O w0 H0 H' L' σ' w' :=
 ⟨k.st,h.step.trans k.step h.own,fun b hb=>(k.own b hb).elim (h.own b) fun hb=>.inr (Nat.le_trans h.step.size hb)⟩
theorem zS.carry {H':Mem}{L':List LI}{w':World}{li:LI}{o:AObj}(h:zS H L w li o)(hw:∀b,li.block=some b→w'.heap[b]?=w.heap[b]?)(hh:HLe H H')(hl:LLe L L')
 (hb:∀b,li.block=some b→∀o,H' b o=H b o):zS H' L' w' li o:=by
 cases o with
 | dead=>trivial
 | box cs =>
  simp only[zS]at h⊢;obtain⟨h0,b,vs,e,h1,h2,h3,h4,h5⟩:=h;exact⟨h0,b,vs,e,h1,by rw[hw b h1]; exact h2,zV.mono hh hl _ h3,h4,fun o=>by rw[hb b h1]; exact h5 o⟩
 | row fz e sz n cs =>
  simp only[zS]at h⊢;obtain⟨h0,h1,h2,h3⟩:=h;refine⟨h0,h1,h2,?_⟩;rcases h3 with h3 | ⟨b,cur,g1,g2,g3,g4,g5,g6,g7,g8⟩
  ·exact .inl h3
  ·refine .inr ⟨b,cur,g1,by rw[hw b g1]; exact g2,g3,g4,g5,zV.mono hh hl _ g6,g7,?_⟩;cases fz with
   | false=>exact fun o=>by rw[hb b g1]; exact g8 o
   | true=>exact⟨g8.1.mono hh,fun o ho=>by rw[hb b g1]; exact g8.2 o ho⟩
 | lp b r M es =>
  simp only[zS]at h⊢;obtain⟨h0,h1,tmps,h2,h3,h4⟩:=h;exact⟨h0,h1,tmps,by rw[hw b h1]; exact h2,h3,h4.mono hh hl⟩
 | mp fresh nk es =>
  simp only[zS]at h⊢;obtain⟨h0,b,ents,ck,h1,h2,h3,h4⟩:=h;exact⟨h0,b,ents,ck,h1,by rw[hw b h1]; exact h2,h3.mono hh hl,h4⟩
 | it m n met =>
  simp only[zS]at h⊢;obtain⟨h0,b,mb,lm,h1,h2,h3,h4,h5⟩:=h;obtain⟨lm',e',hlm⟩:=hl _ _ h2;rcases hlm with rfl | ⟨hr,_⟩ | ⟨hr,_⟩
  ·exact⟨h0,b,mb,_,h1,e',h3,h4,by rw[hw b h1]; exact h5⟩
  ·rw[h4]at hr; cases hr
  ·rw[h3]at hr; cases hr
 | rsv=>exact h
theorem zUd {w w':World}{b:Nat}(hkeep:∀k,k≠b→w'.heap[k]?=w.heap[k]?)(hb:∀d,w.heap[b]?≠some (.deferred d))(k:Nat)(d:Option (List Deferred))(h:w.heap[k]?=some (.deferred d)):w'.heap[k]?=some (.deferred d):=by
 by_cases hk:k=b
 ·subst hk; exact(hb d h).elim
 ·rw[hkeep k hk]; exact h
theorem zDz {w w':World}(hkeep:∀k,k<w.heap.size→w'.heap[k]?=w.heap[k]?)(k:Nat)(d:Option (List Deferred))(h:w.heap[k]?=some (.deferred d)):w'.heap[k]?=some (.deferred d):=by rw[hkeep k (Array.getElem?_eq_some_iff.1 h).1]; exact h
theorem RelSt.heap_eq {w':World}(h:RelSt H L σ w)(hw:w'.heap=w.heap):RelSt H L σ w':=by
 have hc:∀a,w'.cell? a=w.cell? a:=fun a=>by simp[World.cell?,hw]
 exact⟨fun b o v hv=>by rw[hc]; exact h.pers b o v hv,h.len,fun i l o h1 h2=>(h.obj i l o h1 h2).carry (fun b _=>by rw[hw]) (HLe.refl _) (LLe.refl _) (fun _ _ _=>rfl),h.inj,
  fun i l b h1 h2=>by rw[hw]; exact h.lt i l b h1 h2⟩
theorem RelSt.h_lt (h:RelSt H L σ w){b o:Nat}{v:Value}(hv:H b o=some v):b<w.heap.size:=World.block_lt_of_cell? w _ (h.pers b o v hv)
def zMd (H:Mem)(B:Nat)(us:List Value):Mem:=⟨fun b o=>match H b o with
 | some v=>some v
 | none=>if b=B then us[o]? else none,fun b o v h=>by simp only[H.2 b o v h]⟩
theorem zEo {H:Mem}{B:Nat}{us:List Value}(h:∀o v,H B o=some v→us[o]?=some v)(b o:Nat):zMd H B us b o=if b=B then us[o]? else H b o:=by
 simp only[zMd];cases hh:H b o with
 | some v =>
  simp only;split
  ·rename_i e; subst e; rw[h o v hh]
  ·rfl
 | none=>rfl
theorem RelSt.fresh (hs:RelSt H L σ w)(us:List Value):∀o v,H w.heap.size o=some v→us[o]?=some v:=fun o v hv=>by have:=hs.h_lt hv;omega
theorem zNX (hs:RelSt H L σ w)(us:List Value)(e:TypeId):Nxt H L w (zMd H w.heap.size us) L σ (w.alloc (.cells us.toArray e))∧At (zMd H w.heap.size us) w.heap.size 0 us:=by
 have hA:=zEo (hs.fresh us);have hle:HLe H (zMd H w.heap.size us):=fun b o v hv=>by have:=hs.h_lt hv;simp only[hA];rw[if_neg (by omega)];exact hv
 refine⟨⟨⟨fun b o v hv=>?_,hs.len,fun i l o h1 h2=>?_,hs.inj,fun i l b h1 h2=>?_⟩,⟨rfl,rfl,rfl,by simp,fun k hk _=>heap_alloc_old w _ (h:=hk),hle,fun b o v hv=>?_,Nat.le_refl _,zDz (heap_alloc_old w _)⟩,LLe.refl _,fun b hb=>.inl hb⟩,?_⟩
 ·simp only[hA]at hv;split at hv
  ·rename_i hb;subst hb;rw[World.cell?_alloc_new]
   simpa using hv
  ·rw[World.cell?_alloc_lt _ _ _ (hs.h_lt hv)];exact hs.pers b o v hv
 ·refine(hs.obj i l o h1 h2).carry (fun b hb=>heap_alloc_old w _ (h:=hs.lt i l b h1 hb)) hle (LLe.refl _) (fun b hb o'=>?_);have:=hs.lt i l b h1 hb;simp only[hA];rw[if_neg (by omega)]
 ·have:=hs.lt i l b h1 h2;simp;omega
 ·simp only[hA]at hv;split at hv
  ·rename_i hb; exact .inr (.inr (by omega))
  ·exact .inl hv
 ·intro i u hu;simp[hA,hu]
theorem zXq (hs:RelSt H L σ w){cs:List A}{us:List Value}(e:TypeId)(hr:zV H L cs us)(h1:∀u∈us,one u) :
 Nxt H L w H (L++[⟨some w.heap.size,0,0,false⟩]) (σ++[.box cs]) (w.alloc (.cells us.toArray e)):=by
 have hll:=LLe.append L [⟨some w.heap.size,0,0,false⟩];have hget:∀{i:Nat} {l:LI},(L++[⟨some w.heap.size,0,0,false⟩])[i]?=some l→L[i]?=some l∨(i=L.length∧l=⟨some w.heap.size,0,0,false⟩):=by
  intro i l h;rcases Nat.lt_or_ge i L.length with hi | hi
  ·rw[List.getElem?_append_left hi]at h; exact .inl h
  ·rw[List.getElem?_append_right hi]at h;have h0:i-L.length=0:=by
    rcases Nat.eq_zero_or_pos (i-L.length)with h0 | h0
    ·exact h0
    ·rw[List.getElem?_eq_none (by simp; omega)]at h; cases h
   rw[h0]at h;simp only[List.getElem?_cons_zero,Option.some.injEq]at h;exact .inr ⟨by omega,h.symm⟩
 refine⟨⟨fun b o v hv=>?_,by simp[hs.len],fun i l o hL hσ=>?_,fun i j l l' b hi hj hb hb'=>?_,fun i l b hL hb=>?_⟩,⟨rfl,rfl,rfl,by simp,fun k hk _=>heap_alloc_old w _ (h:=hk),HLe.refl _,fun b o v hv=>.inl hv,Nat.le_refl _,zDz (heap_alloc_old w _)⟩,hll,fun b ⟨i,l,hL,hb⟩=>?_⟩
 ·rw[World.cell?_alloc_lt _ _ _ (hs.h_lt hv)];exact hs.pers b o v hv
 ·rcases hget hL with hL' | ⟨rfl,rfl⟩
  ·have hi:i<L.length:=(List.getElem?_eq_some_iff.1 hL').1;rw[List.getElem?_append_left (by rw[←hs.len]; exact hi)]at hσ;exact(hs.obj i l o hL' hσ).carry (fun b hb=>heap_alloc_old w _ (h:=hs.lt i l b hL' hb)) (HLe.refl _) hll (fun _ _ _=>rfl)
  ·rw[List.getElem?_append_right (by rw[hs.len]; exact Nat.le_refl _)]at hσ;simp only[hs.len,Nat.sub_self,List.getElem?_cons_zero,Option.some.injEq]at hσ;subst hσ;simp only[zS];refine⟨trivial,w.heap.size,us,e,rfl,heap_alloc_new w _,zV.mono (HLe.refl _) hll _ hr,h1,fun o=>?_⟩;cases hH:H w.heap.size o with
   | none=>rfl
   | some v=>have:=hs.h_lt hH; omega
 ·rcases hget hi with hi' | ⟨rfl,rfl⟩
  ·rcases hget hj with hj' | ⟨rfl,rfl⟩
   ·exact hs.inj i j l l' b hi' hj' hb hb'
   ·have:=hs.lt i l b hi' hb;simp only[Option.some.injEq]at hb';omega
  ·rcases hget hj with hj' | ⟨rfl,rfl⟩
   ·have:=hs.lt j l' b hj' hb';simp only[Option.some.injEq]at hb;omega
   ·rfl
 ·rcases hget hL with hL' | ⟨rfl,rfl⟩
  ·have:=hs.lt i l b hL' hb;simp;omega
  ·simp only[Option.some.injEq]at hb;simp;omega
 ·rcases hget hL with hL' | ⟨rfl,rfl⟩
  ·exact .inl ⟨i,l,hL',hb⟩
  ·simp only[Option.some.injEq]at hb;exact .inr (by omega)
end
end Go.Abs
namespace Go.Abs
section
variable {P:Program}{H:Mem}{L:List LI} {σ : St}{w:World}{N:Nat}{env:Env}{a:Act}
theorem zF6 (hs:RelSt H L σ w){l:Nat}{li:LI}{b:Nat}{o:AObj}{H':Mem}{w':World}(hl:L[l]?=some li)(hb:li.block=some b)
 (hos:w'.os=w.os)(htape:w'.tape=w.tape)(hout:w'.output=w.output)(hdr:w'.drawn=w.drawn)(hnd:∀d,w.heap[b]?≠some (.deferred d))(hsz:w'.heap.size=w.heap.size)(hkeep:∀k,k≠b→w'.heap[k]?=w.heap[k]?)
 (hle:HLe H H')(hnew:∀b' o' v,H' b' o'=some v→H b' o'=some v∨b'=b)(hpers:∀o' v,H' b o'=some v→w'.cell? ⟨b,o',none⟩=some v)
 (ho:zS H' L w' li o):Nxt H L w H' L (σ.set l o) w':=by
 have hne:∀(i:Nat) l' b',L[i]?=some l'→l'.block=some b'→i≠l→b'≠b:=fun i l' b' h1 h2 hi e=>hi (hs.inj i l l' li b' h1 hl h2 (by rw[hb,e]))
 refine⟨⟨fun b' o' v hv=>?_,by simp[hs.len],fun i l' o' hL hσ=>?_,hs.inj,fun i l' b' h1 h2=>by rw[hsz]; exact hs.lt i l' b' h1 h2⟩,
  ⟨hos,htape,hout,by rw[hsz]; exact Nat.le_refl _,fun k _ hk=>hkeep k (fun e=>hk ⟨l,li,hl,by rw[hb,e]⟩),hle,fun b' o' v hv=>?_,by rw[hdr]; exact Nat.le_refl _,zUd hkeep hnd⟩,LLe.refl _,fun _ h=>.inl h⟩
 ·by_cases hbb:b'=b
  ·subst hbb; exact hpers o' v hv
  ·rcases hnew b' o' v hv with h1 | h1
   ·have:=hs.pers b' o' v h1;simp only[World.cell?]at this ⊢;rw[hkeep b' hbb];exact this
   ·exact(hbb h1).elim
 ·by_cases hi:i=l
  ·subst hi;rw[hl]at hL;cases hL;rw[List.getElem?_set_self (by rw[←hs.len]; exact(List.getElem?_eq_some_iff.1 hl).1)]at hσ;cases hσ;exact ho
  ·rw[List.getElem?_set_ne (Ne.symm hi)]at hσ;refine(hs.obj i l' o' hL hσ).carry (fun b' hb'=>hkeep b' (hne i l' b' hL hb' hi)) hle (LLe.refl _) (fun b' hb' o''=>?_);have hbne:=hne i l' b' hL hb' hi;cases h1:H b' o'' with
   | some v=>exact hle _ _ _ h1
   | none =>
    cases h2:H' b' o'' with
    | none=>rfl
    | some v =>
     rcases hnew b' o'' v h2 with h3 | h3
     ·rw[h1]at h3; cases h3
     ·exact(hbne h3).elim
 ·rcases hnew b' o' v hv with h1 | h1
  ·exact .inl h1
  ·exact .inr (.inl ⟨l,li,hl,by rw[hb,h1]⟩)
def stA (σ : St)(cs:List A):A→Option St
 | .ptr l off=>match σ[l]? with
  | some (.box ds)=>if off+cs.length≤ds.length then some (σ.set l (.box (ds.take off++cs++ds.drop (off+cs.length)))) else none
  | _=>none
 | .rwp l m off=>match σ[l]? with
  | some (.row false e sz k ds)=>if m=k∧off+cs.length≤ds.length then some (σ.set l (.row false e sz k (ds.take off++cs++ds.drop (off+cs.length)))) else none
  | _=>none
 | _=>none
theorem zOr {t:TypeId}{i:TypeInfo}{x:Value}{b off:Nat}{e:TypeId}{cur:Array Value}(hi:P.info? t=some i)(hsz:x.cells.size=i.size)(h1:∀u∈x.cells.toList,one u)
 (hh:w.heap[b]?=some (.cells cur e (0,0)))(hfit:off+x.cells.size≤cur.size) :
 (Instr.storeAt t (.pointer (some ⟨b,off,none⟩)) x).run P w=.ok () (w.setRow b (cur.toList.take off++x.cells.toList++cur.toList.drop (off+x.cells.size)).toArray):=by
 have hst:=run_storeCells_at P b off e x.cells.toList 0 cur w hh (by simpa using hfit) h1;simp only[Nat.add_zero,Array.length_toList]at hst;simp[Instr.storeAt,Instr.sureAddr,storeVar,jZ hi,hsz,hst]
theorem zV3 {o:Oper}{t:TypeId}{x v:Operand}{i:TypeInfo}{cs:List A} {σ':St}(ho:o.op=.store t x v)(hi:P.info? t=some i)(he:qK H L N env a.tmps)(hs:RelSt H L σ w)
 (hc:cellsOf (ev env v)=some cs)(hn:cs.length=i.size)(hst:stA σ cs (ev env x)=some σ') :
 ∃w',(execOp a.eval o).run P w=.ok .skip w'∧Nxt H L w H L σ' w':=by
 obtain⟨g1,g2⟩:=zFh (qM he v) hc;have hlen:=g1.length;have hx:=qM he x;have hsz:(a.eval v).cells.size=i.size:=by rw[←Array.length_toList,hlen,hn]
 have fin:∀b off e cur,a.eval x=.pointer (some ⟨b,off,none⟩)→w.heap[b]?=some (.cells cur e (0,0))→off+(a.eval v).cells.size≤cur.size →
  (execOp a.eval o).run P w=.ok .skip (w.setRow b (cur.toList.take off++(a.eval v).cells.toList++cur.toList.drop (off+(a.eval v).cells.size)).toArray):=by
  intro b off e cur hv hh hfit;unfold execOp;simp only[ho,hv,Sem.run_bind,zOr hi hsz g2 hh hfit,Result.andThen_ok,Sem.run_pure]
 unfold stA at hst;split at hst<;>try (cases hst; done)
 ·rename_i l off hxe;split at hst<;>try (cases hst; done)
  rename_i ds hds;split at hst<;>try (cases hst; done)
  rename_i hfit;cases hst;rw[hxe]at hx;simp only[Rel]at hx;obtain⟨li,b,e1,e2,e3,hv⟩:=hx;have hob:=hs.obj l li _ e1 hds;simp only[zS]at hob;obtain⟨_,b',vs,e,hb',hh,hr,h1,hH⟩:=hob;rw[e2]at hb';cases hb';have hvl:=hr.length;refine⟨_,fin b off e _ hv hh (by simp only[List.size_toArray]; omega),?_⟩;refine zF6 hs e1 e2 rfl rfl rfl rfl (fun d=>by rw[hh]; simp) (by simp) (fun k hk=>setRow_other w b k _ hk) (HLe.refl _) (fun _ _ _ h=>.inl h) (fun o' v hv=>by rw[hH]at hv; cases hv) ?_;simp only[zS];refine⟨e3,b,_,e,e2,setRow_heap w b _ _ e _ hh,?_,?_,hH⟩
  ·rw[hsz,←hn];exact((hr.take off).append g1).append (hr.drop _)
  ·intro u hu;simp only[List.mem_append]at hu;rcases hu with (hu | hu) | hu
   ·exact h1 u (List.mem_of_mem_take hu)
   ·exact g2 u hu
   ·exact h1 u (List.mem_of_mem_drop hu)
 ·rename_i l m off hxe;split at hst<;>try (cases hst; done)
  rename_i e sz k ds hds;split at hst<;>try (cases hst; done)
  rename_i hfit;obtain⟨rfl,hfit⟩:=hfit;cases hst;rw[hxe]at hx;simp only[Rel]at hx;obtain⟨_,li,e1,e2,e3,hv⟩:=hx;have hob:=hs.obj l li _ e1 hds;simp only[zS]at hob;obtain⟨_,hln,hcl,hob⟩:=hob;obtain⟨b,hb,hv⟩:=hv hln.symm;rcases hob with ⟨h0,_⟩ | ⟨b',cur,hb',hh,k1,k2,k3,k4,k5,k6⟩
  ·rw[hb]at h0; cases h0
  ·rw[hb]at hb';cases hb';have hmc:m*sz≤cur.size:=by rw[k3]; exact Nat.mul_le_mul_right _ k1
   have hcs:off+(a.eval v).cells.size≤cur.size:=by rw[hsz,←hn]; omega
   refine⟨_,fin b off e _ hv hh hcs,?_⟩;refine zF6 hs e1 hb rfl rfl rfl rfl (fun d=>by rw[hh]; simp) (by simp) (fun k hk=>setRow_other w b k _ hk) (HLe.refl _) (fun _ _ _ h=>.inl h) (fun o' v hv=>by rw[k6]at hv; cases hv) ?_;have htake:(cur.toList.take off++(a.eval v).cells.toList++cur.toList.drop (off+(a.eval v).cells.size)).take (m*sz) =
    (cur.toList.take (m*sz)).take off++(a.eval v).cells.toList++(cur.toList.take (m*sz)).drop (off+(a.eval v).cells.size):=by
    have hl1:(cur.toList.take off++(a.eval v).cells.toList).length=off+(a.eval v).cells.size:=by simp; omega
    have hle2:off+(a.eval v).cells.size≤m*sz:=by rw[hsz,←hn,←hcl]; exact hfit
    rw[List.take_append,hl1,List.take_of_length_le (by rw[hl1]; exact hle2),List.take_take,Nat.min_eq_left (by omega),List.drop_take]
   simp only[zS];refine⟨e2,hln,by simp; omega,.inr ⟨b,_,hb,setRow_heap w b _ _ e _ hh,k1,k2,by simp; omega,?_,?_,k6⟩⟩
   ·rw[htake,hsz,←hn];exact((k4.take off).append g1).append (k4.drop _)
   ·rw[htake];intro u hu;simp only[List.mem_append]at hu;rcases hu with (hu | hu) | hu
    ·exact k5 u (List.mem_of_mem_take hu)
    ·exact g2 u hu
    ·exact k5 u (List.mem_of_mem_drop hu)
end
end Go.Abs
