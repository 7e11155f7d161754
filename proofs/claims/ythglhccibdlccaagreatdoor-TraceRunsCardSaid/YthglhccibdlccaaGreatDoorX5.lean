/-
  All operations that leave the state alone, in one theorem; how the state goes on when memory is made or written.
  How the state goes on when a box or a row is written, and when a row grows.
  append.
-/
import Derived.Test.YthglhccibdlccaaGreatDoorX4
import Derived.Laws.CopyRow
import Derived.Laws.Tables
set_option linter.unusedVariables false
set_option linter.unusedSimpArgs false
namespace Go.Abs
section
variable {P:Program}{H:Mem}{L:List LI} {σ : St}{w:World}{N:Nat}{env:Env}{a:Act}
theorem zQc {o:Oper}{k:KOp}{p:Prop}{r:A}(hc:zAj P o=some k)(h:zO env σ k=some (p,r))(hp:p)(he:qI H L N env a.tmps)(hs:RelSt H L σ w) :
 zAl P H L w a o r:=by
 unfold zAj at hc;split at hc
 case h_1 x heq=>cases hc; cases h; exact zLU (.inl heq) he
 case h_2 x heq=>cases hc; cases h; exact zLU (.inr heq) he
 case h_3 c x y heq =>
  cases hc;simp only[zO]at h;split at h<;>try (cases h; done)
  rename_i t hce;cases h;exact zPI heq he hce
 case h_4 e heq =>
  simp only[Option.bind_eq_bind,Option.bind_eq_some_iff]at hc;obtain⟨i,_,z,_,hc⟩:=hc;split at hc
  ·cases hc; simp[zO]at h
  ·cases hc
 case h_5 e x heq=>cases hc; simp[zO]at h
 case h_6 t x heq =>
  simp only[Option.bind_eq_bind,Option.bind_eq_some_iff,Option.some.injEq]at hc;obtain⟨u,hu,i,hi,rfl⟩:=hc;simp only[zO,Option.map_eq_some_iff,Prod.mk.injEq]at h;obtain⟨r',hr,_,rfl⟩:=h;exact zVd heq hu hi he hs hr
 case h_7 t x y heq =>
  simp only[Option.bind_eq_bind,Option.bind_eq_some_iff,Option.some.injEq]at hc;obtain⟨i,hi,rfl⟩:=hc;simp[zO]at h
 case h_8 s x f heq =>
  split at hc<;>try (cases hc; done)
  rename_i fs hfs;simp only[Option.bind_eq_bind,Option.bind_eq_some_iff]at hc;obtain⟨g,hg,i,hi,hc⟩:=hc;split at hc<;>try (cases hc; done)
  rename_i h0;cases hc;exact zPF heq hfs hg hi h0 he hs h
 case h_9 t x i heq =>
  split at hc<;>try (cases hc; done)
  ·rename_i e hu;simp only[Option.bind_eq_bind,Option.bind_eq_some_iff,Option.some.injEq]at hc;obtain⟨ti,hi,rfl⟩:=hc;exact zSq heq hu hi he hs h hp
  ·rename_i n e hu;simp only[Option.bind_eq_bind,Option.bind_eq_some_iff,Option.some.injEq]at hc;obtain⟨ti,hi,rfl⟩:=hc;exact zMJ heq hu hi he h hp
 case h_10 t x f heq =>
  split at hc<;>try (cases hc; done)
  rename_i fs hfs;simp only[Option.bind_eq_bind,Option.bind_eq_some_iff,Option.some.injEq]at hc;obtain⟨g,hg,u,hu,i,hi,rfl⟩:=hc;exact zSp heq hfs hg hu hi he h
 case h_11 t x i heq =>
  split at hc<;>try (cases hc; done)
  rename_i n e hut;simp only[Option.bind_eq_bind,Option.bind_eq_some_iff,Option.some.injEq]at hc;obtain⟨u,hu,j,hj,rfl⟩:=hc;exact zVc heq hut hu hj he h hp
 case h_12 op t x y t' heq =>
  split at hc<;>try (cases hc; done)
  all_goals try (cases hc; exact zSm heq he h hp)
  ·split at hc
   ·rename_i k hk;cases hc;exact zLQ (ng:=false) heq hk he h
   ·split at hc
    ·rename_i hn;cases hc;exact zLR (ng:=false) heq hn he h hp
    ·rcases zFW hc with ⟨hn,rfl⟩ | ⟨ks,hk,rfl⟩
     ·exact zLS (ng:=false) heq hn he h
     ·rcases hk with hk | hk
      ·exact zLP (ng:=false) heq hk he h
      ·exact zLO (ng:=false) heq hk he h
  ·split at hc
   ·rename_i k hk;cases hc;exact zLQ (ng:=true) heq hk he h
   ·split at hc
    ·rename_i hn;cases hc;exact zLR (ng:=true) heq hn he h hp
    ·rcases zFW hc with ⟨hn,rfl⟩ | ⟨ks,hk,rfl⟩
     ·exact zLS (ng:=true) heq hn he h
     ·rcases hk with hk | hk
      ·exact zLP (ng:=true) heq hk he h
      ·exact zLO (ng:=true) heq hk he h
 case h_13 op t x heq =>
  split at hc<;>try (cases hc; done)
  ·cases hc; exact zSt heq he h
  ·cases hc; exact zSu heq he h
 case h_14 t i heq=>cases hc; exact zSo heq he h
 case h_15 f first cap heq=>cases hc; cases h; exact zSn heq he
 case h_16 t x lo hi mx heq =>
  split at hc<;>try (cases hc; done)
  rename_i e hu;simp only[Option.bind_eq_bind,Option.bind_eq_some_iff,Option.some.injEq]at hc;obtain⟨i,hi,rfl⟩:=hc;exact zSv heq hu hi he h hp
 case h_17 t parts heq =>
  split at hc<;>try (cases hc; done)
  ·rename_i fs hu;simp only[Option.bind_eq_bind,Option.bind_eq_some_iff]at hc;obtain⟨i,hi,z,hz,hc⟩:=hc;split at hc<;>try (cases hc; done)
   rename_i hb;simp only[Bool.and_eq_true]at hb;simp only[Option.bind_eq_some_iff,Option.some.injEq]at hc;obtain⟨ps,hps,rfl⟩:=hc;exact zJf heq hi hz hb.1 hps (.inl ⟨fs,hu,hb.2,rfl⟩) he h
  ·rename_i n e hu;simp only[Option.bind_eq_bind,Option.bind_eq_some_iff]at hc;obtain⟨i,hi,z,hz,j,hj,hc⟩:=hc;split at hc<;>try (cases hc; done)
   rename_i hb;simp only[Option.bind_eq_some_iff,Option.some.injEq]at hc;obtain⟨ps,hps,rfl⟩:=hc;exact zJf heq hi hz hb hps (.inr ⟨n,e,j,hu,hj,rfl⟩) he h
 case h_18 t len parts heq =>
  split at hc<;>try (cases hc; done)
  simp only[Option.bind_eq_bind,Option.bind_eq_some_iff]at hc;obtain⟨j,hj,z,hz,hc⟩:=hc;split at hc<;>try (cases hc; done)
  simp only[Option.bind_eq_some_iff,Option.some.injEq]at hc;obtain⟨ps,hps,rfl⟩:=hc;simp[zO]at h
 case h_19 c heq =>
  split at hc
  ·split at hc
   ·split at hc
    ·cases hc; simp[zO]at h
    ·cases hc
   ·cases hc; simp[zO]at h
   ·cases hc
  ·rename_i hcal;split at hc<;>try (cases hc; done)
   rename_i x t ha ht;split at hc<;>try (cases hc; done)
   ·rename_i e hu;cases hc;exact zSr heq hcal ha ht hu he hs h
   ·rename_i hu;cases hc;exact zPG heq hcal ha ht hu he h
  ·split at hc<;>try (cases hc; done)
   simp only[Option.map_eq_some_iff]at hc;obtain⟨nk,_,rfl⟩:=hc;simp[zO]at h
  ·split at hc<;>try (cases hc; done)
   split at hc<;>try (cases hc; done)
   simp only[Option.bind_eq_bind,Option.bind_eq_some_iff]at hc;obtain⟨j,hj,z,hz,hc⟩:=hc;split at hc<;>try (cases hc; done)
   cases hc;simp[zO]at h
  ·rename_i hcal; cases hc; exact zNT (mx:=true) heq hcal he h
  ·rename_i hcal; cases hc; exact zNT (mx:=false) heq hcal he h
  ·split at hc<;>try (cases hc; done)
   split at hc<;>try (cases hc; done)
   split at hc<;>try (cases hc; done)
   simp only[Option.bind_eq_bind,Option.bind_eq_some_iff]at hc;obtain⟨j,hj,z,hz,hc⟩:=hc;split at hc<;>try (cases hc; done)
   cases hc;simp[zO]at h
  ·cases hc
 case h_20 x heq=>cases hc; exact zPH heq he h
 case h_21 t heq =>
  simp only[Option.map_eq_some_iff]at hc;obtain⟨nk,_,rfl⟩:=hc;simp[zO]at h
 case h_22 t x k ok heq =>
  split at hc<;>try (cases hc; done)
  simp only[Option.bind_eq_bind,Option.bind_eq_some_iff,Option.some.injEq]at hc;obtain⟨nk,_,j,_,z,_,rfl⟩:=hc;simp[zO]at h
 case h_23 t m k v heq =>
  simp only[Option.map_eq_some_iff]at hc;obtain⟨nk,_,rfl⟩:=hc;simp[zO]at h
 case h_24 t x heq =>
  split at hc<;>try (cases hc; done)
  cases hc;simp[zO]at h
 case h_25 x heq=>cases hc; simp[zO]at h
 case h_26 x heq=>cases hc; simp[zO]at h
 case h_27 t x heq =>
  split at hc<;>try (cases hc; done)
  rename_i u hu;split at hc<;>try (cases hc; done)
  rename_i hn;cases hc;exact zSs heq hu hn he h
 case h_28=>cases hc; simp[zO]at h
 case h_29 t x y heq =>
  split at hc<;>try (cases hc; done)
  simp only[Option.bind_eq_bind,Option.bind_eq_some_iff]at hc;obtain⟨j,hj,z,hz,hc⟩:=hc;split at hc<;>try (cases hc; done)
  cases hc;simp[zO]at h
 case h_30 s d x heq =>
  split at hc<;>try (cases hc; done)
  ·split at hc<;>try (cases hc; done)
   cases hc;simp[zO]at h
  ·split at hc<;>try (cases hc; done)
   split at hc<;>try (cases hc; done)
   cases hc;simp[zO]at h
 case h_31=>cases hc
structure Nxt (H:Mem)(L:List LI)(w:World)(H':Mem)(L':List LI) (σ':St)(w':World):Prop where
 st:RelSt H' L' σ' w'
 step:Step (zO4 L) w H w' H'
 lle:LLe L L'
 own:∀b,zO4 L' b→zO4 L b∨w.heap.size≤b
theorem Nxt.refl (hs:RelSt H L σ w):Nxt H L w H L σ w:=⟨hs,Step.refl _ _ _,LLe.refl _,fun _ h=>.inl h⟩
theorem Nxt.trans {H' H'':Mem}{L' L'':List LI} {σ' σ'':St}{w' w'':World}(h:Nxt H L w H' L' σ' w')(k:Nxt H' L' w' H'' L'' σ'' w''):Nxt H L w H'' L'' σ'' w'' :=
 ⟨k.st,h.step.trans k.step h.own,h.lle.trans k.lle,fun b hb=>(k.own b hb).elim (h.own b) fun hb=>.inr (Nat.le_trans h.step.size hb)⟩
theorem Inv.next {O:Nat→Prop}{w0:World}{H0:Mem}{H':Mem}{L':List LI} {σ':St}{w':World}(h:Inv O w0 H0 H L σ w)(k:Nxt H L w H' L' σ' w'):Inv O w0 H0 H' L' σ' w' :=
 ⟨k.st,h.step.trans k.step h.own,fun b hb=>(k.own b hb).elim (h.own b) fun hb=>.inr (Nat.le_trans h.step.size hb)⟩
theorem zW.carry {H':Mem}{L':List LI}{w':World}{li:LI}{o:AObj}(h:zW H L w li o)(hw:∀b,li.block=some b→w'.heap[b]?=w.heap[b]?)(hh:HLe H H')(hl:LLe L L')
 (hb:∀b,li.block=some b→∀o,H' b o=H b o):zW H' L' w' li o:=by
 cases o with
 | dead=>trivial
 | box cs =>
  simp only[zW]at h⊢;obtain⟨h0,b,vs,e,h1,h2,h3,h4,h5⟩:=h;exact⟨h0,b,vs,e,h1,by rw[hw b h1]; exact h2,zX.mono hh hl _ h3,h4,fun o=>by rw[hb b h1]; exact h5 o⟩
 | row fz e sz n cs =>
  simp only[zW]at h⊢;obtain⟨h0,h1,h2,h3⟩:=h;refine⟨h0,h1,h2,?_⟩;rcases h3 with h3 | ⟨b,cur,g1,g2,g3,g4,g5,g6,g7,g8⟩
  ·exact .inl h3
  ·refine .inr ⟨b,cur,g1,by rw[hw b g1]; exact g2,g3,g4,g5,zX.mono hh hl _ g6,g7,?_⟩;cases fz with
   | false=>exact fun o=>by rw[hb b g1]; exact g8 o
   | true=>exact⟨g8.1.mono hh,fun o ho=>by rw[hb b g1]; exact g8.2 o ho⟩
 | lp b r M es =>
  simp only[zW]at h⊢;obtain⟨h0,h1,tmps,h2,h3,h4⟩:=h;exact⟨h0,h1,tmps,by rw[hw b h1]; exact h2,h3,h4.mono hh hl⟩
 | mp fresh nk es =>
  simp only[zW]at h⊢;obtain⟨h0,b,ents,ck,h1,h2,h3,h4⟩:=h;exact⟨h0,b,ents,ck,h1,by rw[hw b h1]; exact h2,h3.mono hh hl,h4⟩
 | it m n met =>
  simp only[zW]at h⊢;obtain⟨h0,b,mb,lm,h1,h2,h3,h4,h5⟩:=h;obtain⟨lm',e',hlm⟩:=hl _ _ h2;rcases hlm with rfl | ⟨hr,_⟩ | ⟨hr,_⟩
  ·exact⟨h0,b,mb,_,h1,e',h3,h4,by rw[hw b h1]; exact h5⟩
  ·rw[h4]at hr; cases hr
  ·rw[h3]at hr; cases hr
 | rsv=>exact h
theorem zUx {w w':World}{b:Nat}(hkeep:∀k,k≠b→w'.heap[k]?=w.heap[k]?)(hb:∀d,w.heap[b]?≠some (.deferred d))(k:Nat)(d:Option (List Deferred))(h:w.heap[k]?=some (.deferred d)):w'.heap[k]?=some (.deferred d):=by
 by_cases hk:k=b
 ·subst hk; exact(hb d h).elim
 ·rw[hkeep k hk]; exact h
theorem zDH {w w':World}(hkeep:∀k,k<w.heap.size→w'.heap[k]?=w.heap[k]?)(k:Nat)(d:Option (List Deferred))(h:w.heap[k]?=some (.deferred d)):w'.heap[k]?=some (.deferred d):=by rw[hkeep k (Array.getElem?_eq_some_iff.1 h).1]; exact h
theorem RelSt.heap_eq {w':World}(h:RelSt H L σ w)(hw:w'.heap=w.heap):RelSt H L σ w':=by
 have hc:∀a,w'.cell? a=w.cell? a:=fun a=>by simp[World.cell?,hw]
 exact⟨fun b o v hv=>by rw[hc]; exact h.pers b o v hv,h.len,fun i l o h1 h2=>(h.obj i l o h1 h2).carry (fun b _=>by rw[hw]) (HLe.refl _) (LLe.refl _) (fun _ _ _=>rfl),h.inj,
  fun i l b h1 h2=>by rw[hw]; exact h.lt i l b h1 h2⟩
theorem RelSt.h_lt (h:RelSt H L σ w){b o:Nat}{v:Value}(hv:H b o=some v):b<w.heap.size:=World.block_lt_of_cell? w _ (h.pers b o v hv)
def zMK (H:Mem)(B:Nat)(us:List Value):Mem:=⟨fun b o=>match H b o with
 | some v=>some v
 | none=>if b=B then us[o]? else none,fun b o v h=>by simp only[H.2 b o v h]⟩
theorem zEC {H:Mem}{B:Nat}{us:List Value}(h:∀o v,H B o=some v→us[o]?=some v)(b o:Nat):zMK H B us b o=if b=B then us[o]? else H b o:=by
 simp only[zMK];cases hh:H b o with
 | some v =>
  simp only;split
  ·rename_i e; subst e; rw[h o v hh]
  ·rfl
 | none=>rfl
theorem RelSt.fresh (hs:RelSt H L σ w)(us:List Value):∀o v,H w.heap.size o=some v→us[o]?=some v:=fun o v hv=>by have:=hs.h_lt hv;omega
theorem zO0 (hs:RelSt H L σ w)(us:List Value)(e:TypeId):Nxt H L w (zMK H w.heap.size us) L σ (w.alloc (.cells us.toArray e))∧At (zMK H w.heap.size us) w.heap.size 0 us:=by
 have hA:=zEC (hs.fresh us);have hle:HLe H (zMK H w.heap.size us):=fun b o v hv=>by have:=hs.h_lt hv;simp only[hA];rw[if_neg (by omega)];exact hv
 refine⟨⟨⟨fun b o v hv=>?_,hs.len,fun i l o h1 h2=>?_,hs.inj,fun i l b h1 h2=>?_⟩,⟨rfl,rfl,rfl,by simp,fun k hk _=>heap_alloc_old w _ (h:=hk),hle,fun b o v hv=>?_,Nat.le_refl _,zDH (heap_alloc_old w _)⟩,LLe.refl _,fun b hb=>.inl hb⟩,?_⟩
 ·simp only[hA]at hv;split at hv
  ·rename_i hb;subst hb;rw[World.cell?_alloc_new]
   simpa using hv
  ·rw[World.cell?_alloc_lt _ _ _ (hs.h_lt hv)];exact hs.pers b o v hv
 ·refine(hs.obj i l o h1 h2).carry (fun b hb=>heap_alloc_old w _ (h:=hs.lt i l b h1 hb)) hle (LLe.refl _) (fun b hb o'=>?_);have:=hs.lt i l b h1 hb;simp only[hA];rw[if_neg (by omega)]
 ·have:=hs.lt i l b h1 h2;simp;omega
 ·simp only[hA]at hv;split at hv
  ·rename_i hb; exact .inr (.inr (by omega))
  ·exact .inl hv
 ·intro i u hu;simp[hA,hu]
theorem zXW (hs:RelSt H L σ w){cs:List A}{us:List Value}(e:TypeId)(hr:zX H L cs us)(h1:∀u∈us,one u) :
 Nxt H L w H (L++[⟨some w.heap.size,0,0,false⟩]) (σ++[.box cs]) (w.alloc (.cells us.toArray e)):=by
 have hll:=LLe.append L [⟨some w.heap.size,0,0,false⟩];have hget:∀{i:Nat} {l:LI},(L++[⟨some w.heap.size,0,0,false⟩])[i]?=some l→L[i]?=some l∨(i=L.length∧l=⟨some w.heap.size,0,0,false⟩):=by
  intro i l h;rcases Nat.lt_or_ge i L.length with hi | hi
  ·rw[List.getElem?_append_left hi]at h; exact .inl h
  ·rw[List.getElem?_append_right hi]at h;have h0:i-L.length=0:=by
    rcases Nat.eq_zero_or_pos (i-L.length)with h0 | h0
    ·exact h0
    ·rw[List.getElem?_eq_none (by simp; omega)]at h; cases h
   rw[h0]at h;simp only[List.getElem?_cons_zero,Option.some.injEq]at h;exact .inr ⟨by omega,h.symm⟩
 refine⟨⟨fun b o v hv=>?_,by simp[hs.len],fun i l o hL hσ=>?_,fun i j l l' b hi hj hb hb'=>?_,fun i l b hL hb=>?_⟩,⟨rfl,rfl,rfl,by simp,fun k hk _=>heap_alloc_old w _ (h:=hk),HLe.refl _,fun b o v hv=>.inl hv,Nat.le_refl _,zDH (heap_alloc_old w _)⟩,hll,fun b ⟨i,l,hL,hb⟩=>?_⟩
 ·rw[World.cell?_alloc_lt _ _ _ (hs.h_lt hv)];exact hs.pers b o v hv
 ·rcases hget hL with hL' | ⟨rfl,rfl⟩
  ·have hi:i<L.length:=(List.getElem?_eq_some_iff.1 hL').1;rw[List.getElem?_append_left (by rw[←hs.len]; exact hi)]at hσ;exact(hs.obj i l o hL' hσ).carry (fun b hb=>heap_alloc_old w _ (h:=hs.lt i l b hL' hb)) (HLe.refl _) hll (fun _ _ _=>rfl)
  ·rw[List.getElem?_append_right (by rw[hs.len]; exact Nat.le_refl _)]at hσ;simp only[hs.len,Nat.sub_self,List.getElem?_cons_zero,Option.some.injEq]at hσ;subst hσ;simp only[zW];refine⟨trivial,w.heap.size,us,e,rfl,heap_alloc_new w _,zX.mono (HLe.refl _) hll _ hr,h1,fun o=>?_⟩;cases hH:H w.heap.size o with
   | none=>rfl
   | some v=>have:=hs.h_lt hH; omega
 ·rcases hget hi with hi' | ⟨rfl,rfl⟩
  ·rcases hget hj with hj' | ⟨rfl,rfl⟩
   ·exact hs.inj i j l l' b hi' hj' hb hb'
   ·have:=hs.lt i l b hi' hb;simp only[Option.some.injEq]at hb';omega
  ·rcases hget hj with hj' | ⟨rfl,rfl⟩
   ·have:=hs.lt j l' b hj' hb';simp only[Option.some.injEq]at hb;omega
   ·rfl
 ·rcases hget hL with hL' | ⟨rfl,rfl⟩
  ·have:=hs.lt i l b hL' hb;simp;omega
  ·simp only[Option.some.injEq]at hb;simp;omega
 ·rcases hget hL with hL' | ⟨rfl,rfl⟩
  ·exact .inl ⟨i,l,hL',hb⟩
  ·simp only[Option.some.injEq]at hb;exact .inr (by omega)
end
end Go.Abs
namespace Go.Abs
section
variable {P:Program}{H:Mem}{L:List LI} {σ : St}{w:World}{N:Nat}{env:Env}{a:Act}
theorem zGk (hs:RelSt H L σ w){l:Nat}{li:LI}{b:Nat}{o:AObj}{H':Mem}{w':World}(hl:L[l]?=some li)(hb:li.block=some b)
 (hos:w'.os=w.os)(htape:w'.tape=w.tape)(hout:w'.output=w.output)(hdr:w'.drawn=w.drawn)(hnd:∀d,w.heap[b]?≠some (.deferred d))(hsz:w'.heap.size=w.heap.size)(hkeep:∀k,k≠b→w'.heap[k]?=w.heap[k]?)
 (hle:HLe H H')(hnew:∀b' o' v,H' b' o'=some v→H b' o'=some v∨b'=b)(hpers:∀o' v,H' b o'=some v→w'.cell? ⟨b,o',none⟩=some v)
 (ho:zW H' L w' li o):Nxt H L w H' L (σ.set l o) w':=by
 have hne:∀(i:Nat) l' b',L[i]?=some l'→l'.block=some b'→i≠l→b'≠b:=fun i l' b' h1 h2 hi e=>hi (hs.inj i l l' li b' h1 hl h2 (by rw[hb,e]))
 refine⟨⟨fun b' o' v hv=>?_,by simp[hs.len],fun i l' o' hL hσ=>?_,hs.inj,fun i l' b' h1 h2=>by rw[hsz]; exact hs.lt i l' b' h1 h2⟩,
  ⟨hos,htape,hout,by rw[hsz]; exact Nat.le_refl _,fun k _ hk=>hkeep k (fun e=>hk ⟨l,li,hl,by rw[hb,e]⟩),hle,fun b' o' v hv=>?_,by rw[hdr]; exact Nat.le_refl _,zUx hkeep hnd⟩,LLe.refl _,fun _ h=>.inl h⟩
 ·by_cases hbb:b'=b
  ·subst hbb; exact hpers o' v hv
  ·rcases hnew b' o' v hv with h1 | h1
   ·have:=hs.pers b' o' v h1;simp only[World.cell?]at this ⊢;rw[hkeep b' hbb];exact this
   ·exact(hbb h1).elim
 ·by_cases hi:i=l
  ·subst hi;rw[hl]at hL;cases hL;rw[List.getElem?_set_self (by rw[←hs.len]; exact(List.getElem?_eq_some_iff.1 hl).1)]at hσ;cases hσ;exact ho
  ·rw[List.getElem?_set_ne (Ne.symm hi)]at hσ;refine(hs.obj i l' o' hL hσ).carry (fun b' hb'=>hkeep b' (hne i l' b' hL hb' hi)) hle (LLe.refl _) (fun b' hb' o''=>?_);have hbne:=hne i l' b' hL hb' hi;cases h1:H b' o'' with
   | some v=>exact hle _ _ _ h1
   | none =>
    cases h2:H' b' o'' with
    | none=>rfl
    | some v =>
     rcases hnew b' o'' v h2 with h3 | h3
     ·rw[h1]at h3; cases h3
     ·exact(hbne h3).elim
 ·rcases hnew b' o' v hv with h1 | h1
  ·exact .inl h1
  ·exact .inr (.inl ⟨l,li,hl,by rw[hb,h1]⟩)
def stA (σ : St)(cs:List A):A→Option St
 | .ptr l off=>match σ[l]? with
  | some (.box ds)=>if off+cs.length≤ds.length then some (σ.set l (.box (ds.take off++cs++ds.drop (off+cs.length)))) else none
  | _=>none
 | .rwp l m off=>match σ[l]? with
  | some (.row false e sz k ds)=>if m=k∧off+cs.length≤ds.length then some (σ.set l (.row false e sz k (ds.take off++cs++ds.drop (off+cs.length)))) else none
  | _=>none
 | _=>none
theorem zOI {t:TypeId}{i:TypeInfo}{x:Value}{b off:Nat}{e:TypeId}{cur:Array Value}(hi:P.info? t=some i)(hsz:x.cells.size=i.size)(h1:∀u∈x.cells.toList,one u)
 (hh:w.heap[b]?=some (.cells cur e (0,0)))(hfit:off+x.cells.size≤cur.size) :
 (Instr.storeAt t (.pointer (some ⟨b,off,none⟩)) x).run P w=.ok () (w.setRow b (cur.toList.take off++x.cells.toList++cur.toList.drop (off+x.cells.size)).toArray):=by
 have hst:=run_storeCells_at P b off e x.cells.toList 0 cur w hh (by simpa using hfit) h1;simp only[Nat.add_zero,Array.length_toList]at hst;simp[Instr.storeAt,Instr.sureAddr,storeVar,yE hi,hsz,hst]
theorem zWd {o:Oper}{t:TypeId}{x v:Operand}{i:TypeInfo}{cs:List A} {σ':St}(ho:o.op=.store t x v)(hi:P.info? t=some i)(he:qI H L N env a.tmps)(hs:RelSt H L σ w)
 (hc:cellsOf (ev env v)=some cs)(hn:cs.length=i.size)(hst:stA σ cs (ev env x)=some σ') :
 ∃w',(execOp a.eval o).run P w=.ok .skip w'∧Nxt H L w H L σ' w':=by
 obtain⟨g1,g2⟩:=zFD (qR he v) hc;have hlen:=g1.length;have hx:=qR he x;have hsz:(a.eval v).cells.size=i.size:=by rw[←Array.length_toList,hlen,hn]
 have fin:∀b off e cur,a.eval x=.pointer (some ⟨b,off,none⟩)→w.heap[b]?=some (.cells cur e (0,0))→off+(a.eval v).cells.size≤cur.size →
  (execOp a.eval o).run P w=.ok .skip (w.setRow b (cur.toList.take off++(a.eval v).cells.toList++cur.toList.drop (off+(a.eval v).cells.size)).toArray):=by
  intro b off e cur hv hh hfit;unfold execOp;simp only[ho,hv,Sem.run_bind,zOI hi hsz g2 hh hfit,Result.andThen_ok,Sem.run_pure]
 unfold stA at hst;split at hst<;>try (cases hst; done)
 ·rename_i l off hxe;split at hst<;>try (cases hst; done)
  rename_i ds hds;split at hst<;>try (cases hst; done)
  rename_i hfit;cases hst;rw[hxe]at hx;simp only[Rel]at hx;obtain⟨li,b,e1,e2,e3,hv⟩:=hx;have hob:=hs.obj l li _ e1 hds;simp only[zW]at hob;obtain⟨_,b',vs,e,hb',hh,hr,h1,hH⟩:=hob;rw[e2]at hb';cases hb';have hvl:=hr.length;refine⟨_,fin b off e _ hv hh (by simp only[List.size_toArray]; omega),?_⟩;refine zGk hs e1 e2 rfl rfl rfl rfl (fun d=>by rw[hh]; simp) (by simp) (fun k hk=>setRow_other w b k _ hk) (HLe.refl _) (fun _ _ _ h=>.inl h) (fun o' v hv=>by rw[hH]at hv; cases hv) ?_;simp only[zW];refine⟨e3,b,_,e,e2,setRow_heap w b _ _ e _ hh,?_,?_,hH⟩
  ·rw[hsz,←hn];exact((hr.take off).append g1).append (hr.drop _)
  ·intro u hu;simp only[List.mem_append]at hu;rcases hu with (hu | hu) | hu
   ·exact h1 u (List.mem_of_mem_take hu)
   ·exact g2 u hu
   ·exact h1 u (List.mem_of_mem_drop hu)
 ·rename_i l m off hxe;split at hst<;>try (cases hst; done)
  rename_i e sz k ds hds;split at hst<;>try (cases hst; done)
  rename_i hfit;obtain⟨rfl,hfit⟩:=hfit;cases hst;rw[hxe]at hx;simp only[Rel]at hx;obtain⟨_,li,e1,e2,e3,hv⟩:=hx;have hob:=hs.obj l li _ e1 hds;simp only[zW]at hob;obtain⟨_,hln,hcl,hob⟩:=hob;obtain⟨b,hb,hv⟩:=hv hln.symm;rcases hob with ⟨h0,_⟩ | ⟨b',cur,hb',hh,k1,k2,k3,k4,k5,k6⟩
  ·rw[hb]at h0; cases h0
  ·rw[hb]at hb';cases hb';have hmc:m*sz≤cur.size:=by rw[k3]; exact Nat.mul_le_mul_right _ k1
   have hcs:off+(a.eval v).cells.size≤cur.size:=by rw[hsz,←hn]; omega
   refine⟨_,fin b off e _ hv hh hcs,?_⟩;refine zGk hs e1 hb rfl rfl rfl rfl (fun d=>by rw[hh]; simp) (by simp) (fun k hk=>setRow_other w b k _ hk) (HLe.refl _) (fun _ _ _ h=>.inl h) (fun o' v hv=>by rw[k6]at hv; cases hv) ?_;have htake:(cur.toList.take off++(a.eval v).cells.toList++cur.toList.drop (off+(a.eval v).cells.size)).take (m*sz) =
    (cur.toList.take (m*sz)).take off++(a.eval v).cells.toList++(cur.toList.take (m*sz)).drop (off+(a.eval v).cells.size):=by
    have hl1:(cur.toList.take off++(a.eval v).cells.toList).length=off+(a.eval v).cells.size:=by simp; omega
    have hle2:off+(a.eval v).cells.size≤m*sz:=by rw[hsz,←hn,←hcl]; exact hfit
    rw[List.take_append,hl1,List.take_of_length_le (by rw[hl1]; exact hle2),List.take_take,Nat.min_eq_left (by omega),List.drop_take]
   simp only[zW];refine⟨e2,hln,by simp; omega,.inr ⟨b,_,hb,setRow_heap w b _ _ e _ hh,k1,k2,by simp; omega,?_,?_,k6⟩⟩
   ·rw[htake,hsz,←hn];exact((k4.take off).append g1).append (k4.drop _)
   ·rw[htake];intro u hu;simp only[List.mem_append]at hu;rcases hu with (hu | hu) | hu
    ·exact k5 u (List.mem_of_mem_take hu)
    ·exact g2 u hu
    ·exact k5 u (List.mem_of_mem_drop hu)
end
end Go.Abs
namespace Go.Abs
section
variable {P:Program}{H:Mem}{L:List LI} {σ : St}{w:World}{N:Nat}{env:Env}{a:Act}
theorem zJ5 {l:Nat}{li li':LI}(hl:L[l]?=some li)(h1:li.isRow=true)(h2:li'.isRow=true)(h3:li.len<li'.len):LLe L (L.set l li'):=by
 intro i x hx;by_cases hi:i=l
 ·subst hi;rw[hl]at hx;cases hx;exact⟨li',by rw[List.getElem?_set_self (List.getElem?_eq_some_iff.1 hl).1],.inr (.inl ⟨h1,h2,h3⟩)⟩
 ·exact⟨x,by rw[List.getElem?_set_ne (Ne.symm hi)]; exact hx,.inl rfl⟩
theorem zMX (hs:RelSt H L σ w){l:Nat}{li li':LI}{b:Nat}{o:AObj}{H':Mem}{w':World}(hl:L[l]?=some li)(h1:li.isRow=true)(h2:li'.isRow=true)(h3:li.len<li'.len)
 (hb:li'.block=some b)(hold:li.block=some b∨w.heap.size≤b)(hlt:b<w'.heap.size)
 (hos:w'.os=w.os)(htape:w'.tape=w.tape)(hout:w'.output=w.output)(hdr:w.drawn≤w'.drawn)(hnd:∀d,w.heap[b]?≠some (.deferred d))(hsz:w.heap.size≤w'.heap.size)(hkeep:∀k,k<w.heap.size→k≠b→w'.heap[k]?=w.heap[k]?)
 (hle:HLe H H')(hnew:∀b' o' v,H' b' o'=some v→H b' o'=some v∨b'=b)(hpers:∀o' v,H' b o'=some v→w'.cell? ⟨b,o',none⟩=some v)
 (ho:zW H' (L.set l li') w' li' o):Nxt H L w H' (L.set l li') (σ.set l o) w':=by
 have hll:=zJ5 (li':=li') hl h1 h2 h3;have hll1:l<L.length:=(List.getElem?_eq_some_iff.1 hl).1;have hget:∀{i:Nat} {x:LI},(L.set l li')[i]?=some x→(i=l∧x=li')∨(i≠l∧L[i]?=some x):=by
  intro i x hx;by_cases hi:i=l
  ·subst hi;rw[List.getElem?_set_self hll1]at hx;cases hx;exact .inl ⟨rfl,rfl⟩
  ·rw[List.getElem?_set_ne (Ne.symm hi)]at hx;exact .inr ⟨hi,hx⟩
 have hne:∀(i:Nat) l' b',L[i]?=some l'→l'.block=some b'→i≠l→b'≠b:=fun i l' b' g1 g2 hi e=>by
  rcases hold with h | h
  ·exact hi (hs.inj i l l' li b' g1 hl g2 (by rw[h,e]))
  ·have:=hs.lt i l' b' g1 g2; omega
 refine⟨⟨fun b' o' v hv=>?_,by simp[hs.len],fun i l' o' hL hσ=>?_,fun i j x y b' hi hj hx hy=>?_,fun i x b' hi hx=>?_⟩,
  ⟨hos,htape,hout,hsz,fun k hk hn=>hkeep k hk (fun e=>?_),hle,fun b' o' v hv=>?_,hdr,fun k d hk=>by
   have hks:=(Array.getElem?_eq_some_iff.1 hk).1;by_cases hkb:k=b
   ·subst hkb; exact(hnd d hk).elim
   ·rw[hkeep k hks hkb]; exact hk⟩,hll,fun b' ⟨i,x,hi,hx⟩=>?_⟩
 ·by_cases hbb:b'=b
  ·subst hbb; exact hpers o' v hv
  ·rcases hnew b' o' v hv with g | g
   ·have hc:=hs.pers b' o' v g;have hlt':=hs.h_lt g;simp only[World.cell?]at hc ⊢;rw[hkeep b' hlt' hbb];exact hc
   ·exact(hbb g).elim
 ·rcases hget hL with ⟨rfl,rfl⟩ | ⟨hi,hL'⟩
  ·rw[List.getElem?_set_self (by rw[←hs.len]; exact hll1)]at hσ;cases hσ;exact ho
  ·rw[List.getElem?_set_ne (Ne.symm hi)]at hσ;refine(hs.obj i l' o' hL' hσ).carry (fun b' hb'=>hkeep b' (hs.lt i l' b' hL' hb') (hne i l' b' hL' hb' hi)) hle hll (fun b' hb' o''=>?_);have hbne:=hne i l' b' hL' hb' hi;cases g1:H b' o'' with
   | some v=>exact hle _ _ _ g1
   | none =>
    cases g2:H' b' o'' with
    | none=>rfl
    | some v =>
     rcases hnew b' o'' v g2 with g3 | g3
     ·rw[g1]at g3; cases g3
     ·exact(hbne g3).elim
 ·rcases hget hi with ⟨rfl,rfl⟩ | ⟨hi',hi''⟩
  ·rcases hget hj with ⟨rfl,rfl⟩ | ⟨hj',hj''⟩
   ·rfl
   ·rw[hb]at hx; cases hx; exact(hne j y b hj'' hy hj' rfl).elim
  ·rcases hget hj with ⟨rfl,rfl⟩ | ⟨hj',hj''⟩
   ·rw[hb]at hy; cases hy; exact(hne i x b hi'' hx hi' rfl).elim
   ·exact hs.inj i j x y b' hi'' hj'' hx hy
 ·rcases hget hi with ⟨rfl,rfl⟩ | ⟨hi',hi''⟩
  ·rw[hb]at hx; cases hx; exact hlt
  ·exact Nat.lt_of_lt_of_le (hs.lt i x b' hi'' hx) hsz
 ·subst e;rcases hold with h | h
  ·exact hn ⟨l,li,hl,h⟩
  ·omega
 ·rcases hnew b' o' v hv with g | g
  ·exact .inl g
  ·subst g;rcases hold with h | h
   ·exact .inr (.inl ⟨l,li,hl,h⟩)
   ·exact .inr (.inr h)
 ·rcases hget hi with ⟨rfl,rfl⟩ | ⟨hi',hi''⟩
  ·rw[hb]at hx;cases hx;rcases hold with h | h
   ·exact .inl ⟨_,li,hl,h⟩
   ·exact .inr h
  ·exact .inl ⟨i,x,hi'',hx⟩
def zBU (σ : St)(sz:Nat):A→Option (Nat×List A)
 | .nil=>some (0,[])
 | .sl m cs=>some (m,cs)
 | .fsl m cs=>some (m,cs)
 | .row l n=>match σ[l]? with
  | some (.row _ _ s m cs)=>if n=m∧s=sz then some (m,cs) else none
  | _=>none
 | _=>none
theorem zIi (hs:RelSt H L σ w){x:A}{v:Value}{sz m:Nat}{cs:List A}(hx:Rel H L x v)(h:zBU σ sz x=some (m,cs))(hlen:cs.length=m*sz)(hsz:0<sz) :
 ∃ad cap,v=.slice ad m cap∧(m=0∨∃b o,∃us:List Value,ad=some ⟨b,o,none⟩∧zX H L cs us∧us.length=m*sz∧(∀u∈us,one u)∧∀j u,us[j]?=some u→w.cell? ((⟨b,o,none⟩:Addr).add j)=some u):=by
 cases x<;>simp only[zBU]at h<;>try (cases h; done)
 case nil =>
  cases h;simp only[Rel]at hx;exact⟨_,_,hx,.inl rfl⟩
 case sl n ds =>
  cases h;simp only[Rel]at hx;obtain⟨ad,cap,hv,_,_,h3⟩:=hx;refine⟨ad,cap,hv,?_⟩;rcases h3 with ⟨h3,_⟩ | ⟨b,o,us,rfl,g1,g2,g3⟩
  ·exact .inl h3
  ·exact .inr ⟨b,o,us,rfl,g1,by rw[g1.length,hlen],g2,fun j u hu=>by rw[Addr.add_lit]; exact hs.pers _ _ _ (g3 j u hu)⟩
 case fsl n ds =>
  cases h;simp only[Rel]at hx;obtain⟨ad,hv,_,h3⟩:=hx;refine⟨ad,_,hv,?_⟩;rcases h3 with ⟨h3,_⟩ | ⟨b,o,us,rfl,g1,g2,g3⟩
  ·exact .inl h3
  ·exact .inr ⟨b,o,us,rfl,g1,by rw[g1.length,hlen],g2,fun j u hu=>by rw[Addr.add_lit]; exact hs.pers _ _ _ (g3 j u hu)⟩
 case row l n =>
  split at h<;>try (cases h; done)
  rename_i fz e s k ds hds;split at h<;>try (cases h; done)
  rename_i hn;obtain⟨rfl,rfl⟩:=hn;cases h;simp only[Rel]at hx;obtain⟨_,li,e1,e2,e3,hv⟩:=hx;have hob:=hs.obj l li _ e1 hds;simp only[zW]at hob;obtain⟨_,hln,hcl,hob⟩:=hob;have hv:=hv hln.symm;rcases hob with ⟨h0,h00⟩ | ⟨b,cur,hb,hh,k1,k2,k3,k4,k5,_⟩
  ·rw[h0]at hv;exact⟨none,0,by rw[hv,h00],.inl h00⟩
  ·rw[hb]at hv;refine⟨_,_,hv,.inr ⟨b,0,_,rfl,k4,?_,k5,fun j u hu=>?_⟩⟩
   ·simp only[List.length_take,Array.length_toList];rw[k3];exact Nat.min_eq_left (Nat.mul_le_mul_right _ k1)
   ·rw[Addr.add_lit,cell_of_row w b _ cur e (0,0) hh];rw[List.getElem?_take]at hu;split at hu
    ·simpa using hu
    ·cases hu
theorem zCV {t ty e:TypeId}{i:TypeInfo}(ht:P.underlying t=some (.slice e))(hi:P.info? e=some i)(base:Option Addr)(n cap:Nat)(hc:n≤cap)(ad:Option Addr)(c:Nat) :
 (Builtin.append_ #[t,t] ty #[.slice base n cap,.slice ad 0 c]).run P w=.ok (.slice base n cap) w:=by
 have hf:(Builtin.firstCells i.size 0 (.slice ad 0 c)).run P w=.ok #[] w:=by
  cases ad with
  | none=>simp[Builtin.firstCells]
  | some a=>exact run_firstCells_some (P:=P) w i.size 0 a 0 c [] (by simp) (by simp)
 cases base<;>simp[Builtin.append_,run_underlying ht,sizeOf,typeInfo,hi,Builtin.lenOf,hc,hf,storeCells]
def zGt (H:Mem)(fz:Bool)(b:Nat)(us:List Value):Mem:=if fz then zMK H b us else H
theorem zQK {t ty e:TypeId}{i:TypeInfo}{z:Value}(ht:P.underlying t=some (.slice e))(hi:P.info? e=some i)(hz:i.zero=some z)(hzc:yY z.cells.toList=true)(hzs:z.cells.size=i.size)(hsz:0<i.size)
 (hs:RelSt H L σ w){l n:Nat}{fz:Bool}{cs:List A}{s y:Value}(hσ : σ[l]?=some (.row fz e i.size n cs))(hx:Rel H L (.row l n) s)
 {ya:A}{m:Nat}{ys:List A}(hy:Rel H L ya y)(hye:zBU σ i.size ya=some (m,ys))(hyl:ys.length=m*i.size)
 (hm:n+m≤maxLen)(hby:(n+m)*i.bytes≤140737488355328) :
 ∃v' w' H' L',(Builtin.append_ #[t,t] ty #[s,y]).run P w=.ok v' w'∧Nxt H L w H' L' (σ.set l (.row fz e i.size (n+m) (cs++ys))) w'∧HLe H H'∧Rel H' L' (.row l (n+m)) v':=by
 obtain⟨ad,c,rfl,hels⟩:=zIi hs hy hye hyl hsz;have hx0:=hx;simp only[Rel]at hx;obtain⟨hs1,li,e1,e2,e3,hv⟩:=hx;have hob:=hs.obj l li _ e1 hσ;have hob0:=hob;simp only[zW]at hob;obtain⟨_,hln,hcl,hob⟩:=hob;have hv:=hv hln.symm;have hlσ : l < σ.length:=(List.getElem?_eq_some_iff.1 hσ).1;have hlL:l<L.length:=(List.getElem?_eq_some_iff.1 e1).1;by_cases hm0:m=0
 ·subst hm0;have hys:ys=[]:=List.eq_nil_of_length_eq_zero (by simpa using hyl);subst hys;have hset : σ.set l (.row fz e i.size (n+0) (cs++[])) = σ:=by
   simp only[Nat.add_zero,List.append_nil];apply List.ext_getElem?;intro j;by_cases hj:j=l
   ·subst hj; rw[List.getElem?_set_self hlσ,hσ]
   ·rw[List.getElem?_set_ne (Ne.symm hj)]
  refine⟨s,w,H,L,?_,by rw[hset]; exact Nxt.refl hs,HLe.refl _,hx0⟩;rw[hv];cases hb:li.block with
  | none=>exact zCV ht hi none 0 0 (Nat.le_refl _) ad c
  | some b =>
   rcases hob with ⟨h0,_⟩ | ⟨b',cur,hb',hh,k1,_⟩
   ·rw[hb]at h0; cases h0
   ·exact zCV ht hi _ n _ k1 ad c
 ·rcases hels with h0 | ⟨yb,yo,us,rfl,g1,g2,g3,g4⟩
  ·exact(hm0 h0).elim
  ·have hone:∀u∈us,u.oneCell'=true:=g3;have hsm:n+m≤9223372036854775807:=by simp only[maxLen]at hm; omega
   have fresh:∀(olds:List Value) (old:Nat),zX H L cs olds→(∀u∈olds,one u)→olds.length=n*i.size→old<n+m →
    (Builtin.append_ #[t,t] ty #[s,.slice (some ⟨yb,yo,none⟩) m c]).run P w=.ok (.slice (some ⟨w.heap.size,0,none⟩) (n+m) (grownCap w (n+m) old e))
     (w.drew.alloc (.cells (olds.toArray++us.toArray++Builtin.zeroCells z.cells (grownCap w (n+m) old e-(n+m))) e)) →
    ∃v' w' H' L',(Builtin.append_ #[t,t] ty #[s,.slice (some ⟨yb,yo,none⟩) m c]).run P w=.ok v' w'∧Nxt H L w H' L' (σ.set l (.row fz e i.size (n+m) (cs++ys))) w'∧HLe H H'∧Rel H' L' (.row l (n+m)) v':=by
    intro olds old ho1 ho2 ho3 ho4 hrun;have hge:=grownCap_ge w (n+m) old e;have hcm:grownCap w (n+m) old e≤maxLen:=grownCap_le_maxLen w (n+m) old e hm;have hpl:(olds++us).length=(n+m)*i.size:=by rw[List.length_append,ho3,g2,Nat.add_mul]
    have hcur:(olds.toArray++us.toArray++Builtin.zeroCells z.cells (grownCap w (n+m) old e-(n+m))).toList.take ((n+m)*i.size)=olds++us:=by simp only[Array.toList_append,List.append_assoc];rw[←List.append_assoc,←hpl];exact List.take_left
    have hA:=zEC (hs.fresh (olds++us));have hle:HLe H (zGt H fz w.heap.size (olds++us)):=by
     cases fz
     ·exact HLe.refl _
     ·intro b o v hv';have:=hs.h_lt hv';simp only[zGt,if_true,hA];rw[if_neg (by omega)];exact hv'
    have hnx:Nxt H L w (zGt H fz w.heap.size (olds++us)) (L.set l ⟨some w.heap.size,grownCap w (n+m) old e,n+m,true⟩) (σ.set l (.row fz e i.size (n+m) (cs++ys)))
     (w.drew.alloc (.cells (olds.toArray++us.toArray++Builtin.zeroCells z.cells (grownCap w (n+m) old e-(n+m))) e)):=by
     have hnone:∀o,H w.heap.size o=none:=fun o=>by
      cases hH:H w.heap.size o with
      | none=>rfl
      | some v=>have:=hs.h_lt hH; omega
     have hheap:(w.drew.alloc (.cells (olds.toArray++us.toArray++Builtin.zeroCells z.cells (grownCap w (n+m) old e-(n+m))) e)).heap[w.heap.size]?=some (.cells (olds.toArray++us.toArray++Builtin.zeroCells z.cells (grownCap w (n+m) old e-(n+m))) e (0,0)):=heap_alloc_new w.drew _;refine zMX hs e1 e2 rfl (by simp only; omega) rfl (.inr (Nat.le_refl _)) (by simp) rfl rfl rfl (Nat.le_succ _) (fun d=>by simp) (by simp) (fun k hk _=>heap_alloc_old w.drew _ (h:=hk)) hle (fun b' o' v hv'=>?_) (fun o' v hv'=>?_) ?_
     ·cases fz
      ·exact .inl hv'
      ·simp only[zGt,if_true,hA]at hv';split at hv'
       ·rename_i hbb; exact .inr hbb
       ·exact .inl hv'
     ·cases fz
      ·simp only[zGt]at hv'; rw[if_neg (by simp),hnone]at hv'; cases hv'
      ·simp only[zGt,if_true,hA]at hv';rw[cell_of_row _ _ _ _ _ _ hheap];rw[←hcur,List.getElem?_take]at hv';split at hv'
       ·rw[←Array.getElem?_toList]; exact hv'
       ·cases hv'
     ·have hll:=zJ5 (li':=⟨some w.heap.size,grownCap w (n+m) old e,n+m,true⟩) e1 e2 rfl (by simp only; omega);simp only[zW];refine⟨trivial,trivial,by rw[List.length_append,hcl,hyl,Nat.add_mul],.inr ⟨w.heap.size,_,rfl,hheap,hge,hcm,?_,?_,?_,?_⟩⟩
      ·simp only[Array.size_append,List.size_toArray,size_zeroCells,hzs,ho3,g2,←Nat.add_mul]
       congr 1
       omega
      ·rw[hcur];exact zX.mono hle hll _ (ho1.append g1)
      ·rw[hcur];intro u hu;rcases List.mem_append.1 hu with hu | hu
       ·exact ho2 u hu
       ·exact g3 u hu
      ·rw[hcur];cases fz
       ·exact hnone
       ·refine⟨fun j u hu=>by simp[zGt,hA,hu],fun o ho=>?_⟩;simp only[zGt,if_true,hA];exact List.getElem?_eq_none (by rw[hpl]; exact ho)
    refine⟨_,_,_,_,hrun,hnx,hle,?_⟩;simp only[Rel];exact⟨rfl,_,List.getElem?_set_self hlL,rfl,Nat.le_refl _,fun _=>rfl⟩
   rcases hob with ⟨h0,rfl⟩ | ⟨b,cur,hb,hh,k1,k2,k3,k4,k5,k6⟩
   ·rw[h0]at hv;have hcs:cs=[]:=List.eq_nil_of_length_eq_zero (by simpa using hcl);subst hcs;subst hv;have hr:=run_append_nil (P:=P) w t ty e i z ht hi hz ⟨yb,yo,none⟩ m c us g2 g4 (by omega) (by omega) (by simp only[Nat.zero_add]at hby; omega);refine fresh [] 0 jP (by simp) (by simp) (by omega) ?_
    simpa using hr
   ·rw[hb]at hv;simp only at hv;by_cases hroom:n+m≤li.cap
    ·have hfit:n*i.size+us.length≤cur.size:=by rw[g2,k3,←Nat.add_mul]; exact Nat.mul_le_mul_right _ hroom
     have hr:=run_append_room (P:=P) w t ty e i ht hi b n li.cap cur hh ⟨yb,yo,none⟩ m c us g2 g4 hone hroom hfit;have hpl:(cur.toList.take (n*i.size)++us).length=(n+m)*i.size:=by rw[List.length_append,g2,Nat.add_mul,List.length_take,Array.length_toList,Nat.min_eq_left (by omega)]
     have hcur:(cur.toList.take (n*i.size)++us++cur.toList.drop (n*i.size+us.length)).take ((n+m)*i.size)=cur.toList.take (n*i.size)++us:=by rw[←hpl]; exact List.take_left
     have hheap:=setRow_heap w b cur (cur.toList.take (n*i.size)++us++cur.toList.drop (n*i.size+us.length)).toArray e (0,0) hh;have hsame:∀o v,H b o=some v→(cur.toList.take (n*i.size)++us)[o]?=some v:=fun o v hv'=>by
      cases fz
      ·simp only at k6;rw[k6]at hv';cases hv'
      ·simp only at k6;have ho:o<n*i.size:=by
        rcases Nat.lt_or_ge o (n*i.size)with h | h
        ·exact h
        ·rw[k6.2 o h]at hv'; cases hv'
       have hlt:o<(cur.toList.take (n*i.size)).length:=by rw[List.length_take,Array.length_toList,Nat.min_eq_left (by omega)]; exact ho
       rw[List.getElem?_append_left hlt];have:=k6.1 o _ (List.getElem?_eq_getElem hlt);rw[Nat.zero_add,hv']at this;rw[List.getElem?_eq_getElem hlt];exact this.symm
     have hA:=zEC hsame;have hle:HLe H (zGt H fz b (cur.toList.take (n*i.size)++us)):=by
      cases fz
      ·exact HLe.refl _
      ·intro b' o v hv';simp only[zGt,if_true,hA];split
       ·rename_i hbb;subst hbb;simp only at k6;have ho:o<n*i.size:=by
         rcases Nat.lt_or_ge o (n*i.size)with h | h
         ·exact h
         ·rw[k6.2 o h]at hv'; cases hv'
        have hlt:o<(cur.toList.take (n*i.size)).length:=by rw[List.length_take,Array.length_toList,Nat.min_eq_left (by omega)]; exact ho
        rw[List.getElem?_append_left hlt];have:=k6.1 o _ (List.getElem?_eq_getElem hlt);rw[Nat.zero_add,hv']at this;rw[List.getElem?_eq_getElem hlt];exact this.symm
       ·exact hv'
     have hnx:Nxt H L w (zGt H fz b (cur.toList.take (n*i.size)++us)) (L.set l ⟨some b,li.cap,n+m,true⟩) (σ.set l (.row fz e i.size (n+m) (cs++ys)))
      (w.setRow b (cur.toList.take (n*i.size)++us++cur.toList.drop (n*i.size+us.length)).toArray):=by
      refine zMX hs e1 e2 rfl (by simp only; omega) rfl (.inl hb) (by simp; exact hs.lt l li b e1 hb) rfl rfl rfl (Nat.le_refl _) (fun d=>by rw[hh]; simp) (by simp) (fun k _ hk=>setRow_other w b k _ hk) hle (fun b' o' v hv'=>?_) (fun o' v hv'=>?_) ?_
      ·cases fz
       ·exact .inl hv'
       ·simp only[zGt,if_true,hA]at hv';split at hv'
        ·rename_i hbb; exact .inr hbb
        ·exact .inl hv'
      ·cases fz
       ·simp only[zGt]at hv'; rw[if_neg (by simp)]at hv'; simp only at k6; rw[k6]at hv'; cases hv'
       ·simp only[zGt,if_true,hA]at hv';rw[cell_of_row _ _ _ _ _ _ hheap];rw[←hcur,List.getElem?_take]at hv';split at hv'
        ·simpa using hv'
        ·cases hv'
      ·have hll:=zJ5 (li':=⟨some b,li.cap,n+m,true⟩) e1 e2 rfl (by simp only; omega);simp only[zW];refine⟨trivial,trivial,by rw[List.length_append,hcl,hyl,Nat.add_mul],.inr ⟨b,_,rfl,hheap,hroom,k2,?_,?_,?_,?_⟩⟩
       ·simp only[List.size_toArray,List.length_append,List.length_take,List.length_drop,Array.length_toList];omega
       ·rw[hcur];exact zX.mono hle hll _ (k4.append g1)
       ·rw[hcur];intro u hu;rcases List.mem_append.1 hu with hu | hu
        ·exact k5 u hu
        ·exact g3 u hu
       ·rw[hcur];cases fz
        ·exact k6
        ·refine⟨fun j u hu=>by simp[zGt,hA,hu],fun o ho=>?_⟩;simp only[zGt,if_true,hA];exact List.getElem?_eq_none (by rw[hpl]; exact ho)
     refine⟨_,_,_,_,by rw[hv]; exact hr,hnx,hle,?_⟩;simp only[Rel];exact⟨rfl,_,List.getElem?_set_self hlL,rfl,Nat.le_refl _,fun _=>rfl⟩
    ·have hr:=run_append_grow (P:=P) w t ty e i z ht hi hz ⟨b,0,none⟩ n li.cap (cur.toList.take (n*i.size)) (by rw[List.length_take,Array.length_toList,k3]; exact Nat.min_eq_left (Nat.mul_le_mul_right _ k1))
      (fun j u hu=>by
       rw[Addr.add_lit,cell_of_row w b _ cur e (0,0) hh];rw[List.getElem?_take]at hu;split at hu
       ·simpa using hu
       ·cases hu) ⟨yb,yo,none⟩ m c us g2 g4 (by omega) (by omega) (growslice_fits (by omega) hby)
     refine fresh (cur.toList.take (n*i.size)) li.cap k4 k5 (by rw[List.length_take,Array.length_toList,k3]; exact Nat.min_eq_left (Nat.mul_le_mul_right _ k1)) (by omega) ?_;rw[hv];exact hr
end
end Go.Abs
