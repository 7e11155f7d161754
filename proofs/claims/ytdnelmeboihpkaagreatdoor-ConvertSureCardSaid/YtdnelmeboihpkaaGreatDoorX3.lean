/-
  All operations that leave the state alone, in one theorem; how the state goes on when memory is made or written.
  How the state goes on when a box or a row is written, and when a row grows.
  append.
  append to nil and to a full slice; what every operation does; its soundness.
-/
import Derived.Test.YtdnelmeboihpkaaGreatDoorX2
import Derived.Laws.CopyRow
import Derived.Laws.Tables
import Derived.RangeFuncRecord
set_option linter.unusedVariables false
set_option maxHeartbeats 8000000
set_option maxRecDepth 100000
set_option linter.unusedSimpArgs false
namespace Go.Abs
section
variable {P:Program}{H:Mem}{L:List LI} {σ : St}{w:World}{N:Nat}{env:Env}{a:Act}
theorem zR3 {o:Oper}{k:KOp}{p:Prop}{r:A}(hc:zAr P o=some k)(h:zG env σ k=some (p,r))(hp:p)(he:zX H L N env a.tmps)(hs:RelSt H L σ w) :
 zAv P H L w a o r:=by
 unfold zAr at hc;split at hc
 case h_1 x heq=>cases hc; cases h; exact zM8 (.inl heq) he
 case h_2 x heq=>cases hc; cases h; exact zM8 (.inr heq) he
 case h_3 c x y heq =>
  cases hc;simp only[zG]at h;split at h<;>try (cases h; done)
  rename_i t hce;cases h;exact zQZ heq he hce
 case h_4 e heq =>
  simp only[jAa,jA5]at hc;obtain⟨i,_,z,_,hc⟩:=hc;split at hc
  ·cases hc; simp[zG]at h
  ·cases hc
 case h_5 e x heq=>cases hc; simp[zG]at h
 case h_6 t x heq =>
  simp only[jAa,jA5,jA0]at hc;obtain⟨u,hu,i,hi,rfl⟩:=hc;simp only[zG,jAb,jB8]at h;obtain⟨r',hr,_,rfl⟩:=h;exact zWe heq hu hi he hs hr
 case h_7 t x y heq =>
  simp only[jAa,jA5,jA0]at hc;obtain⟨i,hi,rfl⟩:=hc;simp[zG]at h
 case h_8 s x f heq =>
  split at hc<;>try (cases hc; done)
  rename_i fs hfs;simp only[jAa,jA5]at hc;obtain⟨g,hg,i,hi,hc⟩:=hc;split at hc<;>try (cases hc; done)
  rename_i h0;cases hc;exact zQW heq hfs hg hi h0 he hs h
 case h_9 t x i heq =>
  split at hc<;>try (cases hc; done)
  ·rename_i e hu;simp only[jAa,jA5,jA0]at hc;obtain⟨ti,hi,rfl⟩:=hc;exact zTB heq hu hi he hs h hp
  ·rename_i n e hu;simp only[jAa,jA5,jA0]at hc;obtain⟨ti,hi,rfl⟩:=hc;exact zN7 heq hu hi he h hp
 case h_10 t x f heq =>
  split at hc<;>try (cases hc; done)
  rename_i fs hfs;simp only[jAa,jA5,jA0]at hc;obtain⟨g,hg,u,hu,i,hi,rfl⟩:=hc;exact zTA heq hfs hg hu hi he h
 case h_11 t x i heq =>
  split at hc<;>try (cases hc; done)
  rename_i n e hut;simp only[jAa,jA5,jA0]at hc;obtain⟨u,hu,j,hj,rfl⟩:=hc;exact zWd heq hut hu hj he h hp
 case h_12 op t x y t' heq =>
  split at hc<;>try (cases hc; done)
  all_goals try (cases hc; exact zT7 heq he h hp)
  ·split at hc
   ·rename_i k hk;cases hc;exact zM4 (ng:=false) heq hk he h
   ·split at hc
    ·rename_i hn;cases hc;exact zM5 (ng:=false) heq hn he h hp
    ·rcases zGu hc with ⟨hn,rfl⟩ | ⟨ks,hk,rfl⟩
     ·exact zM6 (ng:=false) heq hn he h
     ·rcases hk with hk | hk
      ·exact zM3 (ng:=false) heq hk he h
      ·exact zM2 (ng:=false) heq hk he h
  ·split at hc
   ·rename_i k hk;cases hc;exact zM4 (ng:=true) heq hk he h
   ·split at hc
    ·rename_i hn;cases hc;exact zM5 (ng:=true) heq hn he h hp
    ·rcases zGu hc with ⟨hn,rfl⟩ | ⟨ks,hk,rfl⟩
     ·exact zM6 (ng:=true) heq hn he h
     ·rcases hk with hk | hk
      ·exact zM3 (ng:=true) heq hk he h
      ·exact zM2 (ng:=true) heq hk he h
 case h_13 op t x heq =>
  split at hc<;>try (cases hc; done)
  ·cases hc; exact zTE heq he h
  ·cases hc; exact zTF heq he h
 case h_14 t i heq=>cases hc; exact zT9 heq he h
 case h_15 f first cap heq=>cases hc; cases h; exact zT8 heq he
 case h_16 t x lo hi mx heq =>
  split at hc<;>try (cases hc; done)
  rename_i e hu;simp only[jAa,jA5,jA0]at hc;obtain⟨i,hi,rfl⟩:=hc;exact zTG heq hu hi he h hp
 case h_17 t parts heq =>
  split at hc<;>try (cases hc; done)
  ·rename_i fs hu;simp only[jAa,jA5]at hc;obtain⟨i,hi,z,hz,hc⟩:=hc;split at hc<;>try (cases hc; done)
   rename_i hb;simp only[jA4]at hb;simp only[jA5,jA0]at hc;obtain⟨ps,hps,rfl⟩:=hc;exact zJv heq hi hz hb.1 hps (.inl ⟨fs,hu,hb.2,rfl⟩) he h
  ·rename_i n e hu;simp only[jAa,jA5]at hc;obtain⟨i,hi,z,hz,j,hj,hc⟩:=hc;split at hc<;>try (cases hc; done)
   rename_i hb;simp only[jA5,jA0]at hc;obtain⟨ps,hps,rfl⟩:=hc;exact zJv heq hi hz hb hps (.inr ⟨n,e,j,hu,hj,rfl⟩) he h
 case h_18 t len parts heq =>
  split at hc<;>try (cases hc; done)
  simp only[jAa,jA5]at hc;obtain⟨j,hj,z,hz,hc⟩:=hc;split at hc<;>try (cases hc; done)
  simp only[jA5,jA0]at hc;obtain⟨ps,hps,rfl⟩:=hc;simp[zG]at h
 case h_19 c heq =>
  split at hc
  ·split at hc
   ·split at hc
    ·cases hc; simp[zG]at h
    ·cases hc
   ·cases hc; simp[zG]at h
   ·cases hc
  ·rename_i hcal;split at hc<;>try (cases hc; done)
   rename_i x t ha ht;split at hc<;>try (cases hc; done)
   ·rename_i e hu;cases hc;exact zTC heq hcal ha ht hu he hs h
   ·rename_i hu;cases hc;exact zQX heq hcal ha ht hu he h
  ·split at hc<;>try (cases hc; done)
   simp only[jAb]at hc;obtain⟨nk,_,rfl⟩:=hc;simp[zG]at h
  ·split at hc<;>try (cases hc; done)
   split at hc<;>try (cases hc; done)
   simp only[jAa,jA5]at hc;obtain⟨j,hj,z,hz,hc⟩:=hc;split at hc<;>try (cases hc; done)
   cases hc;simp[zG]at h
  ·rename_i hcal; cases hc; exact zPm (mx:=true) heq hcal he h
  ·rename_i hcal; cases hc; exact zPm (mx:=false) heq hcal he h
  ·split at hc<;>try (cases hc; done)
   split at hc<;>try (cases hc; done)
   split at hc<;>try (cases hc; done)
   simp only[jAa,jA5]at hc;obtain⟨j,hj,z,hz,hc⟩:=hc;split at hc<;>try (cases hc; done)
   cases hc;simp[zG]at h
  ·cases hc
 case h_20 x heq=>cases hc; exact zQY heq he h
 case h_21 t heq =>
  simp only[jAb]at hc;obtain⟨nk,_,rfl⟩:=hc;simp[zG]at h
 case h_22 t x k ok heq =>
  split at hc<;>try (cases hc; done)
  simp only[jAa,jA5,jA0]at hc;obtain⟨nk,_,j,_,z,_,rfl⟩:=hc;simp[zG]at h
 case h_23 t m k v heq =>
  simp only[jAb]at hc;obtain⟨nk,_,rfl⟩:=hc;simp[zG]at h
 case h_24 t x heq =>
  split at hc<;>try (cases hc; done)
  cases hc;simp[zG]at h
 case h_25 x heq=>cases hc; simp[zG]at h
 case h_26 x heq=>cases hc; simp[zG]at h
 case h_27 t x heq =>
  split at hc<;>try (cases hc; done)
  rename_i u hu;split at hc<;>try (cases hc; done)
  rename_i hn;cases hc;exact zTD heq hu hn he h
 case h_28=>cases hc; simp[zG]at h
 case h_29 t x y heq =>
  split at hc<;>try (cases hc; done)
  simp only[jAa,jA5]at hc;obtain⟨j,hj,z,hz,hc⟩:=hc;split at hc<;>try (cases hc; done)
  cases hc;simp[zG]at h
 case h_30 s d x heq =>
  split at hc<;>try (cases hc; done)
  ·split at hc<;>try (cases hc; done)
   cases hc;simp[zG]at h
  ·split at hc<;>try (cases hc; done)
   split at hc<;>try (cases hc; done)
   cases hc;simp[zG]at h
 case h_31 t m k v heq =>
  simp only[jAb]at hc;obtain⟨nk,_,rfl⟩:=hc;simp[zG]at h
 case h_32=>cases hc
structure Nxt (H:Mem)(L:List LI)(w:World)(H':Mem)(L':List LI) (σ':St)(w':World):Prop where
 st:RelSt H' L' σ' w'
 step:Step (zPG L) w H w' H'
 lle:LLe L L'
 own:∀b,zPG L' b→zPG L b∨w.heap.size≤b
theorem Nxt.refl (hs:RelSt H L σ w):Nxt H L w H L σ w:=⟨hs,Step.refl _ _ _,LLe.refl _,fun _ h=>.inl h⟩
theorem Nxt.trans {H' H'':Mem}{L' L'':List LI} {σ' σ'':St}{w' w'':World}(h:Nxt H L w H' L' σ' w')(k:Nxt H' L' w' H'' L'' σ'' w''):Nxt H L w H'' L'' σ'' w'' :=
 ⟨k.st,h.step.trans k.step h.own,h.lle.trans k.lle,fun b hb=>(k.own b hb).elim (h.own b) fun hb=>.inr (jBt h.step.size hb)⟩
theorem Inv.next {O:Nat→Prop}{w0:World}{H0:Mem}{H':Mem}{L':List LI} {σ':St}{w':World}(h:Inv O w0 H0 H L σ w)(k:Nxt H L w H' L' σ' w'):Inv O w0 H0 H' L' σ' w' :=
 ⟨k.st,h.step.trans k.step h.own,fun b hb=>(k.own b hb).elim (h.own b) fun hb=>.inr (jBt h.step.size hb)⟩
theorem zL.carry {H':Mem}{L':List LI}{w':World}{li:LI}{o:AObj}(h:zL H L w li o)(hw:∀b,li.block=some b→w'.heap[b]?=w.heap[b]?)(hh:HLe H H')(hl:LLe L L')
 (hb:∀b,li.block=some b→∀o,H' b o=H b o):zL H' L' w' li o:=by
 cases o with
 | dead=>trivial
 | box cs =>
  simp only[zL]at h⊢;obtain⟨h0,b,vs,e,h1,h2,h3,h4,h5⟩:=h;exact⟨h0,b,vs,e,h1,by rw[hw b h1]; exact h2,zN.mono hh hl _ h3,h4,fun o=>by rw[hb b h1]; exact h5 o⟩
 | row fz e sz n cs =>
  simp only[zL]at h⊢;obtain⟨h0,h1,h2,h3⟩:=h;refine⟨h0,h1,h2,?_⟩;rcases h3 with h3 | ⟨b,cur,g1,g2,g3,g4,g5,g6,g7,g8⟩
  ·exact .inl h3
  ·refine .inr ⟨b,cur,g1,by rw[hw b g1]; exact g2,g3,g4,g5,zN.mono hh hl _ g6,g7,?_⟩;cases fz with
   | false=>exact fun o=>by rw[hb b g1]; exact g8 o
   | true=>exact⟨g8.1.mono hh,fun o ho=>by rw[hb b g1]; exact g8.2 o ho⟩
 | lp b r M es =>
  simp only[zL]at h⊢;obtain⟨h0,h1,tmps,h2,h3,h4⟩:=h;exact⟨h0,h1,tmps,by rw[hw b h1]; exact h2,h3,h4.mono hh hl⟩
 | mp fresh nk es =>
  simp only[zL]at h⊢;obtain⟨h0,b,ents,ck,h1,h2,h3,h4⟩:=h;exact⟨h0,b,ents,ck,h1,by rw[hw b h1]; exact h2,h3.mono hh hl,h4⟩
 | it m n met =>
  simp only[zL]at h⊢;obtain⟨h0,b,mb,lm,h1,h2,h3,h4,h5⟩:=h;obtain⟨lm',e',hlm⟩:=hl _ _ h2;rcases hlm with rfl | ⟨hr,_⟩ | ⟨hr,_⟩
  ·exact⟨h0,b,mb,_,h1,e',h3,h4,by rw[hw b h1]; exact h5⟩
  ·rw[h4]at hr; cases hr
  ·rw[h3]at hr; cases hr
 | rsv=>exact h
theorem zV0 {w w':World}{b:Nat}(hkeep:∀k,k≠b→w'.heap[k]?=w.heap[k]?)(hb:∀d,w.heap[b]?≠some (.deferred d))(k:Nat)(d:Option (List Deferred))(h:w.heap[k]?=some (.deferred d)):w'.heap[k]?=some (.deferred d):=by
 by_cases hk:k=b
 ·subst hk; exact(hb d h).elim
 ·rw[hkeep k hk]; exact h
theorem zDP {w w':World}(hkeep:∀k,k<w.heap.size→w'.heap[k]?=w.heap[k]?)(k:Nat)(d:Option (List Deferred))(h:w.heap[k]?=some (.deferred d)):w'.heap[k]?=some (.deferred d):=by rw[hkeep k (jCs.1 h).1]; exact h
theorem RelSt.heap_eq {w':World}(h:RelSt H L σ w)(hw:w'.heap=w.heap):RelSt H L σ w':=by
 have hc:∀a,w'.cell? a=w.cell? a:=fun a=>by simp[World.cell?,hw]
 exact⟨fun b o v hv=>by rw[hc]; exact h.pers b o v hv,h.len,fun i l o h1 h2=>(h.obj i l o h1 h2).carry (fun b _=>by rw[hw]) (HLe.refl _) (LLe.refl _) (fun _ _ _=>rfl),h.inj,
  fun i l b h1 h2=>by rw[hw]; exact h.lt i l b h1 h2⟩
theorem RelSt.h_lt (h:RelSt H L σ w){b o:Nat}{v:Value}(hv:H b o=some v):b<w.heap.size:=World.block_lt_of_cell? w _ (h.pers b o v hv)
def zLD (H:Mem)(B:Nat)(us:List Value):Mem:=⟨fun b o=>match H b o with
 | some v=>some v
 | none=>if b=B then us[o]? else none,fun b o v h=>by simp only[H.2 b o v h]⟩
theorem zEX {H:Mem}{B:Nat}{us:List Value}(h:∀o v,H B o=some v→us[o]?=some v)(b o:Nat):zLD H B us b o=if b=B then us[o]? else H b o:=by
 simp only[zLD];cases hh:H b o with
 | some v =>
  simp only;split
  ·rename_i e; subst e; rw[h o v hh]
  ·rfl
 | none=>rfl
theorem RelSt.fresh (hs:RelSt H L σ w)(us:List Value):∀o v,H w.heap.size o=some v→us[o]?=some v:=fun o v hv=>by have:=hs.h_lt hv;omega
theorem zJz (hs:RelSt H L σ w)(us:List Value)(e:TypeId):Nxt H L w (zLD H w.heap.size us) L σ (w.alloc (.cells us.toArray e))∧At (zLD H w.heap.size us) w.heap.size 0 us:=by
 have hA:=zEX (hs.fresh us);have hle:HLe H (zLD H w.heap.size us):=fun b o v hv=>by have:=hs.h_lt hv;simp only[hA];rw[if_neg (by omega)];exact hv
 refine⟨⟨⟨fun b o v hv=>?_,hs.len,fun i l o h1 h2=>?_,hs.inj,fun i l b h1 h2=>?_⟩,⟨rfl,rfl,rfl,by simp,fun k hk _=>heap_alloc_old w _ (h:=hk),hle,fun b o v hv=>?_,jA _,zDP (heap_alloc_old w _)⟩,LLe.refl _,fun b hb=>.inl hb⟩,?_⟩
 ·simp only[hA]at hv;split at hv
  ·rename_i hb;subst hb;rw[World.cell?_alloc_new]
   simpa using hv
  ·rw[World.cell?_alloc_lt _ _ _ (hs.h_lt hv)];exact hs.pers b o v hv
 ·refine(hs.obj i l o h1 h2).carry (fun b hb=>heap_alloc_old w _ (h:=hs.lt i l b h1 hb)) hle (LLe.refl _) (fun b hb o'=>?_);have:=hs.lt i l b h1 hb;simp only[hA];rw[if_neg (by omega)]
 ·have:=hs.lt i l b h1 h2;simp;omega
 ·simp only[hA]at hv;split at hv
  ·rename_i hb; exact .inr (.inr (by omega))
  ·exact .inl hv
 ·intro i u hu;simp[hA,hu]
theorem zYC (hs:RelSt H L σ w){cs:List A}{us:List Value}(e:TypeId)(hr:zN H L cs us)(h1:∀u∈us,one u) :
 Nxt H L w H (L++[⟨some w.heap.size,0,0,false⟩]) (σ++[.box cs]) (w.alloc (.cells us.toArray e)):=by
 have hll:=LLe.append L [⟨some w.heap.size,0,0,false⟩];have hget:∀{i:Nat} {l:LI},(L++[⟨some w.heap.size,0,0,false⟩])[i]?=some l→L[i]?=some l∨(i=L.length∧l=⟨some w.heap.size,0,0,false⟩):=by
  intro i l h;rcases jAn i L.length with hi | hi
  ·rw[jAc hi]at h; exact .inl h
  ·rw[jAo hi]at h;have h0:i-L.length=0:=by
    rcases Nat.eq_zero_or_pos (i-L.length)with h0 | h0
    ·exact h0
    ·rw[jB6 (by simp; omega)]at h; cases h
   rw[h0]at h;simp only[jAq,jA0]at h;exact .inr ⟨by omega,h.symm⟩
 refine⟨⟨fun b o v hv=>?_,by simp[hs.len],fun i l o hL hσ=>?_,fun i j l l' b hi hj hb hb'=>?_,fun i l b hL hb=>?_⟩,⟨rfl,rfl,rfl,by simp,fun k hk _=>heap_alloc_old w _ (h:=hk),HLe.refl _,fun b o v hv=>.inl hv,jA _,zDP (heap_alloc_old w _)⟩,hll,fun b ⟨i,l,hL,hb⟩=>?_⟩
 ·rw[World.cell?_alloc_lt _ _ _ (hs.h_lt hv)];exact hs.pers b o v hv
 ·rcases hget hL with hL' | ⟨rfl,rfl⟩
  ·have hi:i<L.length:=(jA1.1 hL').1;rw[jAc (by rw[←hs.len]; exact hi)]at hσ;exact(hs.obj i l o hL' hσ).carry (fun b hb=>heap_alloc_old w _ (h:=hs.lt i l b hL' hb)) (HLe.refl _) hll (fun _ _ _=>rfl)
  ·rw[jAo (by rw[hs.len]; exact jA _)]at hσ;simp only[hs.len,jBx,jAq,jA0]at hσ;subst hσ;simp only[zL];refine⟨trivial,w.heap.size,us,e,rfl,heap_alloc_new w _,zN.mono (HLe.refl _) hll _ hr,h1,fun o=>?_⟩;cases hH:H w.heap.size o with
   | none=>rfl
   | some v=>have:=hs.h_lt hH; omega
 ·rcases hget hi with hi' | ⟨rfl,rfl⟩
  ·rcases hget hj with hj' | ⟨rfl,rfl⟩
   ·exact hs.inj i j l l' b hi' hj' hb hb'
   ·have:=hs.lt i l b hi' hb;simp only[jA0]at hb';omega
  ·rcases hget hj with hj' | ⟨rfl,rfl⟩
   ·have:=hs.lt j l' b hj' hb';simp only[jA0]at hb;omega
   ·rfl
 ·rcases hget hL with hL' | ⟨rfl,rfl⟩
  ·have:=hs.lt i l b hL' hb;simp;omega
  ·simp only[jA0]at hb;simp;omega
 ·rcases hget hL with hL' | ⟨rfl,rfl⟩
  ·exact .inl ⟨i,l,hL',hb⟩
  ·simp only[jA0]at hb;exact .inr (by omega)
end
end Go.Abs
namespace Go.Abs
section
variable {P:Program}{H:Mem}{L:List LI} {σ : St}{w:World}{N:Nat}{env:Env}{a:Act}
theorem zG3 (hs:RelSt H L σ w){l:Nat}{li:LI}{b:Nat}{o:AObj}{H':Mem}{w':World}(hl:L[l]?=some li)(hb:li.block=some b)
 (hos:w'.os=w.os)(htape:w'.tape=w.tape)(hout:w'.output=w.output)(hdr:w'.drawn=w.drawn)(hnd:∀d,w.heap[b]?≠some (.deferred d))(hsz:w'.heap.size=w.heap.size)(hkeep:∀k,k≠b→w'.heap[k]?=w.heap[k]?)
 (hle:HLe H H')(hnew:∀b' o' v,H' b' o'=some v→H b' o'=some v∨b'=b)(hpers:∀o' v,H' b o'=some v→w'.cell? ⟨b,o',none⟩=some v)
 (ho:zL H' L w' li o):Nxt H L w H' L (σ.set l o) w':=by
 have hne:∀(i:Nat) l' b',L[i]?=some l'→l'.block=some b'→i≠l→b'≠b:=fun i l' b' h1 h2 hi e=>hi (hs.inj i l l' li b' h1 hl h2 (by rw[hb,e]))
 refine⟨⟨fun b' o' v hv=>?_,by simp[hs.len],fun i l' o' hL hσ=>?_,hs.inj,fun i l' b' h1 h2=>by rw[hsz]; exact hs.lt i l' b' h1 h2⟩,
  ⟨hos,htape,hout,by rw[hsz]; exact jA _,fun k _ hk=>hkeep k (fun e=>hk ⟨l,li,hl,by rw[hb,e]⟩),hle,fun b' o' v hv=>?_,by rw[hdr]; exact jA _,zV0 hkeep hnd⟩,LLe.refl _,fun _ h=>.inl h⟩
 ·by_cases hbb:b'=b
  ·subst hbb; exact hpers o' v hv
  ·rcases hnew b' o' v hv with h1 | h1
   ·have:=hs.pers b' o' v h1;simp only[World.cell?]at this ⊢;rw[hkeep b' hbb];exact this
   ·exact(hbb h1).elim
 ·by_cases hi:i=l
  ·subst hi;rw[hl]at hL;cases hL;rw[jAi (by rw[←hs.len]; exact(jA1.1 hl).1)]at hσ;cases hσ;exact ho
  ·rw[jA8 (Ne.symm hi)]at hσ;refine(hs.obj i l' o' hL hσ).carry (fun b' hb'=>hkeep b' (hne i l' b' hL hb' hi)) hle (LLe.refl _) (fun b' hb' o''=>?_);have hbne:=hne i l' b' hL hb' hi;cases h1:H b' o'' with
   | some v=>exact hle _ _ _ h1
   | none =>
    cases h2:H' b' o'' with
    | none=>rfl
    | some v =>
     rcases hnew b' o'' v h2 with h3 | h3
     ·rw[h1]at h3; cases h3
     ·exact(hbne h3).elim
 ·rcases hnew b' o' v hv with h1 | h1
  ·exact .inl h1
  ·exact .inr (.inl ⟨l,li,hl,by rw[hb,h1]⟩)
def stA (σ : St)(cs:List A):A→Option St
 | .ptr l off=>match σ[l]? with
  | some (.box ds)=>if off+cs.length≤ds.length then some (σ.set l (.box (ds.take off++cs++ds.drop (off+cs.length)))) else none
  | _=>none
 | .rwp l m off=>match σ[l]? with
  | some (.row false e sz k ds)=>if m=k∧off+cs.length≤ds.length then some (σ.set l (.row false e sz k (ds.take off++cs++ds.drop (off+cs.length)))) else none
  | _=>none
 | _=>none
theorem zPS {t:TypeId}{i:TypeInfo}{x:Value}{b off:Nat}{e:TypeId}{cur:Array Value}(hi:P.info? t=some i)(hsz:x.cells.size=i.size)(h1:∀u∈x.cells.toList,one u)
 (hh:w.heap[b]?=some (.cells cur e (0,0)))(hfit:off+x.cells.size≤cur.size) :
 (Instr.storeAt t (.pointer (some ⟨b,off,none⟩)) x).run P w=.ok () (w.setRow b (cur.toList.take off++x.cells.toList++cur.toList.drop (off+x.cells.size)).toArray):=by
 have hst:=run_storeCells_at P b off e x.cells.toList 0 cur w hh (by simpa using hfit) h1;simp only[jBn,jAs]at hst;simp[Instr.storeAt,Instr.sureAddr,storeVar,yC hi,hsz,hst]
theorem zXb {o:Oper}{t:TypeId}{x v:Operand}{i:TypeInfo}{cs:List A} {σ':St}(ho:o.op=.store t x v)(hi:P.info? t=some i)(he:zX H L N env a.tmps)(hs:RelSt H L σ w)
 (hc:cellsOf (ev env v)=some cs)(hn:cs.length=i.size)(hst:stA σ cs (ev env x)=some σ') :
 ∃w',(execOp a.eval o).run P w=.ok .skip w'∧Nxt H L w H L σ' w':=by
 obtain⟨g1,g2⟩:=zGh (qG he v) hc;have hlen:=g1.length;have hx:=qG he x;have hsz:(a.eval v).cells.size=i.size:=by rw[←jAs,hlen,hn]
 have fin:∀b off e cur,a.eval x=.pointer (some ⟨b,off,none⟩)→w.heap[b]?=some (.cells cur e (0,0))→off+(a.eval v).cells.size≤cur.size →
  (execOp a.eval o).run P w=.ok .skip (w.setRow b (cur.toList.take off++(a.eval v).cells.toList++cur.toList.drop (off+(a.eval v).cells.size)).toArray):=by
  intro b off e cur hv hh hfit;unfold execOp;simp only[ho,hv,Sem.run_bind,zPS hi hsz g2 hh hfit,Result.andThen_ok,Sem.run_pure]
 unfold stA at hst;split at hst<;>try (cases hst; done)
 ·rename_i l off hxe;split at hst<;>try (cases hst; done)
  rename_i ds hds;split at hst<;>try (cases hst; done)
  rename_i hfit;cases hst;rw[hxe]at hx;simp only[Rel]at hx;obtain⟨li,b,e1,e2,e3,hv⟩:=hx;have hob:=hs.obj l li _ e1 hds;simp only[zL]at hob;obtain⟨_,b',vs,e,hb',hh,hr,h1,hH⟩:=hob;rw[e2]at hb';cases hb';have hvl:=hr.length;refine⟨_,fin b off e _ hv hh (by simp only[jBp]; omega),?_⟩;refine zG3 hs e1 e2 rfl rfl rfl rfl (fun d=>by rw[hh]; simp) (by simp) (fun k hk=>setRow_other w b k _ hk) (HLe.refl _) (fun _ _ _ h=>.inl h) (fun o' v hv=>by rw[hH]at hv; cases hv) ?_;simp only[zL];refine⟨e3,b,_,e,e2,setRow_heap w b _ _ e _ hh,?_,?_,hH⟩
  ·rw[hsz,←hn];exact((hr.take off).append g1).append (hr.drop _)
  ·intro u hu;simp only[jAj]at hu;rcases hu with (hu | hu) | hu
   ·exact h1 u (jCc hu)
   ·exact g2 u hu
   ·exact h1 u (jBo hu)
 ·rename_i l m off hxe;split at hst<;>try (cases hst; done)
  rename_i e sz k ds hds;split at hst<;>try (cases hst; done)
  rename_i hfit;obtain⟨rfl,hfit⟩:=hfit;cases hst;rw[hxe]at hx;simp only[Rel]at hx;obtain⟨_,li,e1,e2,e3,hv⟩:=hx;have hob:=hs.obj l li _ e1 hds;simp only[zL]at hob;obtain⟨_,hln,hcl,hob⟩:=hob;obtain⟨b,hb,hv⟩:=hv hln.symm;rcases hob with ⟨h0,_⟩ | ⟨b',cur,hb',hh,k1,k2,k3,k4,k5,k6⟩
  ·rw[hb]at h0; cases h0
  ·rw[hb]at hb';cases hb';have hmc:m*sz≤cur.size:=by rw[k3]; exact jBc _ k1
   have hcs:off+(a.eval v).cells.size≤cur.size:=by rw[hsz,←hn]; omega
   refine⟨_,fin b off e _ hv hh hcs,?_⟩;refine zG3 hs e1 hb rfl rfl rfl rfl (fun d=>by rw[hh]; simp) (by simp) (fun k hk=>setRow_other w b k _ hk) (HLe.refl _) (fun _ _ _ h=>.inl h) (fun o' v hv=>by rw[k6]at hv; cases hv) ?_;have htake:(cur.toList.take off++(a.eval v).cells.toList++cur.toList.drop (off+(a.eval v).cells.size)).take (m*sz) =
    (cur.toList.take (m*sz)).take off++(a.eval v).cells.toList++(cur.toList.take (m*sz)).drop (off+(a.eval v).cells.size):=by
    have hl1:(cur.toList.take off++(a.eval v).cells.toList).length=off+(a.eval v).cells.size:=by simp; omega
    have hle2:off+(a.eval v).cells.size≤m*sz:=by rw[hsz,←hn,←hcl]; exact hfit
    rw[List.take_append,hl1,jAm (by rw[hl1]; exact hle2),List.take_take,jAw (by omega),List.drop_take]
   simp only[zL];refine⟨e2,hln,by simp; omega,.inr ⟨b,_,hb,setRow_heap w b _ _ e _ hh,k1,k2,by simp; omega,?_,?_,k6⟩⟩
   ·rw[htake,hsz,←hn];exact((k4.take off).append g1).append (k4.drop _)
   ·rw[htake];intro u hu;simp only[jAj]at hu;rcases hu with (hu | hu) | hu
    ·exact k5 u (jCc hu)
    ·exact g2 u hu
    ·exact k5 u (jBo hu)
end
end Go.Abs
namespace Go.Abs
section
variable {P:Program}{H:Mem}{L:List LI} {σ : St}{w:World}{N:Nat}{env:Env}{a:Act}
theorem zDU {l:Nat}{li li':LI}(hl:L[l]?=some li)(h1:li.isRow=true)(h2:li'.isRow=true)(h3:li.len<li'.len):LLe L (L.set l li'):=by
 intro i x hx;by_cases hi:i=l
 ·subst hi;rw[hl]at hx;cases hx;exact⟨li',by rw[jAi (jA1.1 hl).1],.inr (.inl ⟨h1,h2,h3⟩)⟩
 ·exact⟨x,by rw[jA8 (Ne.symm hi)]; exact hx,.inl rfl⟩
theorem zIa (hs:RelSt H L σ w){l:Nat}{li li':LI}{b:Nat}{o:AObj}{H':Mem}{w':World}(hl:L[l]?=some li)(h1:li.isRow=true)(h2:li'.isRow=true)(h3:li.len<li'.len)
 (hb:li'.block=some b)(hold:li.block=some b∨w.heap.size≤b)(hlt:b<w'.heap.size)
 (hos:w'.os=w.os)(htape:w'.tape=w.tape)(hout:w'.output=w.output)(hdr:w.drawn≤w'.drawn)(hnd:∀d,w.heap[b]?≠some (.deferred d))(hsz:w.heap.size≤w'.heap.size)(hkeep:∀k,k<w.heap.size→k≠b→w'.heap[k]?=w.heap[k]?)
 (hle:HLe H H')(hnew:∀b' o' v,H' b' o'=some v→H b' o'=some v∨b'=b)(hpers:∀o' v,H' b o'=some v→w'.cell? ⟨b,o',none⟩=some v)
 (ho:zL H' (L.set l li') w' li' o):Nxt H L w H' (L.set l li') (σ.set l o) w':=by
 have hll:=zDU (li':=li') hl h1 h2 h3;have hll1:l<L.length:=(jA1.1 hl).1;have hget:∀{i:Nat} {x:LI},(L.set l li')[i]?=some x→(i=l∧x=li')∨(i≠l∧L[i]?=some x):=by
  intro i x hx;by_cases hi:i=l
  ·subst hi;rw[jAi hll1]at hx;cases hx;exact .inl ⟨rfl,rfl⟩
  ·rw[jA8 (Ne.symm hi)]at hx;exact .inr ⟨hi,hx⟩
 have hne:∀(i:Nat) l' b',L[i]?=some l'→l'.block=some b'→i≠l→b'≠b:=fun i l' b' g1 g2 hi e=>by
  rcases hold with h | h
  ·exact hi (hs.inj i l l' li b' g1 hl g2 (by rw[h,e]))
  ·have:=hs.lt i l' b' g1 g2; omega
 refine⟨⟨fun b' o' v hv=>?_,by simp[hs.len],fun i l' o' hL hσ=>?_,fun i j x y b' hi hj hx hy=>?_,fun i x b' hi hx=>?_⟩,
  ⟨hos,htape,hout,hsz,fun k hk hn=>hkeep k hk (fun e=>?_),hle,fun b' o' v hv=>?_,hdr,fun k d hk=>by
   have hks:=(jCs.1 hk).1;by_cases hkb:k=b
   ·subst hkb; exact(hnd d hk).elim
   ·rw[hkeep k hks hkb]; exact hk⟩,hll,fun b' ⟨i,x,hi,hx⟩=>?_⟩
 ·by_cases hbb:b'=b
  ·subst hbb; exact hpers o' v hv
  ·rcases hnew b' o' v hv with g | g
   ·have hc:=hs.pers b' o' v g;have hlt':=hs.h_lt g;simp only[World.cell?]at hc ⊢;rw[hkeep b' hlt' hbb];exact hc
   ·exact(hbb g).elim
 ·rcases hget hL with ⟨rfl,rfl⟩ | ⟨hi,hL'⟩
  ·rw[jAi (by rw[←hs.len]; exact hll1)]at hσ;cases hσ;exact ho
  ·rw[jA8 (Ne.symm hi)]at hσ;refine(hs.obj i l' o' hL' hσ).carry (fun b' hb'=>hkeep b' (hs.lt i l' b' hL' hb') (hne i l' b' hL' hb' hi)) hle hll (fun b' hb' o''=>?_);have hbne:=hne i l' b' hL' hb' hi;cases g1:H b' o'' with
   | some v=>exact hle _ _ _ g1
   | none =>
    cases g2:H' b' o'' with
    | none=>rfl
    | some v =>
     rcases hnew b' o'' v g2 with g3 | g3
     ·rw[g1]at g3; cases g3
     ·exact(hbne g3).elim
 ·rcases hget hi with ⟨rfl,rfl⟩ | ⟨hi',hi''⟩
  ·rcases hget hj with ⟨rfl,rfl⟩ | ⟨hj',hj''⟩
   ·rfl
   ·rw[hb]at hx; cases hx; exact(hne j y b hj'' hy hj' rfl).elim
  ·rcases hget hj with ⟨rfl,rfl⟩ | ⟨hj',hj''⟩
   ·rw[hb]at hy; cases hy; exact(hne i x b hi'' hx hi' rfl).elim
   ·exact hs.inj i j x y b' hi'' hj'' hx hy
 ·rcases hget hi with ⟨rfl,rfl⟩ | ⟨hi',hi''⟩
  ·rw[hb]at hx; cases hx; exact hlt
  ·exact jBu (hs.lt i x b' hi'' hx) hsz
 ·subst e;rcases hold with h | h
  ·exact hn ⟨l,li,hl,h⟩
  ·omega
 ·rcases hnew b' o' v hv with g | g
  ·exact .inl g
  ·subst g;rcases hold with h | h
   ·exact .inr (.inl ⟨l,li,hl,h⟩)
   ·exact .inr (.inr h)
 ·rcases hget hi with ⟨rfl,rfl⟩ | ⟨hi',hi''⟩
  ·rw[hb]at hx;cases hx;rcases hold with h | h
   ·exact .inl ⟨_,li,hl,h⟩
   ·exact .inr h
  ·exact .inl ⟨i,x,hi'',hx⟩
def zBr (σ : St)(sz:Nat):A→Option (Nat×List A)
 | .nil=>some (0,[])
 | .sl m cs=>some (m,cs)
 | .fsl m cs=>some (m,cs)
 | .row l n=>match σ[l]? with
  | some (.row _ _ s m cs)=>if n=m∧s=sz then some (m,cs) else none
  | _=>none
 | _=>none
theorem zGt (hs:RelSt H L σ w){x:A}{v:Value}{sz m:Nat}{cs:List A}(hx:Rel H L x v)(h:zBr σ sz x=some (m,cs))(hlen:cs.length=m*sz)(hsz:0<sz) :
 ∃ad cap,v=.slice ad m cap∧(m=0∨∃b o,∃us:List Value,ad=some ⟨b,o,none⟩∧zN H L cs us∧us.length=m*sz∧(∀u∈us,one u)∧∀j u,us[j]?=some u→w.cell? ((⟨b,o,none⟩:Addr).add j)=some u):=by
 cases x<;>simp only[zBr]at h<;>try (cases h; done)
 case nil =>
  cases h;simp only[Rel]at hx;exact⟨_,_,hx,.inl rfl⟩
 case sl n ds =>
  cases h;simp only[Rel]at hx;obtain⟨ad,cap,hv,_,_,h3⟩:=hx;refine⟨ad,cap,hv,?_⟩;rcases h3 with ⟨h3,_⟩ | ⟨b,o,us,rfl,g1,g2,g3⟩
  ·exact .inl h3
  ·exact .inr ⟨b,o,us,rfl,g1,by rw[g1.length,hlen],g2,fun j u hu=>by rw[Addr.add_lit]; exact hs.pers _ _ _ (g3 j u hu)⟩
 case fsl n ds =>
  cases h;simp only[Rel]at hx;obtain⟨ad,hv,_,h3⟩:=hx;refine⟨ad,_,hv,?_⟩;rcases h3 with ⟨h3,_⟩ | ⟨b,o,us,rfl,g1,g2,g3⟩
  ·exact .inl h3
  ·exact .inr ⟨b,o,us,rfl,g1,by rw[g1.length,hlen],g2,fun j u hu=>by rw[Addr.add_lit]; exact hs.pers _ _ _ (g3 j u hu)⟩
 case row l n =>
  split at h<;>try (cases h; done)
  rename_i fz e s k ds hds;split at h<;>try (cases h; done)
  rename_i hn;obtain⟨rfl,rfl⟩:=hn;cases h;simp only[Rel]at hx;obtain⟨_,li,e1,e2,e3,hv⟩:=hx;have hob:=hs.obj l li _ e1 hds;simp only[zL]at hob;obtain⟨_,hln,hcl,hob⟩:=hob;have hv:=hv hln.symm;rcases hob with ⟨h0,h00⟩ | ⟨b,cur,hb,hh,k1,k2,k3,k4,k5,_⟩
  ·rw[h0]at hv;exact⟨none,0,by rw[hv,h00],.inl h00⟩
  ·rw[hb]at hv;refine⟨_,_,hv,.inr ⟨b,0,_,rfl,k4,?_,k5,fun j u hu=>?_⟩⟩
   ·simp only[jB2,jAs];rw[k3];exact jAw (jBc _ k1)
   ·rw[Addr.add_lit,cell_of_row w b _ cur e (0,0) hh];rw[jB5]at hu;split at hu
    ·simpa using hu
    ·cases hu
theorem zCX {t ty e:TypeId}{i:TypeInfo}(ht:P.underlying t=some (.slice e))(hi:P.info? e=some i)(base:Option Addr)(n cap:Nat)(hc:n≤cap)(ad:Option Addr)(c:Nat) :
 (Builtin.append_ #[t,t] ty #[.slice base n cap,.slice ad 0 c]).run P w=.ok (.slice base n cap) w:=by
 have hf:(Builtin.firstCells i.size 0 (.slice ad 0 c)).run P w=.ok #[] w:=by
  cases ad with
  | none=>simp[Builtin.firstCells]
  | some a=>exact run_firstCells_some (P:=P) w i.size 0 a 0 c [] (by simp) (by simp)
 cases base<;>simp[Builtin.append_,run_underlying ht,sizeOf,typeInfo,hi,Builtin.lenOf,hc,hf,storeCells]
def zGB (H:Mem)(fz:Bool)(b:Nat)(us:List Value):Mem:=if fz then zLD H b us else H
theorem zSh {t ty e:TypeId}{i:TypeInfo}{z:Value}(ht:P.underlying t=some (.slice e))(hi:P.info? e=some i)(hz:i.zero=some z)(hzc:zAk z.cells.toList=true)(hzs:z.cells.size=i.size)(hsz:0<i.size)
 (hs:RelSt H L σ w){l n:Nat}{fz:Bool}{cs:List A}{s y:Value}(hσ : σ[l]?=some (.row fz e i.size n cs))(hx:Rel H L (.row l n) s)
 {ya:A}{m:Nat}{ys:List A}(hy:Rel H L ya y)(hye:zBr σ i.size ya=some (m,ys))(hyl:ys.length=m*i.size)
 (hm:n+m≤maxLen)(hby:(n+m)*i.bytes≤140737488355328) :
 ∃v' w' H' L',(Builtin.append_ #[t,t] ty #[s,y]).run P w=.ok v' w'∧Nxt H L w H' L' (σ.set l (.row fz e i.size (n+m) (cs++ys))) w'∧HLe H H'∧Rel H' L' (.row l (n+m)) v':=by
 obtain⟨ad,c,rfl,hels⟩:=zGt hs hy hye hyl hsz;have hx0:=hx;simp only[Rel]at hx;obtain⟨hs1,li,e1,e2,e3,hv⟩:=hx;have hob:=hs.obj l li _ e1 hσ;have hob0:=hob;simp only[zL]at hob;obtain⟨_,hln,hcl,hob⟩:=hob;have hv:=hv hln.symm;have hlσ : l < σ.length:=(jA1.1 hσ).1;have hlL:l<L.length:=(jA1.1 e1).1;by_cases hm0:m=0
 ·subst hm0;have hys:ys=[]:=jBw (by simpa using hyl);subst hys;have hset : σ.set l (.row fz e i.size (n+0) (cs++[])) = σ:=by
   simp only[jBn,jCf];apply jC4;intro j;by_cases hj:j=l
   ·subst hj; rw[jAi hlσ,hσ]
   ·rw[jA8 (Ne.symm hj)]
  refine⟨s,w,H,L,?_,by rw[hset]; exact Nxt.refl hs,HLe.refl _,hx0⟩;rw[hv];cases hb:li.block with
  | none=>exact zCX ht hi none 0 0 (jA _) ad c
  | some b =>
   rcases hob with ⟨h0,_⟩ | ⟨b',cur,hb',hh,k1,_⟩
   ·rw[hb]at h0; cases h0
   ·exact zCX ht hi _ n _ k1 ad c
 ·rcases hels with h0 | ⟨yb,yo,us,rfl,g1,g2,g3,g4⟩
  ·exact(hm0 h0).elim
  ·have hone:∀u∈us,u.oneCell'=true:=g3;have hsm:n+m≤9223372036854775807:=by simp only[maxLen]at hm; omega
   have fresh:∀(olds:List Value) (old:Nat),zN H L cs olds→(∀u∈olds,one u)→olds.length=n*i.size→old<n+m →
    (Builtin.append_ #[t,t] ty #[s,.slice (some ⟨yb,yo,none⟩) m c]).run P w=.ok (.slice (some ⟨w.heap.size,0,none⟩) (n+m) (grownCap w (n+m) old e))
     (w.drew.alloc (.cells (olds.toArray++us.toArray++Builtin.zeroCells z.cells (grownCap w (n+m) old e-(n+m))) e)) →
    ∃v' w' H' L',(Builtin.append_ #[t,t] ty #[s,.slice (some ⟨yb,yo,none⟩) m c]).run P w=.ok v' w'∧Nxt H L w H' L' (σ.set l (.row fz e i.size (n+m) (cs++ys))) w'∧HLe H H'∧Rel H' L' (.row l (n+m)) v':=by
    intro olds old ho1 ho2 ho3 ho4 hrun;have hge:=grownCap_ge w (n+m) old e;have hcm:grownCap w (n+m) old e≤maxLen:=grownCap_le_maxLen w (n+m) old e hm;have hpl:(olds++us).length=(n+m)*i.size:=by rw[jA7,ho3,g2,jAt]
    have hcur:(olds.toArray++us.toArray++Builtin.zeroCells z.cells (grownCap w (n+m) old e-(n+m))).toList.take ((n+m)*i.size)=olds++us:=by simp only[Array.toList_append,jB1];rw[←jB1,←hpl];exact List.take_left
    have hA:=zEX (hs.fresh (olds++us));have hle:HLe H (zGB H fz w.heap.size (olds++us)):=by
     cases fz
     ·exact HLe.refl _
     ·intro b o v hv';have:=hs.h_lt hv';simp only[zGB,if_true,hA];rw[if_neg (by omega)];exact hv'
    have hnx:Nxt H L w (zGB H fz w.heap.size (olds++us)) (L.set l ⟨some w.heap.size,grownCap w (n+m) old e,n+m,true⟩) (σ.set l (.row fz e i.size (n+m) (cs++ys)))
     (w.drew.alloc (.cells (olds.toArray++us.toArray++Builtin.zeroCells z.cells (grownCap w (n+m) old e-(n+m))) e)):=by
     have hnone:∀o,H w.heap.size o=none:=fun o=>by
      cases hH:H w.heap.size o with
      | none=>rfl
      | some v=>have:=hs.h_lt hH; omega
     have hheap:(w.drew.alloc (.cells (olds.toArray++us.toArray++Builtin.zeroCells z.cells (grownCap w (n+m) old e-(n+m))) e)).heap[w.heap.size]?=some (.cells (olds.toArray++us.toArray++Builtin.zeroCells z.cells (grownCap w (n+m) old e-(n+m))) e (0,0)):=heap_alloc_new w.drew _;refine zIa hs e1 e2 rfl (by simp only; omega) rfl (.inr (jA _)) (by simp) rfl rfl rfl (jC9 _) (fun d=>by simp) (by simp) (fun k hk _=>heap_alloc_old w.drew _ (h:=hk)) hle (fun b' o' v hv'=>?_) (fun o' v hv'=>?_) ?_
     ·cases fz
      ·exact .inl hv'
      ·simp only[zGB,if_true,hA]at hv';split at hv'
       ·rename_i hbb; exact .inr hbb
       ·exact .inl hv'
     ·cases fz
      ·simp only[zGB]at hv'; rw[if_neg (by simp),hnone]at hv'; cases hv'
      ·simp only[zGB,if_true,hA]at hv';rw[cell_of_row _ _ _ _ _ _ hheap];rw[←hcur,jB5]at hv';split at hv'
       ·rw[←jCq]; exact hv'
       ·cases hv'
     ·have hll:=zDU (li':=⟨some w.heap.size,grownCap w (n+m) old e,n+m,true⟩) e1 e2 rfl (by simp only; omega);simp only[zL];refine⟨trivial,trivial,by rw[jA7,hcl,hyl,jAt],.inr ⟨w.heap.size,_,rfl,hheap,hge,hcm,?_,?_,?_,?_⟩⟩
      ·simp only[Array.size_append,jBp,size_zeroCells,hzs,ho3,g2,←jAt]
       congr 1
       omega
      ·rw[hcur];exact zN.mono hle hll _ (ho1.append g1)
      ·rw[hcur];intro u hu;rcases jAj.1 hu with hu | hu
       ·exact ho2 u hu
       ·exact g3 u hu
      ·rw[hcur];cases fz
       ·exact hnone
       ·refine⟨fun j u hu=>by simp[zGB,hA,hu],fun o ho=>?_⟩;simp only[zGB,if_true,hA];exact jB6 (by rw[hpl]; exact ho)
    refine⟨_,_,_,_,hrun,hnx,hle,?_⟩;simp only[Rel];exact⟨rfl,_,jAi hlL,rfl,jA _,fun _=>rfl⟩
   rcases hob with ⟨h0,rfl⟩ | ⟨b,cur,hb,hh,k1,k2,k3,k4,k5,k6⟩
   ·rw[h0]at hv;have hcs:cs=[]:=jBw (by simpa using hcl);subst hcs;subst hv;have hr:=run_append_nil (P:=P) w t ty e i z ht hi hz ⟨yb,yo,none⟩ m c us g2 g4 (by omega) (by omega) (by simp only[jAr]at hby; omega);refine fresh [] 0 jK (by simp) (by simp) (by omega) ?_
    simpa using hr
   ·rw[hb]at hv;simp only at hv;by_cases hroom:n+m≤li.cap
    ·have hfit:n*i.size+us.length≤cur.size:=by rw[g2,k3,←jAt]; exact jBc _ hroom
     have hr:=run_append_room (P:=P) w t ty e i ht hi b n li.cap cur hh ⟨yb,yo,none⟩ m c us g2 g4 hone hroom hfit;have hpl:(cur.toList.take (n*i.size)++us).length=(n+m)*i.size:=by rw[jA7,g2,jAt,jB2,jAs,jAw (by omega)]
     have hcur:(cur.toList.take (n*i.size)++us++cur.toList.drop (n*i.size+us.length)).take ((n+m)*i.size)=cur.toList.take (n*i.size)++us:=by rw[←hpl]; exact List.take_left
     have hheap:=setRow_heap w b cur (cur.toList.take (n*i.size)++us++cur.toList.drop (n*i.size+us.length)).toArray e (0,0) hh;have hsame:∀o v,H b o=some v→(cur.toList.take (n*i.size)++us)[o]?=some v:=fun o v hv'=>by
      cases fz
      ·simp only at k6;rw[k6]at hv';cases hv'
      ·simp only at k6;have ho:o<n*i.size:=by
        rcases jAn o (n*i.size)with h | h
        ·exact h
        ·rw[k6.2 o h]at hv'; cases hv'
       have hlt:o<(cur.toList.take (n*i.size)).length:=by rw[jB2,jAs,jAw (by omega)]; exact ho
       rw[jAc hlt];have:=k6.1 o _ (jA2 hlt);rw[jAr,hv']at this;rw[jA2 hlt];exact this.symm
     have hA:=zEX hsame;have hle:HLe H (zGB H fz b (cur.toList.take (n*i.size)++us)):=by
      cases fz
      ·exact HLe.refl _
      ·intro b' o v hv';simp only[zGB,if_true,hA];split
       ·rename_i hbb;subst hbb;simp only at k6;have ho:o<n*i.size:=by
         rcases jAn o (n*i.size)with h | h
         ·exact h
         ·rw[k6.2 o h]at hv'; cases hv'
        have hlt:o<(cur.toList.take (n*i.size)).length:=by rw[jB2,jAs,jAw (by omega)]; exact ho
        rw[jAc hlt];have:=k6.1 o _ (jA2 hlt);rw[jAr,hv']at this;rw[jA2 hlt];exact this.symm
       ·exact hv'
     have hnx:Nxt H L w (zGB H fz b (cur.toList.take (n*i.size)++us)) (L.set l ⟨some b,li.cap,n+m,true⟩) (σ.set l (.row fz e i.size (n+m) (cs++ys)))
      (w.setRow b (cur.toList.take (n*i.size)++us++cur.toList.drop (n*i.size+us.length)).toArray):=by
      refine zIa hs e1 e2 rfl (by simp only; omega) rfl (.inl hb) (by simp; exact hs.lt l li b e1 hb) rfl rfl rfl (jA _) (fun d=>by rw[hh]; simp) (by simp) (fun k _ hk=>setRow_other w b k _ hk) hle (fun b' o' v hv'=>?_) (fun o' v hv'=>?_) ?_
      ·cases fz
       ·exact .inl hv'
       ·simp only[zGB,if_true,hA]at hv';split at hv'
        ·rename_i hbb; exact .inr hbb
        ·exact .inl hv'
      ·cases fz
       ·simp only[zGB]at hv'; rw[if_neg (by simp)]at hv'; simp only at k6; rw[k6]at hv'; cases hv'
       ·simp only[zGB,if_true,hA]at hv';rw[cell_of_row _ _ _ _ _ _ hheap];rw[←hcur,jB5]at hv';split at hv'
        ·simpa using hv'
        ·cases hv'
      ·have hll:=zDU (li':=⟨some b,li.cap,n+m,true⟩) e1 e2 rfl (by simp only; omega);simp only[zL];refine⟨trivial,trivial,by rw[jA7,hcl,hyl,jAt],.inr ⟨b,_,rfl,hheap,hroom,k2,?_,?_,?_,?_⟩⟩
       ·simp only[jBp,jA7,jB2,jC3,jAs];omega
       ·rw[hcur];exact zN.mono hle hll _ (k4.append g1)
       ·rw[hcur];intro u hu;rcases jAj.1 hu with hu | hu
        ·exact k5 u hu
        ·exact g3 u hu
       ·rw[hcur];cases fz
        ·exact k6
        ·refine⟨fun j u hu=>by simp[zGB,hA,hu],fun o ho=>?_⟩;simp only[zGB,if_true,hA];exact jB6 (by rw[hpl]; exact ho)
     refine⟨_,_,_,_,by rw[hv]; exact hr,hnx,hle,?_⟩;simp only[Rel];exact⟨rfl,_,jAi hlL,rfl,jA _,fun _=>rfl⟩
    ·have hr:=run_append_grow (P:=P) w t ty e i z ht hi hz ⟨b,0,none⟩ n li.cap (cur.toList.take (n*i.size)) (by rw[jB2,jAs,k3]; exact jAw (jBc _ k1))
      (fun j u hu=>by
       rw[Addr.add_lit,cell_of_row w b _ cur e (0,0) hh];rw[jB5]at hu;split at hu
       ·simpa using hu
       ·cases hu) ⟨yb,yo,none⟩ m c us g2 g4 (by omega) (by omega) (growslice_fits (by omega) hby)
     refine fresh (cur.toList.take (n*i.size)) li.cap k4 k5 (by rw[jB2,jAs,k3]; exact jAw (jBc _ k1)) (by omega) ?_;rw[hv];exact hr
end
end Go.Abs
namespace Go.Abs
section
variable {P:Program}{H:Mem}{L:List LI} {σ : St}{w:World}{N:Nat}{env:Env}{a:Act}
theorem qX {α : Type}{l:List α}{x y : α}{i:Nat}(h:(l++[x])[i]?=some y):l[i]?=some y∨(i=l.length∧y=x):=by
 rcases jAn i l.length with hi | hi
 ·rw[jAc hi]at h; exact .inl h
 ·rw[jAo hi]at h;have h0:i-l.length=0:=by
   rcases Nat.eq_zero_or_pos (i-l.length)with h0 | h0
   ·exact h0
   ·rw[jB6 (by simp; omega)]at h; cases h
  rw[h0]at h;simp only[jAq,jA0]at h;exact .inr ⟨by omega,h.symm⟩
theorem zCh (hs:RelSt H L σ w)(e:TypeId)(sz:Nat):Nxt H L w H (L++[(⟨none,0,0,true⟩:LI)]) (σ++[AObj.row false e sz 0 []]) w:=by
 have hll:=LLe.append L [⟨none,0,0,true⟩];refine⟨⟨hs.pers,by simp[hs.len],fun i l o hL hσ=>?_,fun i j x y b hi hj hx hy=>?_,fun i x b hi hx=>?_⟩,Step.refl _ _ _,hll,fun b ⟨i,x,hi,hx⟩=>?_⟩
 ·rcases qX hL with hL' | ⟨rfl,rfl⟩
  ·have hi:i<L.length:=(jA1.1 hL').1;rw[jAc (by rw[←hs.len]; exact hi)]at hσ;exact(hs.obj i l o hL' hσ).carry (fun _ _=>rfl) (HLe.refl _) hll (fun _ _ _=>rfl)
  ·rw[hs.len]at hσ;rw[jAo (jA _)]at hσ;simp only[jBx,jAq,jA0]at hσ;subst hσ;simp[zL]
 ·rcases qX hi with hi' | ⟨rfl,rfl⟩
  ·rcases qX hj with hj' | ⟨rfl,rfl⟩
   ·exact hs.inj i j x y b hi' hj' hx hy
   ·cases hy
  ·cases hx
 ·rcases qX hi with hi' | ⟨rfl,rfl⟩
  ·exact hs.lt i x b hi' hx
  ·cases hx
 ·rcases qX hi with hi' | ⟨rfl,rfl⟩
  ·exact .inl ⟨i,x,hi',hx⟩
  ·cases hx
theorem zLB {σ τ : St}{sz:Nat}{x:A}{r:Nat×List A}(h:zBr σ sz x=some r):zBr (σ++τ) sz x=some r:=by
 cases x<;>simp only[zBr]at h⊢<;>try exact h
 rename_i l n;split at h<;>try (cases h; done)
 rename_i hds;rw[jAc (jA1.1 hds).1,hds];exact h
theorem zX0 {t ty e:TypeId}{i:TypeInfo}{z:Value}(ht:P.underlying t=some (.slice e))(hi:P.info? e=some i)(hz:i.zero=some z)(hzc:zAk z.cells.toList=true)(hzs:z.cells.size=i.size)(hsz:0<i.size)
 (hs:RelSt H L σ w){y:Value}{ya:A}{m:Nat}{ys:List A}(hy:Rel H L ya y)(hye:zBr σ i.size ya=some (m,ys))(hyl:ys.length=m*i.size)
 (hm:m≤maxLen)(hby:m*i.bytes≤140737488355328) :
 ∃v' w' H' L',(Builtin.append_ #[t,t] ty #[.slice none 0 0,y]).run P w=.ok v' w'∧Nxt H L w H' L' (σ++[AObj.row false e i.size m ys]) w'∧HLe H H'∧Rel H' L' (.row σ.length m) v':=by
 have hn:=zCh hs e i.size;have hσ : (σ++[AObj.row false e i.size 0 []])[σ.length]?=some (.row false e i.size 0 []):=by simp
 have hx:Rel H (L++[(⟨none,0,0,true⟩:LI)]) (.row σ.length 0) (.slice none 0 0):=by simp only[Rel];exact⟨rfl,⟨none,0,0,true⟩,by rw[←hs.len]; simp,rfl,jA _,fun _=>rfl⟩
 obtain⟨v',w',H',L',h1,h2,h3,h4⟩:=zSh (ty:=ty) ht hi hz hzc hzs hsz hn.st hσ hx (Rel.mono (HLe.refl _) (LLe.append _ _) _ hy) (zLB hye) hyl (by simpa using hm) (by simpa using hby);refine⟨v',w',H',L',h1,?_,h3,by simpa using h4⟩;have:=hn.trans h2;have he:(σ++[AObj.row false e i.size 0 []]).set σ.length (AObj.row false e i.size (0+m) ([]++ys)) = σ++[AObj.row false e i.size m ys]:=by simp
 rw[he]at this;exact this
theorem zUW {t ty e:TypeId}{i:TypeInfo}{z:Value}(ht:P.underlying t=some (.slice e))(hi:P.info? e=some i)(hz:i.zero=some z)(hzs:z.cells.size=i.size)(hsz:0<i.size)
 (hs:RelSt H L σ w){n:Nat}{cs:List A}{s y:Value}(hx:Rel H L (.fsl n cs) s)(hcl:cs.length=n*i.size){ya:A}{m:Nat}{ys:List A}(hy:Rel H L ya y)(hye:zBr σ i.size ya=some (m,ys))(hyl:ys.length=m*i.size)
 (hm0:m≠0)(hm:n+m≤maxLen)(hby:(n+m)*i.bytes≤140737488355328) :
 ∃v' w' H' L',(Builtin.append_ #[t,t] ty #[s,y]).run P w=.ok v' w'∧Nxt H L w H' L' (σ++[AObj.row false e i.size (n+m) (cs++ys)]) w'∧HLe H H'∧Rel H' L' (.row σ.length (n+m)) v':=by
 obtain⟨ad,c,rfl,hels⟩:=zGt hs hy hye hyl hsz;rcases hels with h0 | ⟨yb,yo,us,rfl,g1,g2,g3,g4⟩
 ·exact(hm0 h0).elim
 have hn:=zCh hs e i.size;have hsm:n+m≤9223372036854775807:=by simp only[maxLen]at hm; omega
 have e1:(L++[(⟨none,0,0,true⟩:LI)])[σ.length]?=some (⟨none,0,0,true⟩:LI):=by rw[←hs.len]; simp
 have fresh:∀(olds:List Value) (old:Nat),zN H L cs olds→(∀u∈olds,one u)→old<n+m →
  (Builtin.append_ #[t,t] ty #[s,.slice (some ⟨yb,yo,none⟩) m c]).run P w=.ok (.slice (some ⟨w.heap.size,0,none⟩) (n+m) (grownCap w (n+m) old e))
   (w.drew.alloc (.cells (olds.toArray++us.toArray++Builtin.zeroCells z.cells (grownCap w (n+m) old e-(n+m))) e)) →
  ∃v' w' H' L',(Builtin.append_ #[t,t] ty #[s,.slice (some ⟨yb,yo,none⟩) m c]).run P w=.ok v' w'∧Nxt H L w H' L' (σ++[AObj.row false e i.size (n+m) (cs++ys)]) w'∧HLe H H'∧Rel H' L' (.row σ.length (n+m)) v':=by
  intro olds old ho1 ho2 ho4 hrun;have ho3:olds.length=n*i.size:=by rw[ho1.length,hcl]
  have hge:=grownCap_ge w (n+m) old e;have hcm:grownCap w (n+m) old e≤maxLen:=grownCap_le_maxLen w (n+m) old e hm;have hpl:(olds++us).length=(n+m)*i.size:=by rw[jA7,ho3,g2,jAt]
  have hcur:(olds.toArray++us.toArray++Builtin.zeroCells z.cells (grownCap w (n+m) old e-(n+m))).toList.take ((n+m)*i.size)=olds++us:=by simp only[Array.toList_append,jB1];rw[←jB1,←hpl];exact List.take_left
  have hheap:(w.drew.alloc (.cells (olds.toArray++us.toArray++Builtin.zeroCells z.cells (grownCap w (n+m) old e-(n+m))) e)).heap[w.heap.size]?=some (.cells (olds.toArray++us.toArray++Builtin.zeroCells z.cells (grownCap w (n+m) old e-(n+m))) e (0,0)):=heap_alloc_new w.drew _;have hnone:∀o,H w.heap.size o=none:=fun o=>by
   cases hH:H w.heap.size o with
   | none=>rfl
   | some v=>have:=hs.h_lt hH; omega
  have hll:=zDU (li':=(⟨some w.heap.size,grownCap w (n+m) old e,n+m,true⟩:LI)) e1 rfl rfl (by simp only; omega);have hnx:Nxt H (L++[(⟨none,0,0,true⟩:LI)]) w H ((L++[(⟨none,0,0,true⟩:LI)]).set σ.length (⟨some w.heap.size,grownCap w (n+m) old e,n+m,true⟩:LI))
   ((σ++[AObj.row false e i.size 0 []]).set σ.length (AObj.row false e i.size (n+m) (cs++ys)))
   (w.drew.alloc (.cells (olds.toArray++us.toArray++Builtin.zeroCells z.cells (grownCap w (n+m) old e-(n+m))) e)):=by
   refine zIa hn.st e1 rfl rfl (by simp only; omega) rfl (.inr (jA _)) (by simp) rfl rfl rfl (jC9 _) (fun d=>by simp) (by simp) (fun k hk _=>heap_alloc_old w.drew _ (h:=hk)) (HLe.refl _) (fun b' o' v hv'=>.inl hv')
    (fun o' v hv'=>by rw[hnone]at hv'; cases hv') ?_
   simp only[zL];refine⟨trivial,trivial,by rw[jA7,hcl,hyl,jAt],.inr ⟨w.heap.size,_,rfl,hheap,hge,hcm,?_,?_,?_,hnone⟩⟩
   ·simp only[Array.size_append,jBp,size_zeroCells,hzs,ho3,g2,←jAt]
    congr 1
    omega
   ·rw[hcur];exact zN.mono (HLe.refl _) ((LLe.append _ _).trans hll) _ (ho1.append g1)
   ·rw[hcur];intro u hu;rcases jAj.1 hu with hu | hu
    ·exact ho2 u hu
    ·exact g3 u hu
  have he:(σ++[AObj.row false e i.size 0 []]).set σ.length (AObj.row false e i.size (n+m) (cs++ys)) = σ++[AObj.row false e i.size (n+m) (cs++ys)]:=by simp
  rw[he]at hnx;refine⟨_,_,_,_,hrun,hn.trans hnx,HLe.refl _,?_⟩;simp only[Rel];exact⟨rfl,_,jAi (jA1.1 e1).1,rfl,jA _,fun _=>rfl⟩
 simp only[Rel]at hx;obtain⟨sa,rfl,hnm,hcs⟩:=hx;rcases hcs with ⟨rfl,rfl⟩ | ⟨b,o,vs,rfl,k1,k2,k3⟩
 ·cases sa with
  | none =>
   have hr:=run_append_nil (P:=P) w t ty e i z ht hi hz ⟨yb,yo,none⟩ m c us g2 g4 (by omega) (by omega) (by simp only[jAr]at hby; omega);refine fresh [] 0 jK (by simp) (by omega) ?_
   simpa using hr
  | some ba =>
   have hr:=run_append_grow (P:=P) w t ty e i z ht hi hz ba 0 0 [] (by simp) (by simp) ⟨yb,yo,none⟩ m c us g2 g4 (by omega) (by omega) (growslice_fits (by omega) hby);exact fresh [] 0 jK (by simp) (by omega) hr
 ·have hr:=run_append_grow (P:=P) w t ty e i z ht hi hz ⟨b,o,none⟩ n n vs (by rw[k1.length,hcl]) (fun j u hu=>by rw[Addr.add_lit]; exact hs.pers _ _ _ (k3 j u hu)) ⟨yb,yo,none⟩ m c us g2 g4 (by omega) (by omega) (growslice_fits (by omega) hby);exact fresh vs n k1 k2 (by omega) hr
theorem zX1 {t ty e:TypeId}{i:TypeInfo}{z:Value}(ht:P.underlying t=some (.slice e))(hi:P.info? e=some i)(hz:i.zero=some z)(hzs:z.cells.size=i.size)(hsz:0<i.size)
 (hs:RelSt H L σ w){l n o k:Nat}{cs:List A}{s y:Value}(hσ : σ[l]?=some (.row false e i.size n cs))(hx:Rel H L (.win l n o k i.size) s)(hok:o+k*i.size=n*i.size)
 {ya:A}{m:Nat}{ys:List A}(hy:Rel H L ya y)(hye:zBr σ i.size ya=some (m,ys))(hyl:ys.length=m*i.size)(hm0:m≠0)(hm:n+m≤maxLen)(hby:(n+m)*i.bytes≤140737488355328) :
 (∃v' w' L',(Builtin.append_ #[t,t] ty #[s,y]).run P w=.ok v' w'∧Nxt H L w H L' (σ.set l (.row false e i.size (n+m) (cs++ys))) w'∧Rel H L' (.win l (n+m) o (k+m) i.size) v') ∨
 ∃v' w' L',(Builtin.append_ #[t,t] ty #[s,y]).run P w=.ok v' w'∧Nxt H L w H L' (σ++[AObj.row false e i.size (k+m) (cs.drop o++ys)]) w'∧Rel H L' (.win σ.length (k+m) 0 (k+m) i.size) v':=by
 obtain⟨ad',c,rfl,hels⟩:=zGt hs hy hye hyl hsz;rcases hels with h0 | ⟨yb,yo,us,rfl,g1,g2,g3,g4⟩
 ·exact(hm0 h0).elim
 simp only[Rel]at hx;obtain⟨hs1,li,e1,e2,e3,hv⟩:=hx;have hob:=hs.obj l li _ e1 hσ;simp only[zL]at hob;obtain⟨_,hln,hcl,hob⟩:=hob;obtain⟨g0,ad,cap,rfl,k1,k2,k3⟩:=hv hln.symm;have hlσ : l < σ.length:=(jA1.1 hσ).1;have hlL:l<L.length:=(jA1.1 e1).1;have hby2:(k+m)*i.bytes≤140737488355328:=jBt (jBc _ (by omega)) hby;have fresh:∀(olds:List Value) (old:Nat),zN H L (cs.drop o) olds→(∀u∈olds,one u)→old<k+m →
  (Builtin.append_ #[t,t] ty #[.slice ad k cap,.slice (some ⟨yb,yo,none⟩) m c]).run P w=.ok (.slice (some ⟨w.heap.size,0,none⟩) (k+m) (grownCap w (k+m) old e))
   (w.drew.alloc (.cells (olds.toArray++us.toArray++Builtin.zeroCells z.cells (grownCap w (k+m) old e-(k+m))) e)) →
  ∃v' w' L',(Builtin.append_ #[t,t] ty #[.slice ad k cap,.slice (some ⟨yb,yo,none⟩) m c]).run P w=.ok v' w'∧Nxt H L w H L' (σ++[AObj.row false e i.size (k+m) (cs.drop o++ys)]) w'∧Rel H L' (.win σ.length (k+m) 0 (k+m) i.size) v':=by
  intro olds old ho1 ho2 ho4 hrun;have ho3:olds.length=k*i.size:=by rw[ho1.length,jC3,hcl]; omega
  have hge:=grownCap_ge w (k+m) old e;have hcm:grownCap w (k+m) old e≤maxLen:=grownCap_le_maxLen w (k+m) old e (by omega);have hpl:(olds++us).length=(k+m)*i.size:=by rw[jA7,ho3,g2,jAt]
  have hcur:(olds.toArray++us.toArray++Builtin.zeroCells z.cells (grownCap w (k+m) old e-(k+m))).toList.take ((k+m)*i.size)=olds++us:=by simp only[Array.toList_append,jB1];rw[←jB1,←hpl];exact List.take_left
  have hnone:∀o,H w.heap.size o=none:=fun o=>by
   cases hH:H w.heap.size o with
   | none=>rfl
   | some v=>have:=hs.h_lt hH; omega
  have hn:=zCh hs e i.size;have e1:(L++[(⟨none,0,0,true⟩:LI)])[σ.length]?=some (⟨none,0,0,true⟩:LI):=by rw[←hs.len]; simp
  have hheap:(w.drew.alloc (.cells (olds.toArray++us.toArray++Builtin.zeroCells z.cells (grownCap w (k+m) old e-(k+m))) e)).heap[w.heap.size]?=some (.cells (olds.toArray++us.toArray++Builtin.zeroCells z.cells (grownCap w (k+m) old e-(k+m))) e (0,0)):=heap_alloc_new w.drew _;have hll:=zDU (li':=(⟨some w.heap.size,grownCap w (k+m) old e,k+m,true⟩:LI)) e1 rfl rfl (by simp only; omega);have hnx:Nxt H (L++[(⟨none,0,0,true⟩:LI)]) w H ((L++[(⟨none,0,0,true⟩:LI)]).set σ.length (⟨some w.heap.size,grownCap w (k+m) old e,k+m,true⟩:LI))
   ((σ++[AObj.row false e i.size 0 []]).set σ.length (AObj.row false e i.size (k+m) (cs.drop o++ys)))
   (w.drew.alloc (.cells (olds.toArray++us.toArray++Builtin.zeroCells z.cells (grownCap w (k+m) old e-(k+m))) e)):=by
   refine zIa hn.st e1 rfl rfl (by simp only; omega) rfl (.inr (jA _)) (by simp) rfl rfl rfl (jC9 _) (fun d=>by simp) (by simp) (fun k hk _=>heap_alloc_old w.drew _ (h:=hk)) (HLe.refl _) (fun b' o' v hv'=>.inl hv')
    (fun o' v hv'=>by rw[hnone]at hv'; cases hv') ?_
   simp only[zL];refine⟨trivial,trivial,by rw[jA7,hyl,jC3,hcl,jAt]; omega,.inr ⟨w.heap.size,_,rfl,hheap,hge,hcm,?_,?_,?_,hnone⟩⟩
   ·simp only[Array.size_append,jBp,size_zeroCells,hzs,ho3,g2,←jAt]
    congr 1
    omega
   ·rw[hcur];exact zN.mono (HLe.refl _) ((LLe.append _ _).trans hll) _ (ho1.append g1)
   ·rw[hcur];intro u hu;rcases jAj.1 hu with hu | hu
    ·exact ho2 u hu
    ·exact g3 u hu
  have he:(σ++[AObj.row false e i.size 0 []]).set σ.length (AObj.row false e i.size (k+m) (cs.drop o++ys)) = σ++[AObj.row false e i.size (k+m) (cs.drop o++ys)]:=by simp
  rw[he]at hnx;refine⟨_,_,_,hrun,hn.trans hnx,?_⟩;simp only[Rel];exact⟨rfl,_,jAi (jA1.1 e1).1,rfl,jA _,fun _=>⟨jA _,_,_,rfl,hge,hcm,.inr ⟨_,rfl,rfl,by simp⟩⟩⟩
 rcases k3 with hc0 | ⟨b,hb,rfl,hcap⟩
 ·clear hob;have hk0:k=0:=by omega
  subst hk0 hc0;have hdr:cs.drop o=[]:=jCv (by rw[hcl]; omega);right;cases ad with
  | none =>
   have hr:=run_append_nil (P:=P) w t ty e i z ht hi hz ⟨yb,yo,none⟩ m c us g2 g4 (by omega) (by simp only[maxLen]at hm; omega) (by simp only[jAr]at hby2; omega);refine fresh [] 0 (by rw[hdr]; exact jK) (by simp) (by omega) ?_
   simpa using hr
  | some ba =>
   have hr:=run_append_grow (P:=P) w t ty e i z ht hi hz ba 0 0 [] (by simp) (by simp) ⟨yb,yo,none⟩ m c us g2 g4 (by omega) (by simp only[maxLen]at hm; omega) (growslice_fits (by omega) hby2);exact fresh [] 0 (by rw[hdr]; exact jK) (by simp) (by omega) hr
 ·rcases hob with ⟨h0,_⟩ | ⟨b',cur,hb',hh,q1,q2,q3,q4,q5,q6⟩
  ·rw[hb]at h0; cases h0
  rw[hb]at hb';cases hb';have hncur:n*i.size≤cur.size:=by rw[q3]; exact jBc _ q1
  by_cases hroom:k+m≤cap
  ·left;have hnm:n+m≤li.cap:=by
    have h1:(k+m)*i.size≤cap*i.size:=jBc _ hroom;have h2:(n+m)*i.size≤li.cap*i.size:=by rw[jAt]at h1 ⊢; omega
    exact Nat.le_of_mul_le_mul_right h2 hsz
   have hfit:o+k*i.size+us.length≤cur.size:=by rw[g2,q3,hok,←jAt]; exact jBc _ hnm
   have hf:=run_firstCells_some (P:=P) w i.size m ⟨yb,yo,none⟩ m c us g2 g4;have hst:=run_storeCells_at P b (o+k*i.size) e us 0 cur w hh (by simpa using hfit) g3;simp only[jBn]at hst;have hrun:(Builtin.append_ #[t,t] ty #[.slice (some ⟨b,o,none⟩) k cap,.slice (some ⟨yb,yo,none⟩) m c]).run P w =
    .ok (.slice (some ⟨b,o,none⟩) (k+m) cap) (w.setRow b (cur.toList.take (o+k*i.size)++us++cur.toList.drop (o+k*i.size+us.length)).toArray):=by
    simp[Builtin.append_,run_underlying ht,sizeOf,typeInfo,hi,Builtin.lenOf,hroom,hf,Addr.add_lit,hst]
   rw[hok]at hrun hfit;have hpl:(cur.toList.take (n*i.size)++us).length=(n+m)*i.size:=by rw[jA7,g2,jAt,jB2,jAs,jAw (by omega)]
   have hcur:(cur.toList.take (n*i.size)++us++cur.toList.drop (n*i.size+us.length)).take ((n+m)*i.size)=cur.toList.take (n*i.size)++us:=by rw[←hpl]; exact List.take_left
   have hheap:=setRow_heap w b cur (cur.toList.take (n*i.size)++us++cur.toList.drop (n*i.size+us.length)).toArray e (0,0) hh;have hnx:Nxt H L w H (L.set l ⟨some b,li.cap,n+m,true⟩) (σ.set l (.row false e i.size (n+m) (cs++ys)))
    (w.setRow b (cur.toList.take (n*i.size)++us++cur.toList.drop (n*i.size+us.length)).toArray):=by
    refine zIa hs e1 e2 rfl (by simp only; omega) rfl (.inl hb) (by simp; exact hs.lt l li b e1 hb) rfl rfl rfl (jA _) (fun d=>by rw[hh]; simp) (by simp) (fun k _ hk=>setRow_other w b k _ hk) (HLe.refl _) (fun b' o' v hv'=>.inl hv') (fun o' v hv'=>by rw[q6]at hv'; cases hv') ?_;have hll:=zDU (li':=(⟨some b,li.cap,n+m,true⟩:LI)) e1 e2 rfl (by simp only; omega);simp only[zL];refine⟨trivial,trivial,by rw[jA7,hcl,hyl,jAt],.inr ⟨b,_,rfl,hheap,hnm,q2,?_,?_,?_,q6⟩⟩
    ·simp only[jBp,jA7,jB2,jC3,jAs];omega
    ·rw[hcur];exact zN.mono (HLe.refl _) hll _ (q4.append g1)
    ·rw[hcur];intro u hu;rcases jAj.1 hu with hu | hu
     ·exact q5 u hu
     ·exact g3 u hu
   refine⟨_,_,_,hrun,hnx,?_⟩;simp only[Rel];exact⟨rfl,_,jAi hlL,rfl,jA _,fun _=>⟨by omega,_,_,rfl,hroom,k2,.inr ⟨b,rfl,rfl,hcap⟩⟩⟩
  ·right;have hlen:((cur.toList.take (n*i.size)).drop o).length=k*i.size:=by rw[jC3,jB2,jAs,jAw hncur]; omega
   have hr:=run_append_grow (P:=P) w t ty e i z ht hi hz ⟨b,o,none⟩ k cap ((cur.toList.take (n*i.size)).drop o) hlen
    (fun j u hu=>by
     rw[Addr.add_lit,cell_of_row w b _ cur e (0,0) hh];rw[jD3,jB5]at hu;split at hu
     ·simpa using hu
     ·cases hu) ⟨yb,yo,none⟩ m c us g2 g4 (by omega) (by simp only[maxLen]at hm; omega) (growslice_fits (by omega) hby2)
   exact fresh _ cap (q4.drop o) (fun u hu=>q5 u (jBo hu)) (by omega) hr
theorem zSJ (hs:RelSt H L σ w){l b n h sz:Nat}{li:LI}{e:TypeId}{cs:List A}(hL:L[l]?=some li)(hr:li.isRow=true)(hb:li.block=some b)(hσ : σ[l]?=some (.row false e sz n cs))(hh:h≤n) :
 Nxt H L w H (L.set l ⟨none,0,li.len+1,true⟩++[⟨some b,li.cap,h,true⟩]) (σ.set l .dead++[AObj.row false e sz h (cs.take (h*sz))]) w:=by
 have hll:=(zDU (li':=(⟨none,0,li.len+1,true⟩:LI)) hL hr rfl (Nat.lt_succ_self _)).trans (LLe.append _ [⟨some b,li.cap,h,true⟩]);have hl:l<L.length:=(jA1.1 hL).1;have get:∀(i:Nat) x,(L.set l ⟨none,0,li.len+1,true⟩++[(⟨some b,li.cap,h,true⟩:LI)])[i]?=some x→(i=l∧x.block=none)∨(i≠l∧L[i]?=some x)∨(i=L.length∧x=⟨some b,li.cap,h,true⟩):=by
  intro i x hx;rcases qX hx with hx | ⟨rfl,rfl⟩
  ·by_cases hi:i=l
   ·subst hi;rw[jAi hl]at hx;cases hx;exact .inl ⟨rfl,rfl⟩
   ·rw[jA8 (Ne.symm hi)]at hx;exact .inr (.inl ⟨hi,hx⟩)
  ·exact .inr (.inr ⟨by simp,rfl⟩)
 have hob:=hs.obj l li _ hL hσ;simp only[zL]at hob;obtain⟨_,hlen,hcl,hob⟩:=hob;refine⟨⟨hs.pers,by simp[hs.len],fun i x o hx ho=>?_,fun i j x y b' hi hj hx hy=>?_,fun i x b' hi hx=>?_⟩,Step.refl _ _ _,hll,fun b' ⟨i,x,hi,hx⟩=>?_⟩
 ·rcases get i x hx with ⟨rfl,_⟩ | ⟨hi,hx'⟩ | ⟨rfl,rfl⟩
  ·rw[jAc (by rw[jBl,←hs.len]; exact hl),jAi (by rw[←hs.len]; exact hl)]at ho;cases ho;trivial
  ·rw[jAc (by rw[jBl,←hs.len]; exact(jA1.1 hx').1),jA8 (Ne.symm hi)]at ho;exact(hs.obj i x o hx' ho).carry (fun _ _=>rfl) (HLe.refl _) hll (fun _ _ _=>rfl)
  ·rw[hs.len,jAo (by simp)]at ho;simp only[jBl,jBx,jAq,jA0]at ho;subst ho;simp only[zL];have hmul:h*sz≤n*sz:=jBc _ hh;refine⟨trivial,trivial,by rw[jB2,hcl,jAw hmul],.inr ?_⟩;rcases hob with ⟨h0,_⟩ | ⟨b',cur,hb',k1,k2,k3,k4,k5,k6,k7⟩
   ·rw[hb]at h0; cases h0
   ·rw[hb]at hb';cases hb';have ht:cur.toList.take (h*sz)=(cur.toList.take (n*sz)).take (h*sz):=by rw[List.take_take,jAw hmul]
    refine⟨b,cur,rfl,k1,by omega,k3,k4,by rw[ht]; exact zN.mono (HLe.refl _) hll _ (k5.take _),fun u hu=>k6 u ?_,k7⟩;rw[ht]at hu;exact jCc hu
 ·rcases get i x hi with ⟨_,h0⟩ | ⟨hi1,hi'⟩ | ⟨rfl,rfl⟩
  ·rw[h0]at hx; cases hx
  ·rcases get j y hj with ⟨_,h0⟩ | ⟨hj1,hj'⟩ | ⟨rfl,rfl⟩
   ·rw[h0]at hy; cases hy
   ·exact hs.inj i j x y b' hi' hj' hx hy
   ·cases hy;exact(hi1 (hs.inj i l x li _ hi' hL hx hb)).elim
  ·cases hx;rcases get j y hj with ⟨_,h0⟩ | ⟨hj1,hj'⟩ | ⟨rfl,rfl⟩
   ·rw[h0]at hy; cases hy
   ·exact(hj1 (hs.inj j l y li _ hj' hL hy hb)).elim
   ·rfl
 ·rcases get i x hi with ⟨_,h0⟩ | ⟨hi1,hi'⟩ | ⟨rfl,rfl⟩
  ·rw[h0]at hx; cases hx
  ·exact hs.lt i x b' hi' hx
  ·cases hx; exact hs.lt l li _ hL hb
 ·rcases get i x hi with ⟨_,h0⟩ | ⟨hi1,hi'⟩ | ⟨rfl,rfl⟩
  ·rw[h0]at hx; cases hx
  ·exact .inl ⟨i,x,hi',hx⟩
  ·cases hx; exact .inl ⟨l,li,hL,hb⟩
inductive Out where
 | ret (r:A)
 | pan (v:Value)
def zGR (H:Mem)(L:List LI):Out→Ending→Prop
 | .ret r,e=>∃v,e=.returned v∧Rel H L r v
 | .pan v,e=>e=.panicked [{v,recovered:=false}]
def yY (P:Program)(f:FuncId)(args:List A) (σ : St)(Q:Out→St→Prop):Prop :=
 ∀(H:Mem) (L:List LI) (w:World) (vs:List Value),RelSt H L σ w→zN H L args vs →
  Calls P f vs.toArray w fun e w'=>∃o σ' H' L',zGR H' L' o e∧Nxt H L w H' L' σ' w'∧Q o σ'
def zCp (P:Program)(b:Nat)(args:List A) (σ : St)(Q:Out→St→Prop):Prop :=
 ∀(H:Mem) (L:List LI) (w:World) (vs:List Value),RelSt H L σ w→zN H L args vs →
  ∃f tmps x y,(Instr.yield b vs.toArray).run P w=.ok (.round b f tmps x y) w∧RoundIn Fence.wide 0 P b f tmps x y w fun e w'=>∃o σ' H' L',zGR H' L' o e∧Nxt H L w H' L' σ' w'∧Q o σ'
def Wr (r:Option Nat):Fence:={Fence.wide with round:=r}
def qQ (o:Option (Prop×A))(J:A→Prop):Prop:=match o with
 | some (p,r)=>p∧J r
 | none=>False
def zHp (d:Option Nat)(env:Env)(K:Env→St→Prop)(Qp:Value→Env→St→Prop):Out→St→Prop
 | .ret r,σ'=>K (env.put d r) σ'
 | .pan v,σ'=>Qp v env σ'
def zFu (t:Bool)(A B:Env→St→Prop)(env:Env) (σ : St):Prop:=(t=true→A env σ)∧(t=false→B env σ)
def zGn (d:Option Nat)(K:Env→St→Prop)(env:Env) (σ : St):Prop:=K (env.put d (.lit undef)) σ
noncomputable def wpO (P:Program) (Qp:Value→Env→St→Prop) (K:Env→St→Prop):KOp→Env→St→Prop
 | .alloc d zs,env,σ=>K (env.put d (.ptr σ.length 0)) (σ++[.box (zs.map qN)])
 | .box d x,env,σ=>match cellsOf (ev env x)with
  | some cs=>K (env.put d (.ptr σ.length 0)) (σ++[.box cs])
  | none=>False
 | .bslice d _ _ n zero parts,env,σ=>match zBb (zero.map qN) (parts.map fun(o,s,x)=>(o,s,ev env x))with
  | some cs=>K (env.put d (.fsl n cs)) σ
  | none=>False
 | .isz d ng x,env,σ=>match ev env x with
  | .nil=>K (env.put d (.lit (.bool !ng))) σ
  | .sl n _=>K (env.put d (.lit (.bool ng))) σ∧(n=0→K (env.put d (.lit (.bool !ng))) σ)
  | .row l n=>(match σ[l]? with
   | some (.row _ _ _ m _)=>n=m∧K (env.put d (.lit (.bool ng))) σ∧(n=0→K (env.put d (.lit (.bool !ng))) σ)
   | _=>False)
  | _=>False
 | .apq d e sz bytes x y,env,σ=>match zBr σ sz (ev env y),ev env x with
  | some (m,ys),.win l n o k c=>(match σ[l]? with
   | some (.row false e' s n' cs)=>(ys.length=m*sz∧m≠0∧n=n'∧e'=e∧s=sz∧c=sz∧o+k*sz=n*sz∧n+m≤maxLen∧(n+m)*bytes≤140737488355328) ∧
    K (env.put d (.win l (n+m) o (k+m) sz)) (σ.set l (.row false e sz (n+m) (cs++ys)))∧K (env.put d (.win σ.length (k+m) 0 (k+m) sz)) (σ++[.row false e sz (k+m) (cs.drop o++ys)])
   | _=>False)
  | _,_=>False
 | .shr d x sz hx,env,σ=>match ev env x,ev env hx with
  | .row l n,.lit (.int _ h)=>(match σ[l]? with
   | some (.row false e s m cs)=>(n=m∧s=sz∧0≤h∧h≤n∧n≠0)∧K (env.put d (.row σ.length h.toNat)) (σ.set l .dead++[.row false e sz h.toNat (cs.take (h.toNat*sz))])
   | _=>False)
  | _,_=>False
 | .brow d e sz n zero parts,env,σ=>match zBb (zero.map qN) (parts.map fun(o,s,x)=>(o,s,ev env x))with
  | some cs=>K (env.put d (.row σ.length n)) (σ++[.row false e sz n cs])
  | none=>False
 | .st d x v n,env,σ=>match cellsOf (ev env v)with
  | some cs=>if cs.length=n then (match stA σ cs (ev env x)with
   | some σ'=>K (env.put d (.lit undef)) σ'
   | none=>False) else False
  | none=>False
 | .app d e sz bytes x y,env,σ=>match zBr σ sz (ev env y)with
  | some (m,ys)=>ys.length=m*sz∧(match ev env x with
   | .nil=>(m≤maxLen∧m*bytes≤140737488355328)∧K (env.put d (.row σ.length m)) (σ++[.row false e sz m ys])
   | .row l n=>(match σ[l]? with
    | some (.row fz e' s n' cs)=>if n=n'∧e'=e∧s=sz then (n+m≤maxLen∧(n+m)*bytes≤140737488355328)∧K (env.put d (.row l (n+m))) (σ.set l (.row fz e sz (n+m) (cs++ys))) else False
    | _=>False)
   | .fsl n cs=>cs.length=n*sz∧(m=0→K (env.put d (.fsl n cs)) σ)∧(m≠0→(n+m≤maxLen∧(n+m)*bytes≤140737488355328)∧K (env.put d (.row σ.length (n+m))) (σ++[.row false e sz (n+m) (cs++ys)]))
   | _=>False)
  | none=>False
 | .len d false x,env,σ=>match ev env x with
  | .sl n _=>n≤maxLen→K (env.put d (.lit (.int .i64 n))) σ
  | .fsl n _=>n≤maxLen→K (env.put d (.lit (.int .i64 n))) σ
  | _=>qQ (zG env σ (.len d false x)) fun r=>K (env.put d r) σ
 | .call d f args,env,σ=>match ev env f with
  | .clo g first cap=>zA P g=true∧yY P g (first++args.map (ev env)++cap) σ (zHp d env K Qp)
  | .lit (.func (.yield b) ⟨[]⟩ ⟨[]⟩)=>zCp P b (args.map (ev env)) σ (zHp d env K Qp)
  | _=>False
 | .alr d q zs,env,σ=>(match σ[q]? with
  | some .rsv=>K (env.put d (.ptr q 0)) (σ.set q (.box (zs.map qN)))
  | _=>False)
 | .mop d m xs,env,σ=>zBh m (xs.map (ev env)) (fun r σ'=>K (env.put d r) σ') σ
 | .pan _ x,env,σ=>(match ev env x with
  | .lit (.iface t v)=>Qp (.iface t v) env σ
  | _=>False)
 | k,env,σ=>qQ (zG env σ k) fun r=>K (env.put k.dst r) σ
end
end Go.Abs
