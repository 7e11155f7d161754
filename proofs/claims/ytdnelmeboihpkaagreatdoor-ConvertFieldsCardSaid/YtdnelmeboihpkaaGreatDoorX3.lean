/-
  append.
  append to nil and to a full slice; what every operation does; its soundness.
  Keys of maps that are made of integers: they are compared cell by cell, they may be keys, and they stay.
  The operations on maps: what they run to, and that they keep the abstract state.
-/
import Derived.Test.YtdnelmeboihpkaaGreatDoorX2
import Derived.RangeFuncRecord
import Derived.WideKeyRuns
import Derived.Maps.RangeRun
import Derived.Carry
set_option linter.unusedVariables false
set_option maxHeartbeats 8000000
set_option maxRecDepth 100000
set_option linter.unusedSimpArgs false
namespace Go.Abs
section
variable {P:Program}{H:Mem}{L:List LI} {σ : St}{w:World}{N:Nat}{env:Env}{a:Act}
theorem zEg {l:Nat}{li li':LI}(hl:L[l]?=some li)(h1:li.isRow=true)(h2:li'.isRow=true)(h3:li.len<li'.len):LLe L (L.set l li'):=by
 intro i x hx;by_cases hi:i=l
 ·subst hi;rw[hl]at hx;cases hx;exact⟨li',by rw[jAj (jA1.1 hl).1],.inr (.inl ⟨h1,h2,h3⟩)⟩
 ·exact⟨x,by rw[jA8 (Ne.symm hi)]; exact hx,.inl rfl⟩
theorem zIp (hs:RelSt H L σ w){l:Nat}{li li':LI}{b:Nat}{o:AObj}{H':Mem}{w':World}(hl:L[l]?=some li)(h1:li.isRow=true)(h2:li'.isRow=true)(h3:li.len<li'.len)
 (hb:li'.block=some b)(hold:li.block=some b∨w.heap.size≤b)(hlt:b<w'.heap.size)
 (hos:w'.os=w.os)(htape:w'.tape=w.tape)(hout:w'.output=w.output)(hdr:w.drawn≤w'.drawn)(hnd:∀d,w.heap[b]?≠some (.deferred d))(hsz:w.heap.size≤w'.heap.size)(hkeep:∀k,k<w.heap.size→k≠b→w'.heap[k]?=w.heap[k]?)
 (hle:HLe H H')(hnew:∀b' o' v,H' b' o'=some v→H b' o'=some v∨b'=b)(hpers:∀o' v,H' b o'=some v→w'.cell? ⟨b,o',none⟩=some v)
 (ho:zN H' (L.set l li') w' li' o):Nxt H L w H' (L.set l li') (σ.set l o) w':=by
 have hll:=zEg (li':=li') hl h1 h2 h3;have hll1:l<L.length:=(jA1.1 hl).1;have hget:∀{i:Nat} {x:LI},(L.set l li')[i]?=some x→(i=l∧x=li')∨(i≠l∧L[i]?=some x):=by
  intro i x hx;by_cases hi:i=l
  ·subst hi;rw[jAj hll1]at hx;cases hx;exact .inl ⟨rfl,rfl⟩
  ·rw[jA8 (Ne.symm hi)]at hx;exact .inr ⟨hi,hx⟩
 have hne:∀(i:Nat) l' b',L[i]?=some l'→l'.block=some b'→i≠l→b'≠b:=fun i l' b' g1 g2 hi e=>by
  rcases hold with h | h
  ·exact hi (hs.inj i l l' li b' g1 hl g2 (by rw[h,e]))
  ·have:=hs.lt i l' b' g1 g2; omega
 refine⟨⟨fun b' o' v hv=>?_,by simp[hs.len],fun i l' o' hL hσ=>?_,fun i j x y b' hi hj hx hy=>?_,fun i x b' hi hx=>?_⟩,
  ⟨hos,htape,hout,hsz,fun k hk hn=>hkeep k hk (fun e=>?_),hle,fun b' o' v hv=>?_,hdr,fun k d hk=>by
   have hks:=(jCz.1 hk).1;by_cases hkb:k=b
   ·subst hkb; exact(hnd d hk).elim
   ·rw[hkeep k hks hkb]; exact hk⟩,hll,fun b' ⟨i,x,hi,hx⟩=>?_⟩
 ·by_cases hbb:b'=b
  ·subst hbb; exact hpers o' v hv
  ·rcases hnew b' o' v hv with g | g
   ·have hc:=hs.pers b' o' v g;have hlt':=hs.h_lt g;simp only[World.cell?]at hc ⊢;rw[hkeep b' hlt' hbb];exact hc
   ·exact(hbb g).elim
 ·rcases hget hL with ⟨rfl,rfl⟩ | ⟨hi,hL'⟩
  ·rw[jAj (by rw[←hs.len]; exact hll1)]at hσ;cases hσ;exact ho
  ·rw[jA8 (Ne.symm hi)]at hσ;refine(hs.obj i l' o' hL' hσ).carry (fun b' hb'=>hkeep b' (hs.lt i l' b' hL' hb') (hne i l' b' hL' hb' hi)) hle hll (fun b' hb' o''=>?_);have hbne:=hne i l' b' hL' hb' hi;cases g1:H b' o'' with
   | some v=>exact hle _ _ _ g1
   | none =>
    cases g2:H' b' o'' with
    | none=>rfl
    | some v =>
     rcases hnew b' o'' v g2 with g3 | g3
     ·rw[g1]at g3; cases g3
     ·exact(hbne g3).elim
 ·rcases hget hi with ⟨rfl,rfl⟩ | ⟨hi',hi''⟩
  ·rcases hget hj with ⟨rfl,rfl⟩ | ⟨hj',hj''⟩
   ·rfl
   ·rw[hb]at hx; cases hx; exact(hne j y b hj'' hy hj' rfl).elim
  ·rcases hget hj with ⟨rfl,rfl⟩ | ⟨hj',hj''⟩
   ·rw[hb]at hy; cases hy; exact(hne i x b hi'' hx hi' rfl).elim
   ·exact hs.inj i j x y b' hi'' hj'' hx hy
 ·rcases hget hi with ⟨rfl,rfl⟩ | ⟨hi',hi''⟩
  ·rw[hb]at hx; cases hx; exact hlt
  ·exact jBy (hs.lt i x b' hi'' hx) hsz
 ·subst e;rcases hold with h | h
  ·exact hn ⟨l,li,hl,h⟩
  ·omega
 ·rcases hnew b' o' v hv with g | g
  ·exact .inl g
  ·subst g;rcases hold with h | h
   ·exact .inr (.inl ⟨l,li,hl,h⟩)
   ·exact .inr (.inr h)
 ·rcases hget hi with ⟨rfl,rfl⟩ | ⟨hi',hi''⟩
  ·rw[hb]at hx;cases hx;rcases hold with h | h
   ·exact .inl ⟨_,li,hl,h⟩
   ·exact .inr h
  ·exact .inl ⟨i,x,hi'',hx⟩
def zB5 (σ : St)(sz:Nat):A→Option (Nat×List A)
 | .nil=>some (0,[])
 | .sl m cs=>some (m,cs)
 | .fsl m cs=>some (m,cs)
 | .row l n=>match σ[l]? with
  | some (.row _ _ s m cs)=>if n=m∧s=sz then some (m,cs) else none
  | _=>none
 | _=>none
theorem zG4 (hs:RelSt H L σ w){x:A}{v:Value}{sz m:Nat}{cs:List A}(hx:Rel H L x v)(h:zB5 σ sz x=some (m,cs))(hlen:cs.length=m*sz)(hsz:0<sz) :
 ∃ad cap,v=.slice ad m cap∧(m=0∨∃b o,∃us:List Value,ad=some ⟨b,o,none⟩∧zT H L cs us∧us.length=m*sz∧(∀u∈us,one u)∧∀j u,us[j]?=some u→w.cell? ((⟨b,o,none⟩:Addr).add j)=some u):=by
 cases x<;>simp only[zB5]at h<;>try (cases h; done)
 case nil =>
  cases h;simp only[Rel]at hx;exact⟨_,_,hx,.inl rfl⟩
 case sl n ds =>
  cases h;simp only[Rel]at hx;obtain⟨ad,cap,hv,_,_,h3⟩:=hx;refine⟨ad,cap,hv,?_⟩;rcases h3 with ⟨h3,_⟩ | ⟨b,o,us,rfl,g1,g2,g3⟩
  ·exact .inl h3
  ·exact .inr ⟨b,o,us,rfl,g1,by rw[g1.length,hlen],g2,fun j u hu=>by rw[Addr.add_lit]; exact hs.pers _ _ _ (g3 j u hu)⟩
 case fsl n ds =>
  cases h;simp only[Rel]at hx;obtain⟨ad,hv,_,h3⟩:=hx;refine⟨ad,_,hv,?_⟩;rcases h3 with ⟨h3,_⟩ | ⟨b,o,us,rfl,g1,g2,g3⟩
  ·exact .inl h3
  ·exact .inr ⟨b,o,us,rfl,g1,by rw[g1.length,hlen],g2,fun j u hu=>by rw[Addr.add_lit]; exact hs.pers _ _ _ (g3 j u hu)⟩
 case row l n =>
  split at h<;>try (cases h; done)
  rename_i fz e s k ds hds;split at h<;>try (cases h; done)
  rename_i hn;obtain⟨rfl,rfl⟩:=hn;cases h;simp only[Rel]at hx;obtain⟨_,li,e1,e2,e3,hv⟩:=hx;have hob:=hs.obj l li _ e1 hds;simp only[zN]at hob;obtain⟨_,hln,hcl,hob⟩:=hob;have hv:=hv hln.symm;rcases hob with ⟨h0,h00⟩ | ⟨b,cur,hb,hh,k1,k2,k3,k4,k5,_⟩
  ·rw[h0]at hv;exact⟨none,0,by rw[hv,h00],.inl h00⟩
  ·rw[hb]at hv;refine⟨_,_,hv,.inr ⟨b,0,_,rfl,k4,?_,k5,fun j u hu=>?_⟩⟩
   ·simp only[jAp,jAy];rw[k3];exact jAx (jB7 _ k1)
   ·rw[Addr.add_lit,cell_of_row w b _ cur e (0,0) hh];rw[jB8]at hu;split at hu
    ·simpa using hu
    ·cases hu
theorem zDl {t ty e:TypeId}{i:TypeInfo}(ht:P.underlying t=some (.slice e))(hi:P.info? e=some i)(base:Option Addr)(n cap:Nat)(hc:n≤cap)(ad:Option Addr)(c:Nat) :
 (Builtin.append_ #[t,t] ty #[.slice base n cap,.slice ad 0 c]).run P w=.ok (.slice base n cap) w:=by
 have hf:(Builtin.firstCells i.size 0 (.slice ad 0 c)).run P w=.ok #[] w:=by
  cases ad with
  | none=>simp[Builtin.firstCells]
  | some a=>exact run_firstCells_some (P:=P) w i.size 0 a 0 c [] (by simp) (by simp)
 cases base<;>simp[Builtin.append_,run_underlying ht,sizeOf,typeInfo,hi,Builtin.lenOf,hc,hf,storeCells]
def zGM (H:Mem)(fz:Bool)(b:Nat)(us:List Value):Mem:=if fz then zMi H b us else H
theorem zS7 {t ty e:TypeId}{i:TypeInfo}{z:Value}(ht:P.underlying t=some (.slice e))(hi:P.info? e=some i)(hz:i.zero=some z)(hzc:zAu z.cells.toList=true)(hzs:z.cells.size=i.size)(hsz:0<i.size)
 (hs:RelSt H L σ w){l n:Nat}{fz:Bool}{cs:List A}{s y:Value}(hσ : σ[l]?=some (.row fz e i.size n cs))(hx:Rel H L (.row l n) s)
 {ya:A}{m:Nat}{ys:List A}(hy:Rel H L ya y)(hye:zB5 σ i.size ya=some (m,ys))(hyl:ys.length=m*i.size)
 (hm:n+m≤maxLen)(hby:(n+m)*i.bytes≤140737488355328) :
 ∃v' w' H' L',(Builtin.append_ #[t,t] ty #[s,y]).run P w=.ok v' w'∧Nxt H L w H' L' (σ.set l (.row fz e i.size (n+m) (cs++ys))) w'∧HLe H H'∧Rel H' L' (.row l (n+m)) v':=by
 obtain⟨ad,c,rfl,hels⟩:=zG4 hs hy hye hyl hsz;have hx0:=hx;simp only[Rel]at hx;obtain⟨hs1,li,e1,e2,e3,hv⟩:=hx;have hob:=hs.obj l li _ e1 hσ;have hob0:=hob;simp only[zN]at hob;obtain⟨_,hln,hcl,hob⟩:=hob;have hv:=hv hln.symm;have hlσ : l < σ.length:=(jA1.1 hσ).1;have hlL:l<L.length:=(jA1.1 e1).1;by_cases hm0:m=0
 ·subst hm0;have hys:ys=[]:=jC7 (by simpa using hyl);subst hys;have hset : σ.set l (.row fz e i.size (n+0) (cs++[])) = σ:=by
   simp only[jBo,jBw];apply jC8;intro j;by_cases hj:j=l
   ·subst hj; rw[jAj hlσ,hσ]
   ·rw[jA8 (Ne.symm hj)]
  refine⟨s,w,H,L,?_,by rw[hset]; exact Nxt.refl hs,HLe.refl _,hx0⟩;rw[hv];cases hb:li.block with
  | none=>exact zDl ht hi none 0 0 (jA _) ad c
  | some b =>
   rcases hob with ⟨h0,_⟩ | ⟨b',cur,hb',hh,k1,_⟩
   ·rw[hb]at h0; cases h0
   ·exact zDl ht hi _ n _ k1 ad c
 ·rcases hels with h0 | ⟨yb,yo,us,rfl,g1,g2,g3,g4⟩
  ·exact(hm0 h0).elim
  ·have hone:∀u∈us,u.oneCell'=true:=g3;have hsm:n+m≤9223372036854775807:=by simp only[maxLen]at hm; omega
   have fresh:∀(olds:List Value) (old:Nat),zT H L cs olds→(∀u∈olds,one u)→olds.length=n*i.size→old<n+m →
    (Builtin.append_ #[t,t] ty #[s,.slice (some ⟨yb,yo,none⟩) m c]).run P w=.ok (.slice (some ⟨w.heap.size,0,none⟩) (n+m) (grownCap w (n+m) old e))
     (w.drew.alloc (.cells (olds.toArray++us.toArray++Builtin.zeroCells z.cells (grownCap w (n+m) old e-(n+m))) e)) →
    ∃v' w' H' L',(Builtin.append_ #[t,t] ty #[s,.slice (some ⟨yb,yo,none⟩) m c]).run P w=.ok v' w'∧Nxt H L w H' L' (σ.set l (.row fz e i.size (n+m) (cs++ys))) w'∧HLe H H'∧Rel H' L' (.row l (n+m)) v':=by
    intro olds old ho1 ho2 ho3 ho4 hrun;have hge:=grownCap_ge w (n+m) old e;have hcm:grownCap w (n+m) old e≤maxLen:=grownCap_le_maxLen w (n+m) old e hm;have hpl:(olds++us).length=(n+m)*i.size:=by rw[jA7,ho3,g2,jAw]
    have hcur:(olds.toArray++us.toArray++Builtin.zeroCells z.cells (grownCap w (n+m) old e-(n+m))).toList.take ((n+m)*i.size)=olds++us:=by simp only[Array.toList_append,jB3];rw[←jB3,←hpl];exact List.take_left
    have hA:=zFp (hs.fresh (olds++us));have hle:HLe H (zGM H fz w.heap.size (olds++us)):=by
     cases fz
     ·exact HLe.refl _
     ·intro b o v hv';have:=hs.h_lt hv';simp only[zGM,if_true,hA];rw[if_neg (by omega)];exact hv'
    have hnx:Nxt H L w (zGM H fz w.heap.size (olds++us)) (L.set l ⟨some w.heap.size,grownCap w (n+m) old e,n+m,true⟩) (σ.set l (.row fz e i.size (n+m) (cs++ys)))
     (w.drew.alloc (.cells (olds.toArray++us.toArray++Builtin.zeroCells z.cells (grownCap w (n+m) old e-(n+m))) e)):=by
     have hnone:∀o,H w.heap.size o=none:=fun o=>by
      cases hH:H w.heap.size o with
      | none=>rfl
      | some v=>have:=hs.h_lt hH; omega
     have hheap:(w.drew.alloc (.cells (olds.toArray++us.toArray++Builtin.zeroCells z.cells (grownCap w (n+m) old e-(n+m))) e)).heap[w.heap.size]?=some (.cells (olds.toArray++us.toArray++Builtin.zeroCells z.cells (grownCap w (n+m) old e-(n+m))) e (0,0)):=heap_alloc_new w.drew _;refine zIp hs e1 e2 rfl (by simp only; omega) rfl (.inr (jA _)) (by simp) rfl rfl rfl (jCa _) (fun d=>by simp) (by simp) (fun k hk _=>heap_alloc_old w.drew _ (h:=hk)) hle (fun b' o' v hv'=>?_) (fun o' v hv'=>?_) ?_
     ·cases fz
      ·exact .inl hv'
      ·simp only[zGM,if_true,hA]at hv';split at hv'
       ·rename_i hbb; exact .inr hbb
       ·exact .inl hv'
     ·cases fz
      ·simp only[zGM]at hv'; rw[if_neg (by simp),hnone]at hv'; cases hv'
      ·simp only[zGM,if_true,hA]at hv';rw[cell_of_row _ _ _ _ _ _ hheap];rw[←hcur,jB8]at hv';split at hv'
       ·rw[←jCr]; exact hv'
       ·cases hv'
     ·have hll:=zEg (li':=⟨some w.heap.size,grownCap w (n+m) old e,n+m,true⟩) e1 e2 rfl (by simp only; omega);simp only[zN];refine⟨trivial,trivial,by rw[jA7,hcl,hyl,jAw],.inr ⟨w.heap.size,_,rfl,hheap,hge,hcm,?_,?_,?_,?_⟩⟩
      ·simp only[Array.size_append,jBv,size_zeroCells,hzs,ho3,g2,←jAw]
       congr 1
       omega
      ·rw[hcur];exact zT.mono hle hll _ (ho1.append g1)
      ·rw[hcur];intro u hu;rcases jAe.1 hu with hu | hu
       ·exact ho2 u hu
       ·exact g3 u hu
      ·rw[hcur];cases fz
       ·exact hnone
       ·refine⟨fun j u hu=>by simp[zGM,hA,hu],fun o ho=>?_⟩;simp only[zGM,if_true,hA];exact jB9 (by rw[hpl]; exact ho)
    refine⟨_,_,_,_,hrun,hnx,hle,?_⟩;simp only[Rel];exact⟨rfl,_,jAj hlL,rfl,jA _,fun _=>rfl⟩
   rcases hob with ⟨h0,rfl⟩ | ⟨b,cur,hb,hh,k1,k2,k3,k4,k5,k6⟩
   ·rw[h0]at hv;have hcs:cs=[]:=jC7 (by simpa using hcl);subst hcs;subst hv;have hr:=run_append_nil (P:=P) w t ty e i z ht hi hz ⟨yb,yo,none⟩ m c us g2 g4 (by omega) (by omega) (by simp only[jAt]at hby; omega);refine fresh [] 0 jM (by simp) (by simp) (by omega) ?_
    simpa using hr
   ·rw[hb]at hv;simp only at hv;by_cases hroom:n+m≤li.cap
    ·have hfit:n*i.size+us.length≤cur.size:=by rw[g2,k3,←jAw]; exact jB7 _ hroom
     have hr:=run_append_room (P:=P) w t ty e i ht hi b n li.cap cur hh ⟨yb,yo,none⟩ m c us g2 g4 hone hroom hfit;have hpl:(cur.toList.take (n*i.size)++us).length=(n+m)*i.size:=by rw[jA7,g2,jAw,jAp,jAy,jAx (by omega)]
     have hcur:(cur.toList.take (n*i.size)++us++cur.toList.drop (n*i.size+us.length)).take ((n+m)*i.size)=cur.toList.take (n*i.size)++us:=by rw[←hpl]; exact List.take_left
     have hheap:=setRow_heap w b cur (cur.toList.take (n*i.size)++us++cur.toList.drop (n*i.size+us.length)).toArray e (0,0) hh;have hsame:∀o v,H b o=some v→(cur.toList.take (n*i.size)++us)[o]?=some v:=fun o v hv'=>by
      cases fz
      ·simp only at k6;rw[k6]at hv';cases hv'
      ·simp only at k6;have ho:o<n*i.size:=by
        rcases jAq o (n*i.size)with h | h
        ·exact h
        ·rw[k6.2 o h]at hv'; cases hv'
       have hlt:o<(cur.toList.take (n*i.size)).length:=by rw[jAp,jAy,jAx (by omega)]; exact ho
       rw[jAd hlt];have:=k6.1 o _ (jA2 hlt);rw[jAt,hv']at this;rw[jA2 hlt];exact this.symm
     have hA:=zFp hsame;have hle:HLe H (zGM H fz b (cur.toList.take (n*i.size)++us)):=by
      cases fz
      ·exact HLe.refl _
      ·intro b' o v hv';simp only[zGM,if_true,hA];split
       ·rename_i hbb;subst hbb;simp only at k6;have ho:o<n*i.size:=by
         rcases jAq o (n*i.size)with h | h
         ·exact h
         ·rw[k6.2 o h]at hv'; cases hv'
        have hlt:o<(cur.toList.take (n*i.size)).length:=by rw[jAp,jAy,jAx (by omega)]; exact ho
        rw[jAd hlt];have:=k6.1 o _ (jA2 hlt);rw[jAt,hv']at this;rw[jA2 hlt];exact this.symm
       ·exact hv'
     have hnx:Nxt H L w (zGM H fz b (cur.toList.take (n*i.size)++us)) (L.set l ⟨some b,li.cap,n+m,true⟩) (σ.set l (.row fz e i.size (n+m) (cs++ys)))
      (w.setRow b (cur.toList.take (n*i.size)++us++cur.toList.drop (n*i.size+us.length)).toArray):=by
      refine zIp hs e1 e2 rfl (by simp only; omega) rfl (.inl hb) (by simp; exact hs.lt l li b e1 hb) rfl rfl rfl (jA _) (fun d=>by rw[hh]; simp) (by simp) (fun k _ hk=>setRow_other w b k _ hk) hle (fun b' o' v hv'=>?_) (fun o' v hv'=>?_) ?_
      ·cases fz
       ·exact .inl hv'
       ·simp only[zGM,if_true,hA]at hv';split at hv'
        ·rename_i hbb; exact .inr hbb
        ·exact .inl hv'
      ·cases fz
       ·simp only[zGM]at hv'; rw[if_neg (by simp)]at hv'; simp only at k6; rw[k6]at hv'; cases hv'
       ·simp only[zGM,if_true,hA]at hv';rw[cell_of_row _ _ _ _ _ _ hheap];rw[←hcur,jB8]at hv';split at hv'
        ·simpa using hv'
        ·cases hv'
      ·have hll:=zEg (li':=⟨some b,li.cap,n+m,true⟩) e1 e2 rfl (by simp only; omega);simp only[zN];refine⟨trivial,trivial,by rw[jA7,hcl,hyl,jAw],.inr ⟨b,_,rfl,hheap,hroom,k2,?_,?_,?_,?_⟩⟩
       ·simp only[jBv,jA7,jAp,jC,jAy];omega
       ·rw[hcur];exact zT.mono hle hll _ (k4.append g1)
       ·rw[hcur];intro u hu;rcases jAe.1 hu with hu | hu
        ·exact k5 u hu
        ·exact g3 u hu
       ·rw[hcur];cases fz
        ·exact k6
        ·refine⟨fun j u hu=>by simp[zGM,hA,hu],fun o ho=>?_⟩;simp only[zGM,if_true,hA];exact jB9 (by rw[hpl]; exact ho)
     refine⟨_,_,_,_,by rw[hv]; exact hr,hnx,hle,?_⟩;simp only[Rel];exact⟨rfl,_,jAj hlL,rfl,jA _,fun _=>rfl⟩
    ·have hr:=run_append_grow (P:=P) w t ty e i z ht hi hz ⟨b,0,none⟩ n li.cap (cur.toList.take (n*i.size)) (by rw[jAp,jAy,k3]; exact jAx (jB7 _ k1))
      (fun j u hu=>by
       rw[Addr.add_lit,cell_of_row w b _ cur e (0,0) hh];rw[jB8]at hu;split at hu
       ·simpa using hu
       ·cases hu) ⟨yb,yo,none⟩ m c us g2 g4 (by omega) (by omega) (growslice_fits (by omega) hby)
     refine fresh (cur.toList.take (n*i.size)) li.cap k4 k5 (by rw[jAp,jAy,k3]; exact jAx (jB7 _ k1)) (by omega) ?_;rw[hv];exact hr
end
end Go.Abs
namespace Go.Abs
section
variable {P:Program}{H:Mem}{L:List LI} {σ : St}{w:World}{N:Nat}{env:Env}{a:Act}
theorem jH {α : Type}{l:List α}{x y : α}{i:Nat}(h:(l++[x])[i]?=some y):l[i]?=some y∨(i=l.length∧y=x):=by
 rcases jAq i l.length with hi | hi
 ·rw[jAd hi]at h; exact .inl h
 ·rw[jAr hi]at h;have h0:i-l.length=0:=by
   rcases Nat.eq_zero_or_pos (i-l.length)with h0 | h0
   ·exact h0
   ·rw[jB9 (by simp; omega)]at h; cases h
  rw[h0]at h;simp only[jAz,jA0]at h;exact .inr ⟨by omega,h.symm⟩
theorem zCs (hs:RelSt H L σ w)(e:TypeId)(sz:Nat):Nxt H L w H (L++[(⟨none,0,0,true⟩:LI)]) (σ++[AObj.row false e sz 0 []]) w:=by
 have hll:=LLe.append L [⟨none,0,0,true⟩];refine⟨⟨hs.pers,by simp[hs.len],fun i l o hL hσ=>?_,fun i j x y b hi hj hx hy=>?_,fun i x b hi hx=>?_⟩,Step.refl _ _ _,hll,fun b ⟨i,x,hi,hx⟩=>?_⟩
 ·rcases jH hL with hL' | ⟨rfl,rfl⟩
  ·have hi:i<L.length:=(jA1.1 hL').1;rw[jAd (by rw[←hs.len]; exact hi)]at hσ;exact(hs.obj i l o hL' hσ).carry (fun _ _=>rfl) (HLe.refl _) hll (fun _ _ _=>rfl)
  ·rw[hs.len]at hσ;rw[jAr (jA _)]at hσ;simp only[jC1,jAz,jA0]at hσ;subst hσ;simp[zN]
 ·rcases jH hi with hi' | ⟨rfl,rfl⟩
  ·rcases jH hj with hj' | ⟨rfl,rfl⟩
   ·exact hs.inj i j x y b hi' hj' hx hy
   ·cases hy
  ·cases hx
 ·rcases jH hi with hi' | ⟨rfl,rfl⟩
  ·exact hs.lt i x b hi' hx
  ·cases hx
 ·rcases jH hi with hi' | ⟨rfl,rfl⟩
  ·exact .inl ⟨i,x,hi',hx⟩
  ·cases hx
theorem zMg {σ τ : St}{sz:Nat}{x:A}{r:Nat×List A}(h:zB5 σ sz x=some r):zB5 (σ++τ) sz x=some r:=by
 cases x<;>simp only[zB5]at h⊢<;>try exact h
 rename_i l n;split at h<;>try (cases h; done)
 rename_i hds;rw[jAd (jA1.1 hds).1,hds];exact h
theorem zYm {t ty e:TypeId}{i:TypeInfo}{z:Value}(ht:P.underlying t=some (.slice e))(hi:P.info? e=some i)(hz:i.zero=some z)(hzc:zAu z.cells.toList=true)(hzs:z.cells.size=i.size)(hsz:0<i.size)
 (hs:RelSt H L σ w){y:Value}{ya:A}{m:Nat}{ys:List A}(hy:Rel H L ya y)(hye:zB5 σ i.size ya=some (m,ys))(hyl:ys.length=m*i.size)
 (hm:m≤maxLen)(hby:m*i.bytes≤140737488355328) :
 ∃v' w' H' L',(Builtin.append_ #[t,t] ty #[.slice none 0 0,y]).run P w=.ok v' w'∧Nxt H L w H' L' (σ++[AObj.row false e i.size m ys]) w'∧HLe H H'∧Rel H' L' (.row σ.length m) v':=by
 have hn:=zCs hs e i.size;have hσ : (σ++[AObj.row false e i.size 0 []])[σ.length]?=some (.row false e i.size 0 []):=by simp
 have hx:Rel H (L++[(⟨none,0,0,true⟩:LI)]) (.row σ.length 0) (.slice none 0 0):=by simp only[Rel];exact⟨rfl,⟨none,0,0,true⟩,by rw[←hs.len]; simp,rfl,jA _,fun _=>rfl⟩
 obtain⟨v',w',H',L',h1,h2,h3,h4⟩:=zS7 (ty:=ty) ht hi hz hzc hzs hsz hn.st hσ hx (Rel.mono (HLe.refl _) (LLe.append _ _) _ hy) (zMg hye) hyl (by simpa using hm) (by simpa using hby);refine⟨v',w',H',L',h1,?_,h3,by simpa using h4⟩;have:=hn.trans h2;have he:(σ++[AObj.row false e i.size 0 []]).set σ.length (AObj.row false e i.size (0+m) ([]++ys)) = σ++[AObj.row false e i.size m ys]:=by simp
 rw[he]at this;exact this
theorem zV7 {t ty e:TypeId}{i:TypeInfo}{z:Value}(ht:P.underlying t=some (.slice e))(hi:P.info? e=some i)(hz:i.zero=some z)(hzs:z.cells.size=i.size)(hsz:0<i.size)
 (hs:RelSt H L σ w){n:Nat}{cs:List A}{s y:Value}(hx:Rel H L (.fsl n cs) s)(hcl:cs.length=n*i.size){ya:A}{m:Nat}{ys:List A}(hy:Rel H L ya y)(hye:zB5 σ i.size ya=some (m,ys))(hyl:ys.length=m*i.size)
 (hm0:m≠0)(hm:n+m≤maxLen)(hby:(n+m)*i.bytes≤140737488355328) :
 ∃v' w' H' L',(Builtin.append_ #[t,t] ty #[s,y]).run P w=.ok v' w'∧Nxt H L w H' L' (σ++[AObj.row false e i.size (n+m) (cs++ys)]) w'∧HLe H H'∧Rel H' L' (.row σ.length (n+m)) v':=by
 obtain⟨ad,c,rfl,hels⟩:=zG4 hs hy hye hyl hsz;rcases hels with h0 | ⟨yb,yo,us,rfl,g1,g2,g3,g4⟩
 ·exact(hm0 h0).elim
 have hn:=zCs hs e i.size;have hsm:n+m≤9223372036854775807:=by simp only[maxLen]at hm; omega
 have e1:(L++[(⟨none,0,0,true⟩:LI)])[σ.length]?=some (⟨none,0,0,true⟩:LI):=by rw[←hs.len]; simp
 have fresh:∀(olds:List Value) (old:Nat),zT H L cs olds→(∀u∈olds,one u)→old<n+m →
  (Builtin.append_ #[t,t] ty #[s,.slice (some ⟨yb,yo,none⟩) m c]).run P w=.ok (.slice (some ⟨w.heap.size,0,none⟩) (n+m) (grownCap w (n+m) old e))
   (w.drew.alloc (.cells (olds.toArray++us.toArray++Builtin.zeroCells z.cells (grownCap w (n+m) old e-(n+m))) e)) →
  ∃v' w' H' L',(Builtin.append_ #[t,t] ty #[s,.slice (some ⟨yb,yo,none⟩) m c]).run P w=.ok v' w'∧Nxt H L w H' L' (σ++[AObj.row false e i.size (n+m) (cs++ys)]) w'∧HLe H H'∧Rel H' L' (.row σ.length (n+m)) v':=by
  intro olds old ho1 ho2 ho4 hrun;have ho3:olds.length=n*i.size:=by rw[ho1.length,hcl]
  have hge:=grownCap_ge w (n+m) old e;have hcm:grownCap w (n+m) old e≤maxLen:=grownCap_le_maxLen w (n+m) old e hm;have hpl:(olds++us).length=(n+m)*i.size:=by rw[jA7,ho3,g2,jAw]
  have hcur:(olds.toArray++us.toArray++Builtin.zeroCells z.cells (grownCap w (n+m) old e-(n+m))).toList.take ((n+m)*i.size)=olds++us:=by simp only[Array.toList_append,jB3];rw[←jB3,←hpl];exact List.take_left
  have hheap:(w.drew.alloc (.cells (olds.toArray++us.toArray++Builtin.zeroCells z.cells (grownCap w (n+m) old e-(n+m))) e)).heap[w.heap.size]?=some (.cells (olds.toArray++us.toArray++Builtin.zeroCells z.cells (grownCap w (n+m) old e-(n+m))) e (0,0)):=heap_alloc_new w.drew _;have hnone:∀o,H w.heap.size o=none:=fun o=>by
   cases hH:H w.heap.size o with
   | none=>rfl
   | some v=>have:=hs.h_lt hH; omega
  have hll:=zEg (li':=(⟨some w.heap.size,grownCap w (n+m) old e,n+m,true⟩:LI)) e1 rfl rfl (by simp only; omega);have hnx:Nxt H (L++[(⟨none,0,0,true⟩:LI)]) w H ((L++[(⟨none,0,0,true⟩:LI)]).set σ.length (⟨some w.heap.size,grownCap w (n+m) old e,n+m,true⟩:LI))
   ((σ++[AObj.row false e i.size 0 []]).set σ.length (AObj.row false e i.size (n+m) (cs++ys)))
   (w.drew.alloc (.cells (olds.toArray++us.toArray++Builtin.zeroCells z.cells (grownCap w (n+m) old e-(n+m))) e)):=by
   refine zIp hn.st e1 rfl rfl (by simp only; omega) rfl (.inr (jA _)) (by simp) rfl rfl rfl (jCa _) (fun d=>by simp) (by simp) (fun k hk _=>heap_alloc_old w.drew _ (h:=hk)) (HLe.refl _) (fun b' o' v hv'=>.inl hv')
    (fun o' v hv'=>by rw[hnone]at hv'; cases hv') ?_
   simp only[zN];refine⟨trivial,trivial,by rw[jA7,hcl,hyl,jAw],.inr ⟨w.heap.size,_,rfl,hheap,hge,hcm,?_,?_,?_,hnone⟩⟩
   ·simp only[Array.size_append,jBv,size_zeroCells,hzs,ho3,g2,←jAw]
    congr 1
    omega
   ·rw[hcur];exact zT.mono (HLe.refl _) ((LLe.append _ _).trans hll) _ (ho1.append g1)
   ·rw[hcur];intro u hu;rcases jAe.1 hu with hu | hu
    ·exact ho2 u hu
    ·exact g3 u hu
  have he:(σ++[AObj.row false e i.size 0 []]).set σ.length (AObj.row false e i.size (n+m) (cs++ys)) = σ++[AObj.row false e i.size (n+m) (cs++ys)]:=by simp
  rw[he]at hnx;refine⟨_,_,_,_,hrun,hn.trans hnx,HLe.refl _,?_⟩;simp only[Rel];exact⟨rfl,_,jAj (jA1.1 e1).1,rfl,jA _,fun _=>rfl⟩
 simp only[Rel]at hx;obtain⟨sa,rfl,hnm,hcs⟩:=hx;rcases hcs with ⟨rfl,rfl⟩ | ⟨b,o,vs,rfl,k1,k2,k3⟩
 ·cases sa with
  | none =>
   have hr:=run_append_nil (P:=P) w t ty e i z ht hi hz ⟨yb,yo,none⟩ m c us g2 g4 (by omega) (by omega) (by simp only[jAt]at hby; omega);refine fresh [] 0 jM (by simp) (by omega) ?_
   simpa using hr
  | some ba =>
   have hr:=run_append_grow (P:=P) w t ty e i z ht hi hz ba 0 0 [] (by simp) (by simp) ⟨yb,yo,none⟩ m c us g2 g4 (by omega) (by omega) (growslice_fits (by omega) hby);exact fresh [] 0 jM (by simp) (by omega) hr
 ·have hr:=run_append_grow (P:=P) w t ty e i z ht hi hz ⟨b,o,none⟩ n n vs (by rw[k1.length,hcl]) (fun j u hu=>by rw[Addr.add_lit]; exact hs.pers _ _ _ (k3 j u hu)) ⟨yb,yo,none⟩ m c us g2 g4 (by omega) (by omega) (growslice_fits (by omega) hby);exact fresh vs n k1 k2 (by omega) hr
theorem zYn {t ty e:TypeId}{i:TypeInfo}{z:Value}(ht:P.underlying t=some (.slice e))(hi:P.info? e=some i)(hz:i.zero=some z)(hzs:z.cells.size=i.size)(hsz:0<i.size)
 (hs:RelSt H L σ w){l n o k:Nat}{cs:List A}{s y:Value}(hσ : σ[l]?=some (.row false e i.size n cs))(hx:Rel H L (.win l n o k i.size) s)(hok:o+k*i.size=n*i.size)
 {ya:A}{m:Nat}{ys:List A}(hy:Rel H L ya y)(hye:zB5 σ i.size ya=some (m,ys))(hyl:ys.length=m*i.size)(hm0:m≠0)(hm:n+m≤maxLen)(hby:(n+m)*i.bytes≤140737488355328) :
 (∃v' w' L',(Builtin.append_ #[t,t] ty #[s,y]).run P w=.ok v' w'∧Nxt H L w H L' (σ.set l (.row false e i.size (n+m) (cs++ys))) w'∧Rel H L' (.win l (n+m) o (k+m) i.size) v') ∨
 ∃v' w' L',(Builtin.append_ #[t,t] ty #[s,y]).run P w=.ok v' w'∧Nxt H L w H L' (σ++[AObj.row false e i.size (k+m) (cs.drop o++ys)]) w'∧Rel H L' (.win σ.length (k+m) 0 (k+m) i.size) v':=by
 obtain⟨ad',c,rfl,hels⟩:=zG4 hs hy hye hyl hsz;rcases hels with h0 | ⟨yb,yo,us,rfl,g1,g2,g3,g4⟩
 ·exact(hm0 h0).elim
 simp only[Rel]at hx;obtain⟨hs1,li,e1,e2,e3,hv⟩:=hx;have hob:=hs.obj l li _ e1 hσ;simp only[zN]at hob;obtain⟨_,hln,hcl,hob⟩:=hob;obtain⟨g0,ad,cap,rfl,k1,k2,k3⟩:=hv hln.symm;have hlσ : l < σ.length:=(jA1.1 hσ).1;have hlL:l<L.length:=(jA1.1 e1).1;have hby2:(k+m)*i.bytes≤140737488355328:=jBx (jB7 _ (by omega)) hby;have fresh:∀(olds:List Value) (old:Nat),zT H L (cs.drop o) olds→(∀u∈olds,one u)→old<k+m →
  (Builtin.append_ #[t,t] ty #[.slice ad k cap,.slice (some ⟨yb,yo,none⟩) m c]).run P w=.ok (.slice (some ⟨w.heap.size,0,none⟩) (k+m) (grownCap w (k+m) old e))
   (w.drew.alloc (.cells (olds.toArray++us.toArray++Builtin.zeroCells z.cells (grownCap w (k+m) old e-(k+m))) e)) →
  ∃v' w' L',(Builtin.append_ #[t,t] ty #[.slice ad k cap,.slice (some ⟨yb,yo,none⟩) m c]).run P w=.ok v' w'∧Nxt H L w H L' (σ++[AObj.row false e i.size (k+m) (cs.drop o++ys)]) w'∧Rel H L' (.win σ.length (k+m) 0 (k+m) i.size) v':=by
  intro olds old ho1 ho2 ho4 hrun;have ho3:olds.length=k*i.size:=by rw[ho1.length,jC,hcl]; omega
  have hge:=grownCap_ge w (k+m) old e;have hcm:grownCap w (k+m) old e≤maxLen:=grownCap_le_maxLen w (k+m) old e (by omega);have hpl:(olds++us).length=(k+m)*i.size:=by rw[jA7,ho3,g2,jAw]
  have hcur:(olds.toArray++us.toArray++Builtin.zeroCells z.cells (grownCap w (k+m) old e-(k+m))).toList.take ((k+m)*i.size)=olds++us:=by simp only[Array.toList_append,jB3];rw[←jB3,←hpl];exact List.take_left
  have hnone:∀o,H w.heap.size o=none:=fun o=>by
   cases hH:H w.heap.size o with
   | none=>rfl
   | some v=>have:=hs.h_lt hH; omega
  have hn:=zCs hs e i.size;have e1:(L++[(⟨none,0,0,true⟩:LI)])[σ.length]?=some (⟨none,0,0,true⟩:LI):=by rw[←hs.len]; simp
  have hheap:(w.drew.alloc (.cells (olds.toArray++us.toArray++Builtin.zeroCells z.cells (grownCap w (k+m) old e-(k+m))) e)).heap[w.heap.size]?=some (.cells (olds.toArray++us.toArray++Builtin.zeroCells z.cells (grownCap w (k+m) old e-(k+m))) e (0,0)):=heap_alloc_new w.drew _;have hll:=zEg (li':=(⟨some w.heap.size,grownCap w (k+m) old e,k+m,true⟩:LI)) e1 rfl rfl (by simp only; omega);have hnx:Nxt H (L++[(⟨none,0,0,true⟩:LI)]) w H ((L++[(⟨none,0,0,true⟩:LI)]).set σ.length (⟨some w.heap.size,grownCap w (k+m) old e,k+m,true⟩:LI))
   ((σ++[AObj.row false e i.size 0 []]).set σ.length (AObj.row false e i.size (k+m) (cs.drop o++ys)))
   (w.drew.alloc (.cells (olds.toArray++us.toArray++Builtin.zeroCells z.cells (grownCap w (k+m) old e-(k+m))) e)):=by
   refine zIp hn.st e1 rfl rfl (by simp only; omega) rfl (.inr (jA _)) (by simp) rfl rfl rfl (jCa _) (fun d=>by simp) (by simp) (fun k hk _=>heap_alloc_old w.drew _ (h:=hk)) (HLe.refl _) (fun b' o' v hv'=>.inl hv')
    (fun o' v hv'=>by rw[hnone]at hv'; cases hv') ?_
   simp only[zN];refine⟨trivial,trivial,by rw[jA7,hyl,jC,hcl,jAw]; omega,.inr ⟨w.heap.size,_,rfl,hheap,hge,hcm,?_,?_,?_,hnone⟩⟩
   ·simp only[Array.size_append,jBv,size_zeroCells,hzs,ho3,g2,←jAw]
    congr 1
    omega
   ·rw[hcur];exact zT.mono (HLe.refl _) ((LLe.append _ _).trans hll) _ (ho1.append g1)
   ·rw[hcur];intro u hu;rcases jAe.1 hu with hu | hu
    ·exact ho2 u hu
    ·exact g3 u hu
  have he:(σ++[AObj.row false e i.size 0 []]).set σ.length (AObj.row false e i.size (k+m) (cs.drop o++ys)) = σ++[AObj.row false e i.size (k+m) (cs.drop o++ys)]:=by simp
  rw[he]at hnx;refine⟨_,_,_,hrun,hn.trans hnx,?_⟩;simp only[Rel];exact⟨rfl,_,jAj (jA1.1 e1).1,rfl,jA _,fun _=>⟨jA _,_,_,rfl,hge,hcm,.inr ⟨_,rfl,rfl,by simp⟩⟩⟩
 rcases k3 with hc0 | ⟨b,hb,rfl,hcap⟩
 ·clear hob;have hk0:k=0:=by omega
  subst hk0 hc0;have hdr:cs.drop o=[]:=jCm (by rw[hcl]; omega);right;cases ad with
  | none =>
   have hr:=run_append_nil (P:=P) w t ty e i z ht hi hz ⟨yb,yo,none⟩ m c us g2 g4 (by omega) (by simp only[maxLen]at hm; omega) (by simp only[jAt]at hby2; omega);refine fresh [] 0 (by rw[hdr]; exact jM) (by simp) (by omega) ?_
   simpa using hr
  | some ba =>
   have hr:=run_append_grow (P:=P) w t ty e i z ht hi hz ba 0 0 [] (by simp) (by simp) ⟨yb,yo,none⟩ m c us g2 g4 (by omega) (by simp only[maxLen]at hm; omega) (growslice_fits (by omega) hby2);exact fresh [] 0 (by rw[hdr]; exact jM) (by simp) (by omega) hr
 ·rcases hob with ⟨h0,_⟩ | ⟨b',cur,hb',hh,q1,q2,q3,q4,q5,q6⟩
  ·rw[hb]at h0; cases h0
  rw[hb]at hb';cases hb';have hncur:n*i.size≤cur.size:=by rw[q3]; exact jB7 _ q1
  by_cases hroom:k+m≤cap
  ·left;have hnm:n+m≤li.cap:=by
    have h1:(k+m)*i.size≤cap*i.size:=jB7 _ hroom;have h2:(n+m)*i.size≤li.cap*i.size:=by rw[jAw]at h1 ⊢; omega
    exact Nat.le_of_mul_le_mul_right h2 hsz
   have hfit:o+k*i.size+us.length≤cur.size:=by rw[g2,q3,hok,←jAw]; exact jB7 _ hnm
   have hf:=run_firstCells_some (P:=P) w i.size m ⟨yb,yo,none⟩ m c us g2 g4;have hst:=run_storeCells_at P b (o+k*i.size) e us 0 cur w hh (by simpa using hfit) g3;simp only[jBo]at hst;have hrun:(Builtin.append_ #[t,t] ty #[.slice (some ⟨b,o,none⟩) k cap,.slice (some ⟨yb,yo,none⟩) m c]).run P w =
    .ok (.slice (some ⟨b,o,none⟩) (k+m) cap) (w.setRow b (cur.toList.take (o+k*i.size)++us++cur.toList.drop (o+k*i.size+us.length)).toArray):=by
    simp[Builtin.append_,run_underlying ht,sizeOf,typeInfo,hi,Builtin.lenOf,hroom,hf,Addr.add_lit,hst]
   rw[hok]at hrun hfit;have hpl:(cur.toList.take (n*i.size)++us).length=(n+m)*i.size:=by rw[jA7,g2,jAw,jAp,jAy,jAx (by omega)]
   have hcur:(cur.toList.take (n*i.size)++us++cur.toList.drop (n*i.size+us.length)).take ((n+m)*i.size)=cur.toList.take (n*i.size)++us:=by rw[←hpl]; exact List.take_left
   have hheap:=setRow_heap w b cur (cur.toList.take (n*i.size)++us++cur.toList.drop (n*i.size+us.length)).toArray e (0,0) hh;have hnx:Nxt H L w H (L.set l ⟨some b,li.cap,n+m,true⟩) (σ.set l (.row false e i.size (n+m) (cs++ys)))
    (w.setRow b (cur.toList.take (n*i.size)++us++cur.toList.drop (n*i.size+us.length)).toArray):=by
    refine zIp hs e1 e2 rfl (by simp only; omega) rfl (.inl hb) (by simp; exact hs.lt l li b e1 hb) rfl rfl rfl (jA _) (fun d=>by rw[hh]; simp) (by simp) (fun k _ hk=>setRow_other w b k _ hk) (HLe.refl _) (fun b' o' v hv'=>.inl hv') (fun o' v hv'=>by rw[q6]at hv'; cases hv') ?_;have hll:=zEg (li':=(⟨some b,li.cap,n+m,true⟩:LI)) e1 e2 rfl (by simp only; omega);simp only[zN];refine⟨trivial,trivial,by rw[jA7,hcl,hyl,jAw],.inr ⟨b,_,rfl,hheap,hnm,q2,?_,?_,?_,q6⟩⟩
    ·simp only[jBv,jA7,jAp,jC,jAy];omega
    ·rw[hcur];exact zT.mono (HLe.refl _) hll _ (q4.append g1)
    ·rw[hcur];intro u hu;rcases jAe.1 hu with hu | hu
     ·exact q5 u hu
     ·exact g3 u hu
   refine⟨_,_,_,hrun,hnx,?_⟩;simp only[Rel];exact⟨rfl,_,jAj hlL,rfl,jA _,fun _=>⟨by omega,_,_,rfl,hroom,k2,.inr ⟨b,rfl,rfl,hcap⟩⟩⟩
  ·right;have hlen:((cur.toList.take (n*i.size)).drop o).length=k*i.size:=by rw[jC,jAp,jAy,jAx hncur]; omega
   have hr:=run_append_grow (P:=P) w t ty e i z ht hi hz ⟨b,o,none⟩ k cap ((cur.toList.take (n*i.size)).drop o) hlen
    (fun j u hu=>by
     rw[Addr.add_lit,cell_of_row w b _ cur e (0,0) hh];rw[jD5,jB8]at hu;split at hu
     ·simpa using hu
     ·cases hu) ⟨yb,yo,none⟩ m c us g2 g4 (by omega) (by simp only[maxLen]at hm; omega) (growslice_fits (by omega) hby2)
   exact fresh _ cap (q4.drop o) (fun u hu=>q5 u (jBp hu)) (by omega) hr
theorem zTo (hs:RelSt H L σ w){l b n h sz:Nat}{li:LI}{e:TypeId}{cs:List A}(hL:L[l]?=some li)(hr:li.isRow=true)(hb:li.block=some b)(hσ : σ[l]?=some (.row false e sz n cs))(hh:h≤n) :
 Nxt H L w H (L.set l ⟨none,0,li.len+1,true⟩++[⟨some b,li.cap,h,true⟩]) (σ.set l .dead++[AObj.row false e sz h (cs.take (h*sz))]) w:=by
 have hll:=(zEg (li':=(⟨none,0,li.len+1,true⟩:LI)) hL hr rfl (Nat.lt_succ_self _)).trans (LLe.append _ [⟨some b,li.cap,h,true⟩]);have hl:l<L.length:=(jA1.1 hL).1;have get:∀(i:Nat) x,(L.set l ⟨none,0,li.len+1,true⟩++[(⟨some b,li.cap,h,true⟩:LI)])[i]?=some x→(i=l∧x.block=none)∨(i≠l∧L[i]?=some x)∨(i=L.length∧x=⟨some b,li.cap,h,true⟩):=by
  intro i x hx;rcases jH hx with hx | ⟨rfl,rfl⟩
  ·by_cases hi:i=l
   ·subst hi;rw[jAj hl]at hx;cases hx;exact .inl ⟨rfl,rfl⟩
   ·rw[jA8 (Ne.symm hi)]at hx;exact .inr (.inl ⟨hi,hx⟩)
  ·exact .inr (.inr ⟨by simp,rfl⟩)
 have hob:=hs.obj l li _ hL hσ;simp only[zN]at hob;obtain⟨_,hlen,hcl,hob⟩:=hob;refine⟨⟨hs.pers,by simp[hs.len],fun i x o hx ho=>?_,fun i j x y b' hi hj hx hy=>?_,fun i x b' hi hx=>?_⟩,Step.refl _ _ _,hll,fun b' ⟨i,x,hi,hx⟩=>?_⟩
 ·rcases get i x hx with ⟨rfl,_⟩ | ⟨hi,hx'⟩ | ⟨rfl,rfl⟩
  ·rw[jAd (by rw[jBl,←hs.len]; exact hl),jAj (by rw[←hs.len]; exact hl)]at ho;cases ho;trivial
  ·rw[jAd (by rw[jBl,←hs.len]; exact(jA1.1 hx').1),jA8 (Ne.symm hi)]at ho;exact(hs.obj i x o hx' ho).carry (fun _ _=>rfl) (HLe.refl _) hll (fun _ _ _=>rfl)
  ·rw[hs.len,jAr (by simp)]at ho;simp only[jBl,jC1,jAz,jA0]at ho;subst ho;simp only[zN];have hmul:h*sz≤n*sz:=jB7 _ hh;refine⟨trivial,trivial,by rw[jAp,hcl,jAx hmul],.inr ?_⟩;rcases hob with ⟨h0,_⟩ | ⟨b',cur,hb',k1,k2,k3,k4,k5,k6,k7⟩
   ·rw[hb]at h0; cases h0
   ·rw[hb]at hb';cases hb';have ht:cur.toList.take (h*sz)=(cur.toList.take (n*sz)).take (h*sz):=by rw[List.take_take,jAx hmul]
    refine⟨b,cur,rfl,k1,by omega,k3,k4,by rw[ht]; exact zT.mono (HLe.refl _) hll _ (k5.take _),fun u hu=>k6 u ?_,k7⟩;rw[ht]at hu;exact jC0 hu
 ·rcases get i x hi with ⟨_,h0⟩ | ⟨hi1,hi'⟩ | ⟨rfl,rfl⟩
  ·rw[h0]at hx; cases hx
  ·rcases get j y hj with ⟨_,h0⟩ | ⟨hj1,hj'⟩ | ⟨rfl,rfl⟩
   ·rw[h0]at hy; cases hy
   ·exact hs.inj i j x y b' hi' hj' hx hy
   ·cases hy;exact(hi1 (hs.inj i l x li _ hi' hL hx hb)).elim
  ·cases hx;rcases get j y hj with ⟨_,h0⟩ | ⟨hj1,hj'⟩ | ⟨rfl,rfl⟩
   ·rw[h0]at hy; cases hy
   ·exact(hj1 (hs.inj j l y li _ hj' hL hy hb)).elim
   ·rfl
 ·rcases get i x hi with ⟨_,h0⟩ | ⟨hi1,hi'⟩ | ⟨rfl,rfl⟩
  ·rw[h0]at hx; cases hx
  ·exact hs.lt i x b' hi' hx
  ·cases hx; exact hs.lt l li _ hL hb
 ·rcases get i x hi with ⟨_,h0⟩ | ⟨hi1,hi'⟩ | ⟨rfl,rfl⟩
  ·rw[h0]at hx; cases hx
  ·exact .inl ⟨i,x,hi',hx⟩
  ·cases hx; exact .inl ⟨l,li,hL,hb⟩
inductive Out where
 | ret (r:A)
 | pan (v:Value)
def zHc (H:Mem)(L:List LI):Out→Ending→Prop
 | .ret r,e=>∃v,e=.returned v∧Rel H L r v
 | .pan v,e=>e=.panicked [{v,recovered:=false}]
def zAk (P:Program)(f:FuncId)(args:List A) (σ : St)(Q:Out→St→Prop):Prop :=
 ∀(H:Mem) (L:List LI) (w:World) (vs:List Value),RelSt H L σ w→zT H L args vs →
  Calls P f vs.toArray w fun e w'=>∃o σ' H' L',zHc H' L' o e∧Nxt H L w H' L' σ' w'∧Q o σ'
def zCy (P:Program)(b:Nat)(args:List A) (σ : St)(Q:Out→St→Prop):Prop :=
 ∀(H:Mem) (L:List LI) (w:World) (vs:List Value),RelSt H L σ w→zT H L args vs →
  ∃f tmps x y,(Instr.yield b vs.toArray).run P w=.ok (.round b f tmps x y) w∧RoundIn Fence.wide 0 P b f tmps x y w fun e w'=>∃o σ' H' L',zHc H' L' o e∧Nxt H L w H' L' σ' w'∧Q o σ'
def Wr (r:Option Nat):Fence:={Fence.wide with round:=r}
def qW (o:Option (Prop×A))(J:A→Prop):Prop:=match o with
 | some (p,r)=>p∧J r
 | none=>False
def zH1 (d:Option Nat)(env:Env)(K:Env→St→Prop)(Qp:Value→Env→St→Prop):Out→St→Prop
 | .ret r,σ'=>K (env.put d r) σ'
 | .pan v,σ'=>Qp v env σ'
def zFB (t:Bool)(A B:Env→St→Prop)(env:Env) (σ : St):Prop:=(t=true→A env σ)∧(t=false→B env σ)
def zGy (d:Option Nat)(K:Env→St→Prop)(env:Env) (σ : St):Prop:=K (env.put d (.lit undef)) σ
noncomputable def wpO (P:Program) (Qp:Value→Env→St→Prop) (K:Env→St→Prop):KOp→Env→St→Prop
 | .alloc d zs,env,σ=>K (env.put d (.ptr σ.length 0)) (σ++[.box (zs.map qR)])
 | .box d x,env,σ=>match cellsOf (ev env x)with
  | some cs=>K (env.put d (.ptr σ.length 0)) (σ++[.box cs])
  | none=>False
 | .bslice d _ _ n zero parts,env,σ=>match zBs (zero.map qR) (parts.map fun(o,s,x)=>(o,s,ev env x))with
  | some cs=>K (env.put d (.fsl n cs)) σ
  | none=>False
 | .isz d ng x,env,σ=>match ev env x with
  | .nil=>K (env.put d (.lit (.bool !ng))) σ
  | .sl n _=>K (env.put d (.lit (.bool ng))) σ∧(n=0→K (env.put d (.lit (.bool !ng))) σ)
  | .row l n=>(match σ[l]? with
   | some (.row _ _ _ m _)=>n=m∧K (env.put d (.lit (.bool ng))) σ∧(n=0→K (env.put d (.lit (.bool !ng))) σ)
   | _=>False)
  | _=>False
 | .apq d e sz bytes x y,env,σ=>match zB5 σ sz (ev env y),ev env x with
  | some (m,ys),.win l n o k c=>(match σ[l]? with
   | some (.row false e' s n' cs)=>(ys.length=m*sz∧m≠0∧n=n'∧e'=e∧s=sz∧c=sz∧o+k*sz=n*sz∧n+m≤maxLen∧(n+m)*bytes≤140737488355328) ∧
    K (env.put d (.win l (n+m) o (k+m) sz)) (σ.set l (.row false e sz (n+m) (cs++ys)))∧K (env.put d (.win σ.length (k+m) 0 (k+m) sz)) (σ++[.row false e sz (k+m) (cs.drop o++ys)])
   | _=>False)
  | _,_=>False
 | .shr d x sz hx,env,σ=>match ev env x,ev env hx with
  | .row l n,.lit (.int _ h)=>(match σ[l]? with
   | some (.row false e s m cs)=>(n=m∧s=sz∧0≤h∧h≤n∧n≠0)∧K (env.put d (.row σ.length h.toNat)) (σ.set l .dead++[.row false e sz h.toNat (cs.take (h.toNat*sz))])
   | _=>False)
  | _,_=>False
 | .brow d e sz n zero parts,env,σ=>match zBs (zero.map qR) (parts.map fun(o,s,x)=>(o,s,ev env x))with
  | some cs=>K (env.put d (.row σ.length n)) (σ++[.row false e sz n cs])
  | none=>False
 | .st d x v n,env,σ=>match cellsOf (ev env v)with
  | some cs=>if cs.length=n then (match stA σ cs (ev env x)with
   | some σ'=>K (env.put d (.lit undef)) σ'
   | none=>False) else False
  | none=>False
 | .app d e sz bytes x y,env,σ=>match zB5 σ sz (ev env y)with
  | some (m,ys)=>ys.length=m*sz∧(match ev env x with
   | .nil=>(m≤maxLen∧m*bytes≤140737488355328)∧K (env.put d (.row σ.length m)) (σ++[.row false e sz m ys])
   | .row l n=>(match σ[l]? with
    | some (.row fz e' s n' cs)=>if n=n'∧e'=e∧s=sz then (n+m≤maxLen∧(n+m)*bytes≤140737488355328)∧K (env.put d (.row l (n+m))) (σ.set l (.row fz e sz (n+m) (cs++ys))) else False
    | _=>False)
   | .fsl n cs=>cs.length=n*sz∧(m=0→K (env.put d (.fsl n cs)) σ)∧(m≠0→(n+m≤maxLen∧(n+m)*bytes≤140737488355328)∧K (env.put d (.row σ.length (n+m))) (σ++[.row false e sz (n+m) (cs++ys)]))
   | _=>False)
  | none=>False
 | .len d false x,env,σ=>match ev env x with
  | .sl n _=>n≤maxLen→K (env.put d (.lit (.int .i64 n))) σ
  | .fsl n _=>n≤maxLen→K (env.put d (.lit (.int .i64 n))) σ
  | _=>qW (zI env σ (.len d false x)) fun r=>K (env.put d r) σ
 | .call d f args,env,σ=>match ev env f with
  | .clo g first cap=>zB P g=true∧zAk P g (first++args.map (ev env)++cap) σ (zH1 d env K Qp)
  | .lit (.func (.yield b) ⟨[]⟩ ⟨[]⟩)=>zCy P b (args.map (ev env)) σ (zH1 d env K Qp)
  | _=>False
 | .alr d q zs,env,σ=>(match σ[q]? with
  | some .rsv=>K (env.put d (.ptr q 0)) (σ.set q (.box (zs.map qR)))
  | _=>False)
 | .mop d m xs,env,σ=>zBu m (xs.map (ev env)) (fun r σ'=>K (env.put d r) σ') σ
 | .pan _ x,env,σ=>(match ev env x with
  | .lit (.iface t v)=>Qp (.iface t v) env σ
  | _=>False)
 | k,env,σ=>qW (zI env σ k) fun r=>K (env.put k.dst r) σ
end
end Go.Abs
namespace Go.Abs
def zKl (P:Program)(t:TypeId)(xs:List Int):Value:=match P.underlying t with
 | some (.struct _)=>.agg (xs.map zC6).toArray
 | _=>zC6 (xs.headD 0)
section
variable {P:Program}{w:World}
theorem zL8 {t:TypeId}{d n:Nat}(h:zDb P d t=some n)(hi:(P.info? t).map (·.size)=some n){pre xs:List Int}(hx:n≤xs.length) :
 (part t ((pre++xs).map zC6).toArray pre.length).run P w=.ok (zKl P t (xs.take n)) w:=by
 cases d with
 | zero=>simp[zDb]at h
 | succ d =>
 unfold zDb at h;unfold part zKl;split at h
 ·rename_i hu;cases h;rw[Sem.run_bind,zDC hu,Result.andThen_ok,hu];simp only[zHF,jAi,if_false];cases xs with
  | nil=>simp at hx
  | cons x xs=>simp
 ·rename_i fs hu;obtain⟨i,hii,hsz⟩:=jAa.1 hi;rw[Sem.run_bind,zDC hu,Result.andThen_ok,hu];simp only[zHF,if_true,Sem.run_bind,yF hii,Result.andThen_ok,hsz,Sem.run_pure]
  congr 2
  apply jCf;simp[Array.toList_extract,List.extract,List.drop_append,List.map_take]
 ·cases h
theorem eqI:∀(d D n:Nat) (t:TypeId) (xs ys:List Int),d≤D→zDb P d t=some n→xs.length=n→ys.length=n→(Op.equalIn D t (zKl P t xs) (zKl P t ys)).run P w=.ok (decide (xs=ys)) w
 | 0,_,_,_,_,_,_,h,_,_=>by simp[zDb]at h
 | d+1,0,_,_,_,_,hD,_,_,_=>by omega
 | d+1,D+1,n,t,xs,ys,hD,h,hx,hy=>by
  unfold zDb at h;split at h
  ·rename_i hu;cases h;unfold zKl;rw[hu]
   match xs,hx,ys,hy with
   | [x],_,[y],_ =>
    simp only[jD9,zC6];rw[run_equalIn_int w D t .i64 .i64 x y hu]
    congr 1
    by_cases hxy:x=y<;>simp[hxy]
  ·rename_i fs hu;split at h
   ·cases h
   rename_i hst;unfold zKl;rw[hu];have hfo:P.fieldsOf t=fs:=by simp[Program.fieldsOf,hu]
   rw[run_equalIn_struct w D t _ _ (by rw[hfo]; exact hu) (by simpa using hst),hfo];have go:∀(fs:List Field) (pre pre' xs ys:List Int),pre.length=pre'.length→zE8 P (zDb P d) pre.length fs=some n→pre.length+xs.length=n→pre.length+ys.length=n →
    (Op.eqFields D ((pre++xs).map zC6).toArray ((pre'++ys).map zC6).toArray fs).run P w=.ok (decide (xs=ys)) w:=by
    intro fs;induction fs with
    | nil =>
     intro pre pre' xs ys hp hf hx hy;simp only[zE8,jA0]at hf;have e1:xs=[]:=List.length_eq_zero_iff.1 (by omega);have e2:ys=[]:=List.length_eq_zero_iff.1 (by omega);simp[Op.eqFields,e1,e2]
    | cons f fs ih =>
     intro pre pre' xs ys hp hf hx hy;unfold zE8 at hf;split at hf<;>try (cases hf; done)
     rename_i hof;obtain⟨hof,hnm⟩:=hof;split at hf<;>try (cases hf; done)
     rename_i k hk;split at hf<;>try (cases hf; done)
     rename_i hsz;have hkn:pre.length+k≤n:=by
      have mono:∀(fs:List Field) (o n:Nat),zE8 P (zDb P d) o fs=some n→o≤n:=by
       intro fs;induction fs with
       | nil=>intro o n h; simp only[zE8,jA0]at h; omega
       | cons f fs ih =>
        intro o n h;unfold zE8 at h;split at h<;>try (cases h; done)
        split at h<;>try (cases h; done)
        split at h<;>try (cases h; done)
        have:=ih _ _ h;omega
      exact mono _ _ _ hf
     have p1:=zL8 (w:=w) (pre:=pre) (xs:=xs) hk hsz (by omega);have p2:=zL8 (w:=w) (pre:=pre') (xs:=ys) hk hsz (by omega);rw[←hof]at p1;rw[←hp,←hof]at p2;have hq:=eqI d D k f.type (xs.take k) (ys.take k) (by omega) hk (by simp; omega) (by simp; omega);have:=ih (pre++xs.take k) (pre'++ys.take k) (xs.drop k) (ys.drop k) (by simp; omega) (by simpa [jAx (show k≤xs.length by omega)] using hf) (by simp; omega) (by simp; omega);simp only[jB3,jCb]at this;simp only[Op.eqFields,hnm,ne_eq,not_false_eq_true,if_true,Sem.run_bind,p1,p2,Result.andThen_ok,hq];have hdec:decide (xs=ys)=(decide (xs.take k=ys.take k)&&decide (xs.drop k=ys.drop k)):=by
      by_cases h:xs=ys
      ·simp[h]
      ·have:¬(xs.take k=ys.take k∧xs.drop k=ys.drop k):=fun⟨a,b⟩=>h (by rw[←jCb k xs,a,b,jCb])
       simp only[h,decide_false];symm;rw[jCp];by_cases h1:xs.take k=ys.take k
       ·right; simp only[decide_eq_false_iff_not]; exact fun e=>this ⟨h1,e⟩
       ·left; simp[h1]
     rw[hdec];by_cases h1:xs.take k=ys.take k
     ·simp only[h1,decide_true,Bool.not_true,jAi,if_false,this,jC3]
     ·simp[h1]
   exact go fs.toList [] [] xs ys rfl h (by simpa using hx) (by simpa using hy)
  ·cases h
theorem zVV (em:Bool):∀(d D n:Nat) (t:TypeId) (xs:List Int),d≤D→zDb P d t=some n→xs.length=n→(Instr.checkKey em D t (zKl P t xs)).run P w=.ok () w
 | 0,_,_,_,_,_,h,_=>by simp[zDb]at h
 | d+1,0,_,_,_,hD,_,_=>by omega
 | d+1,D+1,n,t,xs,hD,h,hx=>by
  unfold zDb at h;split at h
  ·rename_i hu;cases h;unfold zKl;rw[hu];simp[Instr.checkKey,run_underlying hu,zC6]
  ·rename_i fs hu;split at h
   ·cases h
   rename_i hst;unfold zKl;rw[hu];simp only[Instr.checkKey,Sem.run_bind,run_underlying hu,Result.andThen_ok];rw[←Array.forIn_toList];have go:∀(fs:List Field) (pre xs:List Int),zE8 P (zDb P d) pre.length fs=some n→pre.length+xs.length=n →
    (forIn (m:=Sem) fs PUnit.unit fun f (_:PUnit)=>(if f.name ≠ "_" then do
     let a ←part f.type ((pre++xs).map zC6).toArray f.offset
     Instr.checkKey em D f.type a
     pure (ForInStep.yield PUnit.unit)
     else pure (ForInStep.yield PUnit.unit))).run P w=.ok PUnit.unit w:=by
    intro fs;induction fs with
    | nil=>intro pre xs _ _; simp
    | cons f fs ih =>
     intro pre xs hf hx;unfold zE8 at hf;split at hf<;>try (cases hf; done)
     rename_i hof;obtain⟨hof,hnm⟩:=hof;split at hf<;>try (cases hf; done)
     rename_i k hk;split at hf<;>try (cases hf; done)
     rename_i hsz;have hkn:pre.length+k≤n:=by
      have mono:∀(fs:List Field) (o n:Nat),zE8 P (zDb P d) o fs=some n→o≤n:=by
       intro fs;induction fs with
       | nil=>intro o n h; simp only[zE8,jA0]at h; omega
       | cons f fs ih =>
        intro o n h;unfold zE8 at h;split at h<;>try (cases h; done)
        split at h<;>try (cases h; done)
        split at h<;>try (cases h; done)
        have:=ih _ _ h;omega
      exact mono _ _ _ hf
     have p1:=zL8 (w:=w) (pre:=pre) (xs:=xs) hk hsz (by omega);rw[←hof]at p1;have hq:=zVV em d D k f.type (xs.take k) (by omega) hk (by simp; omega);have:=ih (pre++xs.take k) (xs.drop k) (by simpa [jAx (show k≤xs.length by omega)] using hf) (by simp; omega);simp only[jB3,jCb]at this;simp only[List.forIn_cons,hnm,ne_eq,not_false_eq_true,if_true,Sem.run_bind,p1,Result.andThen_ok,hq,Sem.run_pure];exact this
   have h':=go fs.toList [] xs h (by simpa using hx);simp at h' ⊢;rw[h'];rfl
  ·cases h
end
end Go.Abs
namespace Go.Abs
section
variable {P:Program}{H:Mem}{L:List LI} {σ : St}{w:World}{N:Nat}{env:Env}{a:Act}
theorem zNe:∀{cs:List A} {ks:List Int} {vs:List Value},zIl cs=some ks→zT H L cs vs→vs=ks.map zC6
 | [],ks,vs,h,hr=>by simp only[zIl,jA0]at h; subst h; rw[jK hr]; rfl
 | c::cs,ks,vs,h,hr=>by
  unfold zIl at h;split at h<;>try (cases h; done)
  ·rename_i heq; cases heq
  rename_i n l heq;cases heq;simp only[jAa]at h;obtain⟨ks',hk,rfl⟩:=h;obtain⟨u,us,rfl,h1,h2⟩:=zV hr;simp only[Rel]at h1;rw[h1,zNe hk h2];rfl
theorem zLk {nk:Nat}{x:A}{ks:List Int}{v:Value}(h:zIi nk x=some ks)(hr:Rel H L x v):v=zCx ks∧ks.length=nk:=by
 unfold zIi at h;split at h<;>try (cases h; done)
 ·split at h<;>try (cases h; done)
  rename_i ks' hk;split at h<;>try (cases h; done)
  rename_i hn;cases h;simp only[Rel]at hr;obtain⟨vs,rfl,h1,_⟩:=hr;exact⟨by rw[zNe hk h1,zIj (by omega)],hn.1⟩
 ·split at h<;>try (cases h; done)
  rename_i hn;cases h;simp only[Rel]at hr;exact⟨hr,hn.symm⟩
theorem zQu (ks:List Int):Rel H L (zKi ks) (zCx ks):=by
 by_cases h1:ks.length=1
 ·match ks,h1 with
  | [n],_=>simp[zKi,zCx,Rel,zC6]
 ·have e:zKi ks=.agg (ks.map fun n=>.lit (.int .i64 n)):=by
   match ks,h1 with
   | [],_=>rfl
   | _::_::_,_=>rfl
  rw[e,zIj h1];simp only[Rel];refine⟨ks.map zC6,rfl,?_,fun u hu=>?_⟩
  ·clear e h1;induction ks with
   | nil=>exact jM
   | cons k ks ih=>exact qT (by simp[Rel,zC6]) ih
  ·obtain⟨n,_,rfl⟩:=jAn.1 hu;rfl
theorem zO8 {k:TypeId}{nk:Nat}(h:zH0 P k=some nk):zDb P 20 k=some nk∧(∀ks:List Int,ks.length=nk→zKl P k ks=zCx ks)∧((match P.underlying k with | some (.array _ _) | some (.struct _)=>true | _=>false)=true∨(P.underlying k=some (.int .i64)∧nk=1)):=by
 unfold zH0 at h;split at h<;>try (cases h; done)
 ·rename_i fs hu;split at h<;>try (cases h; done)
  rename_i n hn;split at h<;>try (cases h; done)
  rename_i hn1;cases h;refine⟨hn,fun ks hks=>?_,.inl (by rw[hu])⟩;unfold zKl;rw[hu,zIj (by omega)]
 ·rename_i hu;cases h;refine⟨by simp[zDb,hu],fun ks hks=>?_,.inr ⟨hu,rfl⟩⟩;unfold zKl;rw[hu]
  match ks,hks with
  | [n],_=>rfl
theorem zIb {k:TypeId}{nk:Nat}(hk:zH0 P k=some nk){ks:List Int}(hks:ks.length=nk):∀(es:List (List Int×A)) (l:List MapEntry) (i:Nat),zAr H L es l→(∀p∈es,p.1.length=nk) →
 (zBO ks es=none∧(Instr.findAsking k (zCx ks) l i).run P w=.ok none w∧(∀v,putI ks v es=es++[(ks,v)])∧zIP ks es=es) ∨
 ∃(j:Nat) (p:List Int×A) (e:MapEntry),es[j]?=some p∧p.1=ks∧zBO ks es=some p.2∧l[j]?=some e∧Rel H L p.2 e.val∧e.key=zCx ks∧(Instr.findAsking k (zCx ks) l i).run P w=.ok (some (i+j,e.val)) w∧(∀v,putI ks v es=es.set j (ks,v))∧zIP ks es=es.eraseIdx j
 | [],l,i,h,_=>by rw[show l=[] from h];exact .inl ⟨rfl,by simp[Instr.findAsking],fun v=>rfl,rfl⟩
 | p::es,l,i,h,hn=>by
  obtain⟨e,l',rfl,h1,h2,h3⟩:=h;obtain⟨hi,hv,_⟩:=zO8 hk;have heq:=eqI (P:=P) (w:=w) 20 10000 nk k ks p.1 (by decide) hi hks (hn p (jAm ..));rw[hv _ hks,hv _ (hn p (jAm ..)),←h1]at heq;have heq:(Op.equal k (zCx ks) e.key).run P w=.ok (decide (ks=p.1)) w:=heq;by_cases hp:p.1=ks
  ·refine .inr ⟨0,p,e,rfl,hp,by simp[zBO,hp],rfl,h2,by rw[h1,hp],?_,fun v=>by simp[putI,hp],by simp[zIP,hp]⟩;simp[Instr.findAsking,heq,hp]
  ·have hp':¬ks=p.1:=fun e=>hp e.symm
   rcases zIb hk hks es l' (i+1) h3 (fun q hq=>hn q (jAg _ hq))with ⟨g1,g2,g3,g4⟩ | ⟨j,q,e',g1,g2,g3,g4,g5,g6,g7,g8,g9⟩
   ·refine .inl ⟨by simp[zBO,hp,g1],?_,fun v=>by simp[putI,hp,g3],by simp[zIP,hp,g4]⟩;simp[Instr.findAsking,heq,hp',g2]
   ·refine .inr ⟨j+1,q,e',by simpa using g1,g2,by simp[zBO,hp,g3],by simpa using g4,g5,g6,?_,fun v=>by simp[putI,hp,g8],by simp[zIP,hp,g9]⟩;simp only[Instr.findAsking,Sem.run_bind,heq,Result.andThen_ok,hp',decide_false,jAi,if_false,g7]
    congr 3
    omega
theorem zTl {k:TypeId}(hu:P.underlying k=some (.int .i64)){n:Int}:∀(es:List (List Int×A)) (l:List MapEntry) (i:Nat),zAr H L es l→(∀p∈es,p.1.length=1) →
 ∃r,Instr.findNow (.int .i64) (zC6 n) l i=some r∧(Instr.findAsking k (zC6 n) l i).run P w=.ok r w
 | [],l,i,h,_=>by rw[show l=[] from h];exact⟨none,rfl,by simp[Instr.findAsking]⟩
 | p::es,l,i,h,hn=>by
  obtain⟨e,l',rfl,h1,h2,h3⟩:=h;obtain⟨r,q1,q2⟩:=zTl hu (n:=n) es l' (i+1) h3 (fun q hq=>hn q (jAg _ hq));have hp1:=hn p (jAm ..);obtain⟨⟨ks,x⟩,rfl⟩:∃q:List Int×A,q=p:=⟨p,rfl⟩
  match ks,hp1 with
  | [m],_ =>
   have h1:e.key=zC6 m:=h1;have heq:(Op.equal k (zC6 n) (zC6 m)).run P w=.ok (n==m) w:=run_equalIn_int w 9999 k .i64 .i64 n m hu;by_cases hnm:n=m
   ·subst hnm;refine⟨some (i,e.val),?_,?_⟩
    ·simp[Instr.findNow,h1,zC6,Instr.sameNow]
    ·simp[Instr.findAsking,h1,heq]
   ·refine⟨r,?_,?_⟩
    ·have hb:(n==m)=false:=by simpa using hnm
     simpa [Instr.findNow,h1,zC6,Instr.sameNow,hb] using q1
    ·simpa [Instr.findAsking,h1,heq,hnm] using q2
theorem zGB {k:TypeId}{nk:Nat}(hk:zH0 P k=some nk){ks:List Int}(hks:ks.length=nk){es:List (List Int×A)}{l:List MapEntry}(hr:zAr H L es l)(hn:∀p∈es,p.1.length=nk) :
 (Instr.findKey k (zCx ks) l).run P w=(Instr.findAsking k (zCx ks) l).run P w:=by
 obtain⟨_,_,hw | ⟨hu,rfl⟩⟩:=zO8 hk
 ·exact run_findKey_eq w hw _ _
 ·match ks,hks with
  | [n],_ =>
   obtain⟨r,q1,q2⟩:=zTl (w:=w) hu (n:=n) es l 0 hr hn;show (Instr.findKey k (zC6 n) l).run P w=(Instr.findAsking k (zC6 n) l 0).run P w;rw[q2];simp only[Instr.findKey,Sem.run_bind,run_underlying hu,Result.andThen_ok,q1,Sem.run_pure]
theorem zD2 {k:TypeId}{nk:Nat}(hk:zH0 P k=some nk){ks:List Int}(hks:ks.length=nk)(em:Bool):(Instr.checkKey em 10000 k (zCx ks)).run P w=.ok () w:=by
 obtain⟨hi,hv,_⟩:=zO8 hk;have:=zVV (P:=P) (w:=w) em 20 10000 nk k ks (by decide) hi hks
 rwa [hv _ hks]at this
theorem zOx (ks:List Int):Instr.sameBits 10000 (zCx ks) (zCx ks)=true:=by
 by_cases h1:ks.length=1
 ·match ks,h1 with
  | [n],_=>simp[zCx,zC6,Instr.sameBits]
 rw[zIj h1];simp only[Instr.sameBits,beq_self_eq_true,jC3,jB1];intro p hp;obtain⟨x,y⟩:=p;have hxy:x=y∧∃n,x=zC6 n:=by
  have:∀(l:List Value),(∀v∈l,∃n,v=zC6 n)→∀q∈l.zip l,q.1=q.2∧∃n,q.1=zC6 n:=by
   intro l;induction l with
   | nil=>intro _ q hq; simp at hq
   | cons v l ih =>
    intro h q hq;simp only[List.zip_cons_cons,jA5]at hq;rcases hq with rfl | hq
    ·exact⟨rfl,h v (jAm ..)⟩
    ·exact ih (fun v hv=>h v (jAg _ hv)) q hq
  exact this _ (fun v hv=>by simp only[jAn]at hv;obtain⟨n,_,rfl⟩:=hv;exact⟨n,rfl⟩) _ hp
 obtain⟨rfl,n,rfl⟩:=hxy;simp[zC6,Instr.sameBits]
theorem zYY {t k e:TypeId}{nk:Nat}(ht:P.underlying t=some (.map k e))(hk:zH0 P k=some nk){i:TypeInfo}(hi:P.info? e=some i){z:Value}(hz:i.zero=some z){ks:List Int}(hks:ks.length=nk){es:List (List Int×A)}{ents:Array MapEntry}{ck b:Nat}
 (hb:w.heap[b]?=some (.map ents ck))(hr:zAr H L es ents.toList)(hn:∀p∈es,p.1.length=nk)(ok:Bool) :
 ∃v,(Instr.lookup t (.map (some b)) (zCx ks) ok).run P w=.ok v w∧Rel H L (zFn z ok (zBO ks es)) v:=by
 have hzr:(zeroValue e).run P w=.ok z w:=by simp[zeroValue,typeInfo,hi,hz]
 have hg:(getObj b).run P w=.ok (.map ents ck) w:=by simp[getObj,Sem.run,hb]
 rcases zIb (w:=w) hk hks es ents.toList 0 hr hn with ⟨g1,g2,_,_⟩ | ⟨j,p,en,g1,g2,g3,g4,g5,g6,g7,_,_⟩
 ·refine⟨if ok then .tuple #[z,.bool false] else z,?_,?_⟩
  ·simp only[Instr.lookup,Sem.run_bind,run_underlying ht,Result.andThen_ok,hg,Sem.run_pure,zD2 hk hks,zGB hk hks hr hn,g2,hzr]
  ·cases ok
   ·simp only[zFn,g1,Option.getD_none];exact zGs z
   ·simp only[zFn,g1,if_true,Option.getD_none,Option.isSome_none,Rel];exact⟨[z,.bool false],rfl,qT (zGs z) (qT (by simp[Rel]) jM)⟩
 ·refine⟨if ok then .tuple #[en.val,.bool true] else en.val,?_,?_⟩
  ·simp only[Instr.lookup,Sem.run_bind,run_underlying ht,Result.andThen_ok,hg,Sem.run_pure,zD2 hk hks,zGB hk hks hr hn,g7]
  ·cases ok
   ·simp only[zFn,g3,jBg];exact g5
   ·simp only[zFn,g3,if_true,jBg,Option.isSome_some,Rel];exact⟨[en.val,.bool true],rfl,qT g5 (qT (by simp[Rel]) jM)⟩
theorem zL4 (hs:RelSt H L σ w)(ob:AObj)(o:Obj)(ho:zN H (L++[(⟨some w.heap.size,0,0,false⟩:LI)]) (w.alloc o) ⟨some w.heap.size,0,0,false⟩ ob) :
 Nxt H L w H (L++[(⟨some w.heap.size,0,0,false⟩:LI)]) (σ++[ob]) (w.alloc o):=by
 have hll:=LLe.append L [(⟨some w.heap.size,0,0,false⟩:LI)];refine⟨⟨fun b o v hv=>?_,by simp[hs.len],fun i l o hL hσ=>?_,fun i j l l' b hi hj hb hb'=>?_,fun i l b hL hb=>?_⟩,
  ⟨rfl,rfl,rfl,by simp,fun k hk _=>heap_alloc_old w _ (h:=hk),HLe.refl _,fun b o v hv=>.inl hv,jA _,zEb (fun k hk=>heap_alloc_old w _ (h:=hk))⟩,hll,fun b ⟨i,l,hL,hb⟩=>?_⟩
 ·rw[World.cell?_alloc_lt _ _ _ (hs.h_lt hv)];exact hs.pers b o v hv
 ·rcases jH hL with hL' | ⟨rfl,rfl⟩
  ·have hi:i<L.length:=(jA1.1 hL').1;rw[jAd (by rw[←hs.len]; exact hi)]at hσ;exact(hs.obj i l o hL' hσ).carry (fun b hb=>heap_alloc_old w _ (h:=hs.lt i l b hL' hb)) (HLe.refl _) hll (fun _ _ _=>rfl)
  ·rw[hs.len]at hσ;rw[jAr (jA _)]at hσ;simp only[jC1,jAz,jA0]at hσ;subst hσ;exact ho
 ·rcases jH hi with hi' | ⟨rfl,rfl⟩
  ·rcases jH hj with hj' | ⟨rfl,rfl⟩
   ·exact hs.inj i j l l' b hi' hj' hb hb'
   ·cases hb'; have:=hs.lt i l _ hi' hb; omega
  ·cases hb;rcases jH hj with hj' | ⟨rfl,rfl⟩
   ·have:=hs.lt j l' _ hj' hb'; omega
   ·rfl
 ·rcases jH hL with hL' | ⟨rfl,rfl⟩
  ·have:=hs.lt i l b hL' hb; simp; omega
  ·cases hb; simp
 ·rcases jH hL with hL' | ⟨rfl,rfl⟩
  ·exact .inl ⟨i,l,hL',hb⟩
  ·cases hb; exact .inr (jA _)
theorem zDK (hs:RelSt H L σ w){l b:Nat}{li:LI}{o0 o:Obj}{ob:AObj}(hl:L[l]?=some li)(hb:li.block=some b)(h0:w.heap[b]?=some o0)(hc:∀c e f,o0≠.cells c e f)(hv:∀a t,o0≠.view a t)(hp:∀c e,o0≠.pending c e)(hn:∀a x,o0≠.number a x)(hd:∀d,o0≠.deferred d)
 (ho:zN H L (w.putObj b o) li ob):Nxt H L w H L (σ.set l ob) (w.putObj b o):=by
 have hnone:∀o,H b o=none:=fun o=>by
  cases hH:H b o with
  | none=>rfl
  | some v =>
   have:=hs.pers b o v hH;simp only[World.cell?,h0]at this;cases o0<;>simp_all
 exact zGE hs hl hb rfl rfl rfl rfl (fun d=>by rw[h0]; exact fun e=>hd d (jAs e)) (by simp) (fun k hk=>World.putObj_heap_other hk) (HLe.refl _) (fun _ _ _ h=>.inl h) (fun o' v hv=>by rw[hnone]at hv; cases hv) ho
theorem zF5 {r:Nat}{es:Array MapEntry}{ck:Nat}(o:Obj)(h:w.heap[r]?=some (.map es ck)):(setObj r o).run P w=.ok () (w.putObj r o):=by simp[setObj,Sem.run,h,World.putObj]
theorem zLw {α : Type}(a:Array α)(j:Nat)(f : α→α)(x : α)(h:a[j]?=some x):a.modify j f=a.setIfInBounds j (f x):=by
 apply jCf;rw[Array.toList_modify,jDf];apply jC8;intro i;rw[List.getElem?_modify,jDd];rw[←jCr]at h;by_cases hi:j=i
 ·subst hi;have:=(jA1.1 h).1;rw[jAy]at this;have hx:a[j]=x:=by rw[jCr,Array.getElem?_eq_getElem this]at h; exact jAs h
  simp[this,hx,h]
 ·simp[hi]
theorem zAr.setAt:∀{es:List (List Int×A)} {l:List MapEntry} {j:Nat} {e:MapEntry} {ks:List Int} {a:A},zAr H L es l→e.key=zCx ks→Rel H L a e.val→zAr H L (es.set j (ks,a)) (l.set j e)
 | [],l,j,e,ks,a,h,_,_=>by rw[show l=[] from h]; exact rfl
 | p::es,_,0,e,ks,a,⟨e0,l',rfl,h1,h2,h3⟩,hk,hr=>⟨e,l',rfl,hk,hr,h3⟩
 | p::es,_,j+1,e,ks,a,⟨e0,l',rfl,h1,h2,h3⟩,hk,hr=>⟨e0,_,rfl,h1,h2,zAr.setAt h3 hk hr⟩
theorem zAr.snoc:∀{es:List (List Int×A)} {l:List MapEntry} {e:MapEntry} {ks:List Int} {a:A},zAr H L es l→e.key=zCx ks→Rel H L a e.val→zAr H L (es++[(ks,a)]) (l++[e])
 | [],l,e,ks,a,h,hk,hr=>by rw[show l=[] from h]; exact⟨e,[],rfl,hk,hr,rfl⟩
 | p::es,_,e,ks,a,⟨e0,l',rfl,h1,h2,h3⟩,hk,hr=>⟨e0,_,rfl,h1,h2,zAr.snoc h3 hk hr⟩
theorem zAr.eraseAt:∀{es:List (List Int×A)} {l:List MapEntry} {j:Nat},zAr H L es l→zAr H L (es.eraseIdx j) (l.eraseIdx j)
 | [],l,j,h=>by rw[show l=[] from h]; exact rfl
 | p::es,_,0,⟨e0,l',rfl,h1,h2,h3⟩=>by simpa using h3
 | p::es,_,j+1,⟨e0,l',rfl,h1,h2,h3⟩=>⟨e0,_,rfl,h1,h2,zAr.eraseAt h3⟩
theorem qDX {t k e:TypeId}{nk:Nat}(ht:P.underlying t=some (.map k e))(hk:zH0 P k=some nk)(hs:RelSt H L σ w){l:Nat}{fr:Bool}{ks:List Int}(hks:ks.length=nk){es:List (List Int×A)}{m v:Value}{x:A}
 (hm:Rel H L (.map l) m)(hσ : σ[l]?=some (.mp fr nk es))(hv:Rel H L x v) :
 ∃w',(Instr.mapUpdate t m (zCx ks) v).run P w=.ok () w'∧Nxt H L w H L (σ.set l (.mp fr nk (putI ks x es))) w':=by
 simp only[Rel]at hm;obtain⟨li,b,hL,hb,hrow,rfl⟩:=hm;have hob:=hs.obj l li _ hL hσ;simp only[zN]at hob;obtain⟨_,b',ents,ck,e1,h2,hr,hbn,hn⟩:=hob;rw[hb]at e1;cases e1;have hg:(getObj b).run P w=.ok (.map ents ck) w:=by simp[getObj,Sem.run,h2]
 have hlt:=hs.lt l li b hL hb;have hsame:∀o,(w.putObj b o).heap[b]?=some o:=fun o=>World.putObj_heap_same hlt
 rcases zIb (w:=w) hk hks es ents.toList 0 hr hn with ⟨g1,g2,g3,_⟩ | ⟨j,p,en,g1,g2,g3,g4,g5,g6,g7,g8,_⟩
 ·refine⟨w.putObj b (.map (ents.push ⟨zCx ks,v,ck⟩) (ck+1)),?_,?_⟩
  ·simp only[Instr.mapUpdate,Sem.run_bind,run_underlying ht,Result.andThen_ok,hg,zD2 hk hks,zGB hk hks hr hn,g2,zF5 _ h2]
  ·rw[g3];refine zDK hs hL hb h2 (by simp) (by simp) (by simp) (by simp) (by simp) ?_;simp only[zN];refine⟨hrow,b,_,_,hb,hsame _,by rw[Array.toList_push]; exact zAr.snoc hr rfl hv,fun hf=>?_,fun q hq=>?_⟩
   ·obtain⟨c1,c2⟩:=hbn hf;refine⟨by simp[c1],fun i e he=>?_⟩;rw[Array.toList_push]at he;rcases jH he with he | ⟨rfl,rfl⟩
    ·exact c2 i e he
    ·exact c1
   ·rcases jAe.1 hq with hq | hq
    ·exact hn q hq
    ·simp at hq; rw[hq]; exact hks
 ·have hj:ents[j]?=some en:=by rw[←jCr]; exact g4
  have hmod:ents.modify j (fun e=>{e with key:=zCx ks,val:=v})=ents.setIfInBounds j {en with key:=zCx ks,val:=v}:=zLw ents j _ en hj;refine⟨w.putObj b (.map (ents.setIfInBounds j {en with key:=zCx ks,val:=v}) ck),?_,?_⟩
  ·simp only[Instr.mapUpdate,Sem.run_bind,run_underlying ht,Result.andThen_ok,hg,zD2 hk hks,zGB hk hks hr hn,g7,jAt,hj,jCx,jBg,g6,Instr.keyThatStays,zOx,if_true,Sem.run_pure,hmod,zF5 _ h2]
  ·rw[g8];refine zDK hs hL hb h2 (by simp) (by simp) (by simp) (by simp) (by simp) ?_;simp only[zN];refine⟨hrow,b,_,_,hb,hsame _,by rw[jDf]; exact zAr.setAt hr rfl hv,fun hf=>?_,fun q hq=>?_⟩
   ·obtain⟨c1,c2⟩:=hbn hf;refine⟨by simp[c1],fun i e he=>?_⟩;rw[jDf,jDd]at he;split at he
    ·rename_i hji;subst hji;split at he
     ·cases he;exact c2 _ en g4
     ·cases he
    ·exact c2 i e he
   ·rcases List.mem_or_eq_of_mem_set hq with hq | rfl
    ·exact hn q hq
    ·exact hks
theorem qCM {t k e:TypeId}{nk:Nat}(ht:P.underlying t=some (.map k e))(hk:zH0 P k=some nk)(hs:RelSt H L σ w){l:Nat}{fr:Bool}{ks:List Int}(hks:ks.length=nk){es:List (List Int×A)}{m:Value}
 (hm:Rel H L (.map l) m)(hσ : σ[l]?=some (.mp fr nk es))(ats:Array TypeId)(hat:ats[0]?=some t)(ty:TypeId) :
 ∃w',(Builtin.delete_ ats ty #[m,zCx ks]).run P w=.ok (.tuple #[]) w'∧Nxt H L w H L (σ.set l (.mp false nk (zIP ks es))) w':=by
 simp only[Rel]at hm;obtain⟨li,b,hL,hb,hrow,rfl⟩:=hm;have hob:=hs.obj l li _ hL hσ;simp only[zN]at hob;obtain⟨_,b',ents,ck,e1,h2,hr,hbn,hn⟩:=hob;rw[hb]at e1;cases e1;have hg:(getObj b).run P w=.ok (.map ents ck) w:=by simp[getObj,Sem.run,h2]
 have hlt:=hs.lt l li b hL hb;have hsame:∀o,(w.putObj b o).heap[b]?=some o:=fun o=>World.putObj_heap_same hlt
 rcases zIb (w:=w) hk hks es ents.toList 0 hr hn with ⟨g1,g2,_,g4⟩ | ⟨j,p,en,g1,g2,g3,g4,g5,g6,g7,_,g9⟩
 ·refine⟨w.putObj b (.map ents ck),?_,?_⟩
  ·simp only[Builtin.delete_,hat,List.getElem?_toArray,jAz,jBb,Sem.run_bind,run_underlying ht,Result.andThen_ok,hg,zD2 hk hks,zGB hk hks hr hn,g2,zF5 _ h2];rfl
  ·rw[g4];refine zDK hs hL hb h2 (by simp) (by simp) (by simp) (by simp) (by simp) ?_;simp only[zN];exact⟨hrow,b,_,_,hb,hsame _,hr,fun hf=>(by cases hf),hn⟩
 ·refine⟨w.putObj b (.map (ents.eraseIdxIfInBounds j) ck),?_,?_⟩
  ·simp only[Builtin.delete_,hat,List.getElem?_toArray,jAz,jBb,Sem.run_bind,run_underlying ht,Result.andThen_ok,hg,zD2 hk hks,zGB hk hks hr hn,g7,jAt,zF5 _ h2];rfl
  ·rw[g9];refine zDK hs hL hb h2 (by simp) (by simp) (by simp) (by simp) (by simp) ?_;simp only[zN];have hsub:(ents.eraseIdxIfInBounds j).toList=ents.toList.eraseIdx j:=by
    unfold Array.eraseIdxIfInBounds;split
    ·simp
    ·rw[List.eraseIdx_of_length_le (by simp; omega)]
   exact⟨hrow,b,_,_,hb,hsame _,by rw[hsub]; exact zAr.eraseAt hr,fun hf=>(by cases hf),fun q hq=>hn q (List.mem_of_mem_eraseIdx hq)⟩
theorem qJP (hs:RelSt H L σ w)(nk:Nat):Nxt H L w H (L++[(⟨some w.heap.size,0,0,false⟩:LI)]) (σ++[AObj.mp true nk []]) (w.alloc (.map #[] 0)):=by refine zL4 hs _ _ ?_;simp only[zN];exact⟨trivial,w.heap.size,#[],0,rfl,heap_alloc_new w _,rfl,fun _=>⟨rfl,fun i e he=>by simp at he⟩,by simp⟩
theorem qDO {t k e:TypeId}(ht:P.underlying t=some (.map k e))(hs:RelSt H L σ w){l nk:Nat}{es:List (List Int×A)}{m:Value}(hm:Rel H L (.map l) m)(hσ : σ[l]?=some (.mp true nk es)) :
 ∃w',(Instr.range t m).run P w=.ok (.pointer (some ⟨w.heap.size,0,none⟩)) w'∧Nxt H L w H (L++[(⟨some w.heap.size,0,0,false⟩:LI)]) (σ++[AObj.it l es.length []]) w':=by
 simp only[Rel]at hm;obtain⟨li,b,hL,hb,hrow,rfl⟩:=hm;have hob:=hs.obj l li _ hL hσ;simp only[zN]at hob;obtain⟨_,b',ents,ck,e1,h2,hr,hbn,hn⟩:=hob;rw[hb]at e1;cases e1;obtain⟨c1,c2⟩:=hbn rfl;have hck:ck=es.length:=by rw[c1,hr.length]
 refine⟨w.alloc (.mapIter (some b) ck #[] ck),?_,?_⟩
 ·have hg:(getObj b).run P w=.ok (.map ents ck) w:=by simp[getObj,Sem.run,h2]
  simp only[Instr.range,Sem.run_bind,run_underlying ht,Result.andThen_ok,hg,Sem.run_pure,run_newObj];rfl
 ·refine zL4 hs _ _ ?_;simp only[zN];refine⟨trivial,w.heap.size,b,li,rfl,?_,hb,hrow,?_⟩
  ·rw[jAd (jA1.1 hL).1]; exact hL
  ·rw[heap_alloc_new,hck]
theorem zPQ {ents:Array MapEntry}{met:List Nat}{e:MapEntry}:e∈(leftOf ents met.toArray).toList↔e∈ents.toList∧e.born∉met:=by unfold leftOf;simp
theorem zIo (hs:RelSt H L σ w):Nxt H L w H L σ w.drew :=
 ⟨hs.heap_eq rfl,⟨rfl,rfl,rfl,jA _,fun _ _ _=>rfl,HLe.refl _,fun _ _ _ h=>.inl h,jCa _,fun _ _ h=>h⟩,LLe.refl _,fun _ h=>.inl h⟩
theorem zZp (ty:TypeId)(hs:RelSt H L σ w){j l nk n:Nat}{met:List Nat}{es:List (List Int×A)}{it:Value}(hi:Rel H L (.ptr j 0) it)(hσ : σ[j]?=some (.it l n met))(hσl : σ[l]?=some (.mp true nk es))(hnn:n=es.length) :
 ((∀i,i<n→i∈met)∧(Instr.next it false ty).run P w=.ok (.tuple #[.bool false]) w) ∨
 ∃(i:Nat) (p:List Int×A) (v:Value) (w':World),i∉met∧es[i]?=some p∧(Instr.next it false ty).run P w=.ok (.tuple #[.bool true,zCx p.1,v]) w'∧Rel H L p.2 v∧Nxt H L w H L (σ.set j (.it l n (met++[i]))) w':=by
 simp only[Rel]at hi;obtain⟨li,b,hL,hb,hrow,rfl⟩:=hi;have hob:=hs.obj j li _ hL hσ;simp only[zN]at hob;obtain⟨_,b',mb,lm,e1,e2,e3,e4,hit⟩:=hob;rw[hb]at e1;cases e1;have hom:=hs.obj l lm _ e2 hσl;simp only[zN]at hom;obtain⟨_,mb',ents,ck,g1,g2,hr,hbn,hn⟩:=hom;rw[e3]at g1;cases g1;obtain⟨c1,c2⟩:=hbn rfl;have hck:ck=n:=by rw[c1,hr.length,hnn]
 have hborn:∀x∈ents.toList,x.born<n:=fun x hx=>by obtain⟨i,hi,rfl⟩:=List.mem_iff_getElem.1 hx;have:=c2 i _ (jA2 hi);rw[this,←hck,c1];exact hi
 rcases run_next_at (P:=P) w ty b mb n n met.toArray ents ck hit g2 hborn (jA _)with ⟨k1,k2⟩ | ⟨e,he,w1,k1,k2⟩
 ·refine .inl ⟨fun i hi=>?_,k2⟩;have hie:i<ents.toList.length:=by rw[hr.length]; omega
  have hbi:=c2 i _ (jA2 hie);by_cases hmi:i∈met
  ·exact hmi
  ·have:ents.toList[i]∈(leftOf ents met.toArray).toList:=zPQ.2 ⟨jA3 hie,by rw[hbi]; exact hmi⟩;have h0:leftOf ents met.toArray = #[]:=Array.eq_empty_of_size_eq_zero k1;rw[h0]at this;simp at this
 ·obtain⟨he1,he2⟩:=zPQ.1 he;obtain⟨i,hi,rfl⟩:=List.mem_iff_getElem.1 he1;have hbi:=c2 i _ (jA2 hi);have hie:i<es.length:=by rw[←hr.length]; exact hi
  obtain⟨e',q1,q2,q3⟩:=hr.get (jA2 hie);rw[jA2 hi]at q1;cases q1;refine .inr ⟨i,es[i],_,_,by rw[←hbi]; exact he2,jA2 hie,by rw[←q2]; exact k2,q3,?_⟩;have hnx1:Nxt H L w H L σ w1:=by
   rcases k1 with rfl | rfl
   ·exact Nxt.refl hs
   ·exact zIo hs
  have hh:w1.heap=w.heap:=by rcases k1 with rfl | rfl<;>rfl
  have hit1:w1.heap[b]?=some (.mapIter (some mb) n met.toArray n):=by rw[hh]; exact hit
  have hlt:b<w1.heap.size:=by rw[hh]; exact hs.lt j li b hL hb
  refine hnx1.trans ?_;refine zDK hnx1.st hL hb hit1 (by simp) (by simp) (by simp) (by simp) (by simp) ?_;simp only[zN];refine⟨hrow,b,mb,lm,hb,e2,e3,e4,?_⟩;rw[World.putObj_heap_same hlt,hbi,hck];simp
theorem qCQ (hs:RelSt H L σ w){j l nk n i:Nat}{met:List Nat}{es:List (List Int×A)}{it:Value}(hi:Rel H L (.ptr j 0) it)(hσ : σ[j]?=some (.it l n met))(hσl : σ[l]?=some (.mp true nk es))(hnn:n=es.length)(hmet:met.getLast?=some i){p:List Int×A}(hp:es[i]?=some p) :
 ∃v,(Instr.entry it).run P w=.ok (.tuple #[zCx p.1,v]) w∧Rel H L p.2 v:=by
 simp only[Rel]at hi;obtain⟨li,b,hL,hb,hrow,rfl⟩:=hi;have hob:=hs.obj j li _ hL hσ;simp only[zN]at hob;obtain⟨_,b',mb,lm,e1,e2,e3,e4,hit⟩:=hob;rw[hb]at e1;cases e1;have hom:=hs.obj l lm _ e2 hσl;simp only[zN]at hom;obtain⟨_,mb',ents,ck,g1,g2,hr,hbn,hn⟩:=hom;rw[e3]at g1;cases g1;obtain⟨c1,c2⟩:=hbn rfl;have hck:ck=n:=by rw[c1,hr.length,hnn]
 obtain⟨e,q1,q2,q3⟩:=hr.get hp;have hbi:=c2 i e q1;obtain⟨ini,hini⟩:∃ini,met=ini++[i]:=by rw[List.getLast?_eq_some_iff]at hmet;exact hmet
 have hnod:(ents.toList.map (·.born)).Nodup:=by rw[List.nodup_iff_pairwise_ne,jCn];intro x y hx hy hxy;simp only[jB2]at hx hy;simp only[jBn,c2 x _ (jA2 hx),c2 y _ (jA2 hy)];omega
 refine⟨e.val,?_,q3⟩;rw[←q2];refine run_entry_at w b mb n ini.toArray ents ck e ?_ g2 (jC4 q1) hnod;rw[hit,hini,hbi,hck];simp
end
end Go.Abs
