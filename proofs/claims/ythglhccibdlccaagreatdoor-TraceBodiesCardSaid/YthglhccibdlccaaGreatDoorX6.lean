/-
  append.
  append to nil and to a full slice; what every operation does; its soundness.
-/
import Derived.Test.YthglhccibdlccaaGreatDoorX5
import Derived.RangeFuncRecord
set_option linter.unusedVariables false
set_option linter.unusedSimpArgs false
namespace Go.Abs
section
variable {P:Program}{H:Mem}{L:List LI} {σ : St}{w:World}{N:Nat}{env:Env}{a:Act}
theorem zIQ {l:Nat}{li li':LI}(hl:L[l]?=some li)(h1:li.isRow=true)(h2:li'.isRow=true)(h3:li.len<li'.len):LLe L (L.set l li'):=by
 intro i x hx;by_cases hi:i=l
 ·subst hi;rw[hl]at hx;cases hx;exact⟨li',by rw[List.getElem?_set_self (List.getElem?_eq_some_iff.1 hl).1],.inr (.inl ⟨h1,h2,h3⟩)⟩
 ·exact⟨x,by rw[List.getElem?_set_ne (Ne.symm hi)]; exact hx,.inl rfl⟩
theorem zMr (hs:RelSt H L σ w){l:Nat}{li li':LI}{b:Nat}{o:AObj}{H':Mem}{w':World}(hl:L[l]?=some li)(h1:li.isRow=true)(h2:li'.isRow=true)(h3:li.len<li'.len)
 (hb:li'.block=some b)(hold:li.block=some b∨w.heap.size≤b)(hlt:b<w'.heap.size)
 (hos:w'.os=w.os)(htape:w'.tape=w.tape)(hout:w'.output=w.output)(hdr:w.drawn≤w'.drawn)(hnd:∀d,w.heap[b]?≠some (.deferred d))(hsz:w.heap.size≤w'.heap.size)(hkeep:∀k,k<w.heap.size→k≠b→w'.heap[k]?=w.heap[k]?)
 (hle:HLe H H')(hnew:∀b' o' v,H' b' o'=some v→H b' o'=some v∨b'=b)(hpers:∀o' v,H' b o'=some v→w'.cell? ⟨b,o',none⟩=some v)
 (ho:zS H' (L.set l li') w' li' o):Nxt H L w H' (L.set l li') (σ.set l o) w':=by
 have hll:=zIQ (li':=li') hl h1 h2 h3;have hll1:l<L.length:=(List.getElem?_eq_some_iff.1 hl).1;have hget:∀{i:Nat} {x:LI},(L.set l li')[i]?=some x→(i=l∧x=li')∨(i≠l∧L[i]?=some x):=by
  intro i x hx;by_cases hi:i=l
  ·subst hi;rw[List.getElem?_set_self hll1]at hx;cases hx;exact .inl ⟨rfl,rfl⟩
  ·rw[List.getElem?_set_ne (Ne.symm hi)]at hx;exact .inr ⟨hi,hx⟩
 have hne:∀(i:Nat) l' b',L[i]?=some l'→l'.block=some b'→i≠l→b'≠b:=fun i l' b' g1 g2 hi e=>by
  rcases hold with h | h
  ·exact hi (hs.inj i l l' li b' g1 hl g2 (by rw[h,e]))
  ·have:=hs.lt i l' b' g1 g2; omega
 refine⟨⟨fun b' o' v hv=>?_,by simp[hs.len],fun i l' o' hL hσ=>?_,fun i j x y b' hi hj hx hy=>?_,fun i x b' hi hx=>?_⟩,
  ⟨hos,htape,hout,hsz,fun k hk hn=>hkeep k hk (fun e=>?_),hle,fun b' o' v hv=>?_,hdr,fun k d hk=>by
   have hks:=(Array.getElem?_eq_some_iff.1 hk).1;by_cases hkb:k=b
   ·subst hkb; exact(hnd d hk).elim
   ·rw[hkeep k hks hkb]; exact hk⟩,hll,fun b' ⟨i,x,hi,hx⟩=>?_⟩
 ·by_cases hbb:b'=b
  ·subst hbb; exact hpers o' v hv
  ·rcases hnew b' o' v hv with g | g
   ·have hc:=hs.pers b' o' v g;have hlt':=hs.h_lt g;simp only[World.cell?]at hc ⊢;rw[hkeep b' hlt' hbb];exact hc
   ·exact(hbb g).elim
 ·rcases hget hL with ⟨rfl,rfl⟩ | ⟨hi,hL'⟩
  ·rw[List.getElem?_set_self (by rw[←hs.len]; exact hll1)]at hσ;cases hσ;exact ho
  ·rw[List.getElem?_set_ne (Ne.symm hi)]at hσ;refine(hs.obj i l' o' hL' hσ).carry (fun b' hb'=>hkeep b' (hs.lt i l' b' hL' hb') (hne i l' b' hL' hb' hi)) hle hll (fun b' hb' o''=>?_);have hbne:=hne i l' b' hL' hb' hi;cases g1:H b' o'' with
   | some v=>exact hle _ _ _ g1
   | none =>
    cases g2:H' b' o'' with
    | none=>rfl
    | some v =>
     rcases hnew b' o'' v g2 with g3 | g3
     ·rw[g1]at g3; cases g3
     ·exact(hbne g3).elim
 ·rcases hget hi with ⟨rfl,rfl⟩ | ⟨hi',hi''⟩
  ·rcases hget hj with ⟨rfl,rfl⟩ | ⟨hj',hj''⟩
   ·rfl
   ·rw[hb]at hx; cases hx; exact(hne j y b hj'' hy hj' rfl).elim
  ·rcases hget hj with ⟨rfl,rfl⟩ | ⟨hj',hj''⟩
   ·rw[hb]at hy; cases hy; exact(hne i x b hi'' hx hi' rfl).elim
   ·exact hs.inj i j x y b' hi'' hj'' hx hy
 ·rcases hget hi with ⟨rfl,rfl⟩ | ⟨hi',hi''⟩
  ·rw[hb]at hx; cases hx; exact hlt
  ·exact Nat.lt_of_lt_of_le (hs.lt i x b' hi'' hx) hsz
 ·subst e;rcases hold with h | h
  ·exact hn ⟨l,li,hl,h⟩
  ·omega
 ·rcases hnew b' o' v hv with g | g
  ·exact .inl g
  ·subst g;rcases hold with h | h
   ·exact .inr (.inl ⟨l,li,hl,h⟩)
   ·exact .inr (.inr h)
 ·rcases hget hi with ⟨rfl,rfl⟩ | ⟨hi',hi''⟩
  ·rw[hb]at hx;cases hx;rcases hold with h | h
   ·exact .inl ⟨_,li,hl,h⟩
   ·exact .inr h
  ·exact .inl ⟨i,x,hi'',hx⟩
def zBI (σ : St)(sz:Nat):A→Option (Nat×List A)
 | .nil=>some (0,[])
 | .sl m cs=>some (m,cs)
 | .fsl m cs=>some (m,cs)
 | .row l n=>match σ[l]? with
  | some (.row _ _ s m cs)=>if n=m∧s=sz then some (m,cs) else none
  | _=>none
 | _=>none
theorem zHD (hs:RelSt H L σ w){x:A}{v:Value}{sz m:Nat}{cs:List A}(hx:Rel H L x v)(h:zBI σ sz x=some (m,cs))(hlen:cs.length=m*sz)(hsz:0<sz) :
 ∃ad cap,v=.slice ad m cap∧(m=0∨∃b o,∃us:List Value,ad=some ⟨b,o,none⟩∧zV H L cs us∧us.length=m*sz∧(∀u∈us,one u)∧∀j u,us[j]?=some u→w.cell? ((⟨b,o,none⟩:Addr).add j)=some u):=by
 cases x<;>simp only[zBI]at h<;>try (cases h; done)
 case nil =>
  cases h;simp only[Rel]at hx;exact⟨_,_,hx,.inl rfl⟩
 case sl n ds =>
  cases h;simp only[Rel]at hx;obtain⟨ad,cap,hv,_,_,h3⟩:=hx;refine⟨ad,cap,hv,?_⟩;rcases h3 with ⟨h3,_⟩ | ⟨b,o,us,rfl,g1,g2,g3⟩
  ·exact .inl h3
  ·exact .inr ⟨b,o,us,rfl,g1,by rw[g1.length,hlen],g2,fun j u hu=>by rw[Addr.add_lit]; exact hs.pers _ _ _ (g3 j u hu)⟩
 case fsl n ds =>
  cases h;simp only[Rel]at hx;obtain⟨ad,hv,_,h3⟩:=hx;refine⟨ad,_,hv,?_⟩;rcases h3 with ⟨h3,_⟩ | ⟨b,o,us,rfl,g1,g2,g3⟩
  ·exact .inl h3
  ·exact .inr ⟨b,o,us,rfl,g1,by rw[g1.length,hlen],g2,fun j u hu=>by rw[Addr.add_lit]; exact hs.pers _ _ _ (g3 j u hu)⟩
 case row l n =>
  split at h<;>try (cases h; done)
  rename_i fz e s k ds hds;split at h<;>try (cases h; done)
  rename_i hn;obtain⟨rfl,rfl⟩:=hn;cases h;simp only[Rel]at hx;obtain⟨_,li,e1,e2,e3,hv⟩:=hx;have hob:=hs.obj l li _ e1 hds;simp only[zS]at hob;obtain⟨_,hln,hcl,hob⟩:=hob;have hv:=hv hln.symm;rcases hob with ⟨h0,h00⟩ | ⟨b,cur,hb,hh,k1,k2,k3,k4,k5,_⟩
  ·rw[h0]at hv;exact⟨none,0,by rw[hv,h00],.inl h00⟩
  ·rw[hb]at hv;refine⟨_,_,hv,.inr ⟨b,0,_,rfl,k4,?_,k5,fun j u hu=>?_⟩⟩
   ·simp only[List.length_take,Array.length_toList];rw[k3];exact Nat.min_eq_left (Nat.mul_le_mul_right _ k1)
   ·rw[Addr.add_lit,cell_of_row w b _ cur e (0,0) hh];rw[List.getElem?_take]at hu;split at hu
    ·simpa using hu
    ·cases hu
theorem zCH {t ty e:TypeId}{i:TypeInfo}(ht:P.underlying t=some (.slice e))(hi:P.info? e=some i)(base:Option Addr)(n cap:Nat)(hc:n≤cap)(ad:Option Addr)(c:Nat) :
 (Builtin.append_ #[t,t] ty #[.slice base n cap,.slice ad 0 c]).run P w=.ok (.slice base n cap) w:=by
 have hf:(Builtin.firstCells i.size 0 (.slice ad 0 c)).run P w=.ok #[] w:=by
  cases ad with
  | none=>simp[Builtin.firstCells]
  | some a=>exact run_firstCells_some (P:=P) w i.size 0 a 0 c [] (by simp) (by simp)
 cases base<;>simp[Builtin.append_,run_underlying ht,sizeOf,typeInfo,hi,Builtin.lenOf,hc,hf,storeCells]
def zFI (H:Mem)(fz:Bool)(b:Nat)(us:List Value):Mem:=if fz then zMd H b us else H
theorem zQs {t ty e:TypeId}{i:TypeInfo}{z:Value}(ht:P.underlying t=some (.slice e))(hi:P.info? e=some i)(hz:i.zero=some z)(hzc:yV z.cells.toList=true)(hzs:z.cells.size=i.size)(hsz:0<i.size)
 (hs:RelSt H L σ w){l n:Nat}{fz:Bool}{cs:List A}{s y:Value}(hσ : σ[l]?=some (.row fz e i.size n cs))(hx:Rel H L (.row l n) s)
 {ya:A}{m:Nat}{ys:List A}(hy:Rel H L ya y)(hye:zBI σ i.size ya=some (m,ys))(hyl:ys.length=m*i.size)
 (hm:n+m≤maxLen)(hby:(n+m)*i.bytes≤140737488355328) :
 ∃v' w' H' L',(Builtin.append_ #[t,t] ty #[s,y]).run P w=.ok v' w'∧Nxt H L w H' L' (σ.set l (.row fz e i.size (n+m) (cs++ys))) w'∧HLe H H'∧Rel H' L' (.row l (n+m)) v':=by
 obtain⟨ad,c,rfl,hels⟩:=zHD hs hy hye hyl hsz;have hx0:=hx;simp only[Rel]at hx;obtain⟨hs1,li,e1,e2,e3,hv⟩:=hx;have hob:=hs.obj l li _ e1 hσ;have hob0:=hob;simp only[zS]at hob;obtain⟨_,hln,hcl,hob⟩:=hob;have hv:=hv hln.symm;have hlσ : l < σ.length:=(List.getElem?_eq_some_iff.1 hσ).1;have hlL:l<L.length:=(List.getElem?_eq_some_iff.1 e1).1;by_cases hm0:m=0
 ·subst hm0;have hys:ys=[]:=List.eq_nil_of_length_eq_zero (by simpa using hyl);subst hys;have hset : σ.set l (.row fz e i.size (n+0) (cs++[])) = σ:=by
   simp only[Nat.add_zero,List.append_nil];apply List.ext_getElem?;intro j;by_cases hj:j=l
   ·subst hj; rw[List.getElem?_set_self hlσ,hσ]
   ·rw[List.getElem?_set_ne (Ne.symm hj)]
  refine⟨s,w,H,L,?_,by rw[hset]; exact Nxt.refl hs,HLe.refl _,hx0⟩;rw[hv];cases hb:li.block with
  | none=>exact zCH ht hi none 0 0 (Nat.le_refl _) ad c
  | some b =>
   rcases hob with ⟨h0,_⟩ | ⟨b',cur,hb',hh,k1,_⟩
   ·rw[hb]at h0; cases h0
   ·exact zCH ht hi _ n _ k1 ad c
 ·rcases hels with h0 | ⟨yb,yo,us,rfl,g1,g2,g3,g4⟩
  ·exact(hm0 h0).elim
  ·have hone:∀u∈us,u.oneCell'=true:=g3;have hsm:n+m≤9223372036854775807:=by simp only[maxLen]at hm; omega
   have fresh:∀(olds:List Value) (old:Nat),zV H L cs olds→(∀u∈olds,one u)→olds.length=n*i.size→old<n+m →
    (Builtin.append_ #[t,t] ty #[s,.slice (some ⟨yb,yo,none⟩) m c]).run P w=.ok (.slice (some ⟨w.heap.size,0,none⟩) (n+m) (grownCap w (n+m) old e))
     (w.drew.alloc (.cells (olds.toArray++us.toArray++Builtin.zeroCells z.cells (grownCap w (n+m) old e-(n+m))) e)) →
    ∃v' w' H' L',(Builtin.append_ #[t,t] ty #[s,.slice (some ⟨yb,yo,none⟩) m c]).run P w=.ok v' w'∧Nxt H L w H' L' (σ.set l (.row fz e i.size (n+m) (cs++ys))) w'∧HLe H H'∧Rel H' L' (.row l (n+m)) v':=by
    intro olds old ho1 ho2 ho3 ho4 hrun;have hge:=grownCap_ge w (n+m) old e;have hcm:grownCap w (n+m) old e≤maxLen:=grownCap_le_maxLen w (n+m) old e hm;have hpl:(olds++us).length=(n+m)*i.size:=by rw[List.length_append,ho3,g2,Nat.add_mul]
    have hcur:(olds.toArray++us.toArray++Builtin.zeroCells z.cells (grownCap w (n+m) old e-(n+m))).toList.take ((n+m)*i.size)=olds++us:=by simp only[Array.toList_append,List.append_assoc];rw[←List.append_assoc,←hpl];exact List.take_left
    have hA:=zEo (hs.fresh (olds++us));have hle:HLe H (zFI H fz w.heap.size (olds++us)):=by
     cases fz
     ·exact HLe.refl _
     ·intro b o v hv';have:=hs.h_lt hv';simp only[zFI,if_true,hA];rw[if_neg (by omega)];exact hv'
    have hnx:Nxt H L w (zFI H fz w.heap.size (olds++us)) (L.set l ⟨some w.heap.size,grownCap w (n+m) old e,n+m,true⟩) (σ.set l (.row fz e i.size (n+m) (cs++ys)))
     (w.drew.alloc (.cells (olds.toArray++us.toArray++Builtin.zeroCells z.cells (grownCap w (n+m) old e-(n+m))) e)):=by
     have hnone:∀o,H w.heap.size o=none:=fun o=>by
      cases hH:H w.heap.size o with
      | none=>rfl
      | some v=>have:=hs.h_lt hH; omega
     have hheap:(w.drew.alloc (.cells (olds.toArray++us.toArray++Builtin.zeroCells z.cells (grownCap w (n+m) old e-(n+m))) e)).heap[w.heap.size]?=some (.cells (olds.toArray++us.toArray++Builtin.zeroCells z.cells (grownCap w (n+m) old e-(n+m))) e (0,0)):=heap_alloc_new w.drew _;refine zMr hs e1 e2 rfl (by simp only; omega) rfl (.inr (Nat.le_refl _)) (by simp) rfl rfl rfl (Nat.le_succ _) (fun d=>by simp) (by simp) (fun k hk _=>heap_alloc_old w.drew _ (h:=hk)) hle (fun b' o' v hv'=>?_) (fun o' v hv'=>?_) ?_
     ·cases fz
      ·exact .inl hv'
      ·simp only[zFI,if_true,hA]at hv';split at hv'
       ·rename_i hbb; exact .inr hbb
       ·exact .inl hv'
     ·cases fz
      ·simp only[zFI]at hv'; rw[if_neg (by simp),hnone]at hv'; cases hv'
      ·simp only[zFI,if_true,hA]at hv';rw[cell_of_row _ _ _ _ _ _ hheap];rw[←hcur,List.getElem?_take]at hv';split at hv'
       ·rw[←Array.getElem?_toList]; exact hv'
       ·cases hv'
     ·have hll:=zIQ (li':=⟨some w.heap.size,grownCap w (n+m) old e,n+m,true⟩) e1 e2 rfl (by simp only; omega);simp only[zS];refine⟨trivial,trivial,by rw[List.length_append,hcl,hyl,Nat.add_mul],.inr ⟨w.heap.size,_,rfl,hheap,hge,hcm,?_,?_,?_,?_⟩⟩
      ·simp only[Array.size_append,List.size_toArray,size_zeroCells,hzs,ho3,g2,←Nat.add_mul]
       congr 1
       omega
      ·rw[hcur];exact zV.mono hle hll _ (ho1.append g1)
      ·rw[hcur];intro u hu;rcases List.mem_append.1 hu with hu | hu
       ·exact ho2 u hu
       ·exact g3 u hu
      ·rw[hcur];cases fz
       ·exact hnone
       ·refine⟨fun j u hu=>by simp[zFI,hA,hu],fun o ho=>?_⟩;simp only[zFI,if_true,hA];exact List.getElem?_eq_none (by rw[hpl]; exact ho)
    refine⟨_,_,_,_,hrun,hnx,hle,?_⟩;simp only[Rel];exact⟨rfl,_,List.getElem?_set_self hlL,rfl,Nat.le_refl _,fun _=>rfl⟩
   rcases hob with ⟨h0,rfl⟩ | ⟨b,cur,hb,hh,k1,k2,k3,k4,k5,k6⟩
   ·rw[h0]at hv;have hcs:cs=[]:=List.eq_nil_of_length_eq_zero (by simpa using hcl);subst hcs;subst hv;have hr:=run_append_nil (P:=P) w t ty e i z ht hi hz ⟨yb,yo,none⟩ m c us g2 g4 (by omega) (by omega) (by simp only[Nat.zero_add]at hby; omega);refine fresh [] 0 jL (by simp) (by simp) (by omega) ?_
    simpa using hr
   ·rw[hb]at hv;simp only at hv;by_cases hroom:n+m≤li.cap
    ·have hfit:n*i.size+us.length≤cur.size:=by rw[g2,k3,←Nat.add_mul]; exact Nat.mul_le_mul_right _ hroom
     have hr:=run_append_room (P:=P) w t ty e i ht hi b n li.cap cur hh ⟨yb,yo,none⟩ m c us g2 g4 hone hroom hfit;have hpl:(cur.toList.take (n*i.size)++us).length=(n+m)*i.size:=by rw[List.length_append,g2,Nat.add_mul,List.length_take,Array.length_toList,Nat.min_eq_left (by omega)]
     have hcur:(cur.toList.take (n*i.size)++us++cur.toList.drop (n*i.size+us.length)).take ((n+m)*i.size)=cur.toList.take (n*i.size)++us:=by rw[←hpl]; exact List.take_left
     have hheap:=setRow_heap w b cur (cur.toList.take (n*i.size)++us++cur.toList.drop (n*i.size+us.length)).toArray e (0,0) hh;have hsame:∀o v,H b o=some v→(cur.toList.take (n*i.size)++us)[o]?=some v:=fun o v hv'=>by
      cases fz
      ·simp only at k6;rw[k6]at hv';cases hv'
      ·simp only at k6;have ho:o<n*i.size:=by
        rcases Nat.lt_or_ge o (n*i.size)with h | h
        ·exact h
        ·rw[k6.2 o h]at hv'; cases hv'
       have hlt:o<(cur.toList.take (n*i.size)).length:=by rw[List.length_take,Array.length_toList,Nat.min_eq_left (by omega)]; exact ho
       rw[List.getElem?_append_left hlt];have:=k6.1 o _ (List.getElem?_eq_getElem hlt);rw[Nat.zero_add,hv']at this;rw[List.getElem?_eq_getElem hlt];exact this.symm
     have hA:=zEo hsame;have hle:HLe H (zFI H fz b (cur.toList.take (n*i.size)++us)):=by
      cases fz
      ·exact HLe.refl _
      ·intro b' o v hv';simp only[zFI,if_true,hA];split
       ·rename_i hbb;subst hbb;simp only at k6;have ho:o<n*i.size:=by
         rcases Nat.lt_or_ge o (n*i.size)with h | h
         ·exact h
         ·rw[k6.2 o h]at hv'; cases hv'
        have hlt:o<(cur.toList.take (n*i.size)).length:=by rw[List.length_take,Array.length_toList,Nat.min_eq_left (by omega)]; exact ho
        rw[List.getElem?_append_left hlt];have:=k6.1 o _ (List.getElem?_eq_getElem hlt);rw[Nat.zero_add,hv']at this;rw[List.getElem?_eq_getElem hlt];exact this.symm
       ·exact hv'
     have hnx:Nxt H L w (zFI H fz b (cur.toList.take (n*i.size)++us)) (L.set l ⟨some b,li.cap,n+m,true⟩) (σ.set l (.row fz e i.size (n+m) (cs++ys)))
      (w.setRow b (cur.toList.take (n*i.size)++us++cur.toList.drop (n*i.size+us.length)).toArray):=by
      refine zMr hs e1 e2 rfl (by simp only; omega) rfl (.inl hb) (by simp; exact hs.lt l li b e1 hb) rfl rfl rfl (Nat.le_refl _) (fun d=>by rw[hh]; simp) (by simp) (fun k _ hk=>setRow_other w b k _ hk) hle (fun b' o' v hv'=>?_) (fun o' v hv'=>?_) ?_
      ·cases fz
       ·exact .inl hv'
       ·simp only[zFI,if_true,hA]at hv';split at hv'
        ·rename_i hbb; exact .inr hbb
        ·exact .inl hv'
      ·cases fz
       ·simp only[zFI]at hv'; rw[if_neg (by simp)]at hv'; simp only at k6; rw[k6]at hv'; cases hv'
       ·simp only[zFI,if_true,hA]at hv';rw[cell_of_row _ _ _ _ _ _ hheap];rw[←hcur,List.getElem?_take]at hv';split at hv'
        ·simpa using hv'
        ·cases hv'
      ·have hll:=zIQ (li':=⟨some b,li.cap,n+m,true⟩) e1 e2 rfl (by simp only; omega);simp only[zS];refine⟨trivial,trivial,by rw[List.length_append,hcl,hyl,Nat.add_mul],.inr ⟨b,_,rfl,hheap,hroom,k2,?_,?_,?_,?_⟩⟩
       ·simp only[List.size_toArray,List.length_append,List.length_take,List.length_drop,Array.length_toList];omega
       ·rw[hcur];exact zV.mono hle hll _ (k4.append g1)
       ·rw[hcur];intro u hu;rcases List.mem_append.1 hu with hu | hu
        ·exact k5 u hu
        ·exact g3 u hu
       ·rw[hcur];cases fz
        ·exact k6
        ·refine⟨fun j u hu=>by simp[zFI,hA,hu],fun o ho=>?_⟩;simp only[zFI,if_true,hA];exact List.getElem?_eq_none (by rw[hpl]; exact ho)
     refine⟨_,_,_,_,by rw[hv]; exact hr,hnx,hle,?_⟩;simp only[Rel];exact⟨rfl,_,List.getElem?_set_self hlL,rfl,Nat.le_refl _,fun _=>rfl⟩
    ·have hr:=run_append_grow (P:=P) w t ty e i z ht hi hz ⟨b,0,none⟩ n li.cap (cur.toList.take (n*i.size)) (by rw[List.length_take,Array.length_toList,k3]; exact Nat.min_eq_left (Nat.mul_le_mul_right _ k1))
      (fun j u hu=>by
       rw[Addr.add_lit,cell_of_row w b _ cur e (0,0) hh];rw[List.getElem?_take]at hu;split at hu
       ·simpa using hu
       ·cases hu) ⟨yb,yo,none⟩ m c us g2 g4 (by omega) (by omega) (growslice_fits (by omega) hby)
     refine fresh (cur.toList.take (n*i.size)) li.cap k4 k5 (by rw[List.length_take,Array.length_toList,k3]; exact Nat.min_eq_left (Nat.mul_le_mul_right _ k1)) (by omega) ?_;rw[hv];exact hr
end
end Go.Abs
namespace Go.Abs
section
variable {P:Program}{H:Mem}{L:List LI} {σ : St}{w:World}{N:Nat}{env:Env}{a:Act}
theorem jB {α : Type}{l:List α}{x y : α}{i:Nat}(h:(l++[x])[i]?=some y):l[i]?=some y∨(i=l.length∧y=x):=by
 rcases Nat.lt_or_ge i l.length with hi | hi
 ·rw[List.getElem?_append_left hi]at h; exact .inl h
 ·rw[List.getElem?_append_right hi]at h;have h0:i-l.length=0:=by
   rcases Nat.eq_zero_or_pos (i-l.length)with h0 | h0
   ·exact h0
   ·rw[List.getElem?_eq_none (by simp; omega)]at h; cases h
  rw[h0]at h;simp only[List.getElem?_cons_zero,Option.some.injEq]at h;exact .inr ⟨by omega,h.symm⟩
theorem zCv (hs:RelSt H L σ w)(e:TypeId)(sz:Nat):Nxt H L w H (L++[(⟨none,0,0,true⟩:LI)]) (σ++[AObj.row false e sz 0 []]) w:=by
 have hll:=LLe.append L [⟨none,0,0,true⟩];refine⟨⟨hs.pers,by simp[hs.len],fun i l o hL hσ=>?_,fun i j x y b hi hj hx hy=>?_,fun i x b hi hx=>?_⟩,Step.refl _ _ _,hll,fun b ⟨i,x,hi,hx⟩=>?_⟩
 ·rcases jB hL with hL' | ⟨rfl,rfl⟩
  ·have hi:i<L.length:=(List.getElem?_eq_some_iff.1 hL').1;rw[List.getElem?_append_left (by rw[←hs.len]; exact hi)]at hσ;exact(hs.obj i l o hL' hσ).carry (fun _ _=>rfl) (HLe.refl _) hll (fun _ _ _=>rfl)
  ·rw[hs.len]at hσ;rw[List.getElem?_append_right (Nat.le_refl _)]at hσ;simp only[Nat.sub_self,List.getElem?_cons_zero,Option.some.injEq]at hσ;subst hσ;simp[zS]
 ·rcases jB hi with hi' | ⟨rfl,rfl⟩
  ·rcases jB hj with hj' | ⟨rfl,rfl⟩
   ·exact hs.inj i j x y b hi' hj' hx hy
   ·cases hy
  ·cases hx
 ·rcases jB hi with hi' | ⟨rfl,rfl⟩
  ·exact hs.lt i x b hi' hx
  ·cases hx
 ·rcases jB hi with hi' | ⟨rfl,rfl⟩
  ·exact .inl ⟨i,x,hi',hx⟩
  ·cases hx
theorem zKC {σ τ : St}{sz:Nat}{x:A}{r:Nat×List A}(h:zBI σ sz x=some r):zBI (σ++τ) sz x=some r:=by
 cases x<;>simp only[zBI]at h⊢<;>try exact h
 rename_i l n;split at h<;>try (cases h; done)
 rename_i hds;rw[List.getElem?_append_left (List.getElem?_eq_some_iff.1 hds).1,hds];exact h
theorem zVR {t ty e:TypeId}{i:TypeInfo}{z:Value}(ht:P.underlying t=some (.slice e))(hi:P.info? e=some i)(hz:i.zero=some z)(hzc:yV z.cells.toList=true)(hzs:z.cells.size=i.size)(hsz:0<i.size)
 (hs:RelSt H L σ w){y:Value}{ya:A}{m:Nat}{ys:List A}(hy:Rel H L ya y)(hye:zBI σ i.size ya=some (m,ys))(hyl:ys.length=m*i.size)
 (hm:m≤maxLen)(hby:m*i.bytes≤140737488355328) :
 ∃v' w' H' L',(Builtin.append_ #[t,t] ty #[.slice none 0 0,y]).run P w=.ok v' w'∧Nxt H L w H' L' (σ++[AObj.row false e i.size m ys]) w'∧HLe H H'∧Rel H' L' (.row σ.length m) v':=by
 have hn:=zCv hs e i.size;have hσ : (σ++[AObj.row false e i.size 0 []])[σ.length]?=some (.row false e i.size 0 []):=by simp
 have hx:Rel H (L++[(⟨none,0,0,true⟩:LI)]) (.row σ.length 0) (.slice none 0 0):=by simp only[Rel];exact⟨rfl,⟨none,0,0,true⟩,by rw[←hs.len]; simp,rfl,Nat.le_refl _,fun _=>rfl⟩
 obtain⟨v',w',H',L',h1,h2,h3,h4⟩:=zQs (ty:=ty) ht hi hz hzc hzs hsz hn.st hσ hx (Rel.mono (HLe.refl _) (LLe.append _ _) _ hy) (zKC hye) hyl (by simpa using hm) (by simpa using hby);refine⟨v',w',H',L',h1,?_,h3,by simpa using h4⟩;have:=hn.trans h2;have he:(σ++[AObj.row false e i.size 0 []]).set σ.length (AObj.row false e i.size (0+m) ([]++ys)) = σ++[AObj.row false e i.size m ys]:=by simp
 rw[he]at this;exact this
theorem zTx {t ty e:TypeId}{i:TypeInfo}{z:Value}(ht:P.underlying t=some (.slice e))(hi:P.info? e=some i)(hz:i.zero=some z)(hzs:z.cells.size=i.size)(hsz:0<i.size)
 (hs:RelSt H L σ w){n:Nat}{cs:List A}{s y:Value}(hx:Rel H L (.fsl n cs) s)(hcl:cs.length=n*i.size){ya:A}{m:Nat}{ys:List A}(hy:Rel H L ya y)(hye:zBI σ i.size ya=some (m,ys))(hyl:ys.length=m*i.size)
 (hm0:m≠0)(hm:n+m≤maxLen)(hby:(n+m)*i.bytes≤140737488355328) :
 ∃v' w' H' L',(Builtin.append_ #[t,t] ty #[s,y]).run P w=.ok v' w'∧Nxt H L w H' L' (σ++[AObj.row false e i.size (n+m) (cs++ys)]) w'∧HLe H H'∧Rel H' L' (.row σ.length (n+m)) v':=by
 obtain⟨ad,c,rfl,hels⟩:=zHD hs hy hye hyl hsz;rcases hels with h0 | ⟨yb,yo,us,rfl,g1,g2,g3,g4⟩
 ·exact(hm0 h0).elim
 have hn:=zCv hs e i.size;have hsm:n+m≤9223372036854775807:=by simp only[maxLen]at hm; omega
 have e1:(L++[(⟨none,0,0,true⟩:LI)])[σ.length]?=some (⟨none,0,0,true⟩:LI):=by rw[←hs.len]; simp
 have fresh:∀(olds:List Value) (old:Nat),zV H L cs olds→(∀u∈olds,one u)→old<n+m →
  (Builtin.append_ #[t,t] ty #[s,.slice (some ⟨yb,yo,none⟩) m c]).run P w=.ok (.slice (some ⟨w.heap.size,0,none⟩) (n+m) (grownCap w (n+m) old e))
   (w.drew.alloc (.cells (olds.toArray++us.toArray++Builtin.zeroCells z.cells (grownCap w (n+m) old e-(n+m))) e)) →
  ∃v' w' H' L',(Builtin.append_ #[t,t] ty #[s,.slice (some ⟨yb,yo,none⟩) m c]).run P w=.ok v' w'∧Nxt H L w H' L' (σ++[AObj.row false e i.size (n+m) (cs++ys)]) w'∧HLe H H'∧Rel H' L' (.row σ.length (n+m)) v':=by
  intro olds old ho1 ho2 ho4 hrun;have ho3:olds.length=n*i.size:=by rw[ho1.length,hcl]
  have hge:=grownCap_ge w (n+m) old e;have hcm:grownCap w (n+m) old e≤maxLen:=grownCap_le_maxLen w (n+m) old e hm;have hpl:(olds++us).length=(n+m)*i.size:=by rw[List.length_append,ho3,g2,Nat.add_mul]
  have hcur:(olds.toArray++us.toArray++Builtin.zeroCells z.cells (grownCap w (n+m) old e-(n+m))).toList.take ((n+m)*i.size)=olds++us:=by simp only[Array.toList_append,List.append_assoc];rw[←List.append_assoc,←hpl];exact List.take_left
  have hheap:(w.drew.alloc (.cells (olds.toArray++us.toArray++Builtin.zeroCells z.cells (grownCap w (n+m) old e-(n+m))) e)).heap[w.heap.size]?=some (.cells (olds.toArray++us.toArray++Builtin.zeroCells z.cells (grownCap w (n+m) old e-(n+m))) e (0,0)):=heap_alloc_new w.drew _;have hnone:∀o,H w.heap.size o=none:=fun o=>by
   cases hH:H w.heap.size o with
   | none=>rfl
   | some v=>have:=hs.h_lt hH; omega
  have hll:=zIQ (li':=(⟨some w.heap.size,grownCap w (n+m) old e,n+m,true⟩:LI)) e1 rfl rfl (by simp only; omega);have hnx:Nxt H (L++[(⟨none,0,0,true⟩:LI)]) w H ((L++[(⟨none,0,0,true⟩:LI)]).set σ.length (⟨some w.heap.size,grownCap w (n+m) old e,n+m,true⟩:LI))
   ((σ++[AObj.row false e i.size 0 []]).set σ.length (AObj.row false e i.size (n+m) (cs++ys)))
   (w.drew.alloc (.cells (olds.toArray++us.toArray++Builtin.zeroCells z.cells (grownCap w (n+m) old e-(n+m))) e)):=by
   refine zMr hn.st e1 rfl rfl (by simp only; omega) rfl (.inr (Nat.le_refl _)) (by simp) rfl rfl rfl (Nat.le_succ _) (fun d=>by simp) (by simp) (fun k hk _=>heap_alloc_old w.drew _ (h:=hk)) (HLe.refl _) (fun b' o' v hv'=>.inl hv')
    (fun o' v hv'=>by rw[hnone]at hv'; cases hv') ?_
   simp only[zS];refine⟨trivial,trivial,by rw[List.length_append,hcl,hyl,Nat.add_mul],.inr ⟨w.heap.size,_,rfl,hheap,hge,hcm,?_,?_,?_,hnone⟩⟩
   ·simp only[Array.size_append,List.size_toArray,size_zeroCells,hzs,ho3,g2,←Nat.add_mul]
    congr 1
    omega
   ·rw[hcur];exact zV.mono (HLe.refl _) ((LLe.append _ _).trans hll) _ (ho1.append g1)
   ·rw[hcur];intro u hu;rcases List.mem_append.1 hu with hu | hu
    ·exact ho2 u hu
    ·exact g3 u hu
  have he:(σ++[AObj.row false e i.size 0 []]).set σ.length (AObj.row false e i.size (n+m) (cs++ys)) = σ++[AObj.row false e i.size (n+m) (cs++ys)]:=by simp
  rw[he]at hnx;refine⟨_,_,_,_,hrun,hn.trans hnx,HLe.refl _,?_⟩;simp only[Rel];exact⟨rfl,_,List.getElem?_set_self (List.getElem?_eq_some_iff.1 e1).1,rfl,Nat.le_refl _,fun _=>rfl⟩
 simp only[Rel]at hx;obtain⟨sa,rfl,hnm,hcs⟩:=hx;rcases hcs with ⟨rfl,rfl⟩ | ⟨b,o,vs,rfl,k1,k2,k3⟩
 ·cases sa with
  | none =>
   have hr:=run_append_nil (P:=P) w t ty e i z ht hi hz ⟨yb,yo,none⟩ m c us g2 g4 (by omega) (by omega) (by simp only[Nat.zero_add]at hby; omega);refine fresh [] 0 jL (by simp) (by omega) ?_
   simpa using hr
  | some ba =>
   have hr:=run_append_grow (P:=P) w t ty e i z ht hi hz ba 0 0 [] (by simp) (by simp) ⟨yb,yo,none⟩ m c us g2 g4 (by omega) (by omega) (growslice_fits (by omega) hby);exact fresh [] 0 jL (by simp) (by omega) hr
 ·have hr:=run_append_grow (P:=P) w t ty e i z ht hi hz ⟨b,o,none⟩ n n vs (by rw[k1.length,hcl]) (fun j u hu=>by rw[Addr.add_lit]; exact hs.pers _ _ _ (k3 j u hu)) ⟨yb,yo,none⟩ m c us g2 g4 (by omega) (by omega) (growslice_fits (by omega) hby);exact fresh vs n k1 k2 (by omega) hr
inductive Out where
 | ret (r:A)
 | pan (v:Value)
def zFT (H:Mem)(L:List LI):Out→Ending→Prop
 | .ret r,e=>∃v,e=.returned v∧Rel H L r v
 | .pan v,e=>e=.panicked [{v,recovered:=false}]
def yR (P:Program)(f:FuncId)(args:List A) (σ : St)(Q:Out→St→Prop):Prop :=
 ∀(H:Mem) (L:List LI) (w:World) (vs:List Value),RelSt H L σ w→zV H L args vs →
  Calls P f vs.toArray w fun e w'=>∃o σ' H' L',zFT H' L' o e∧Nxt H L w H' L' σ' w'∧Q o σ'
def zIm (P:Program)(b:Nat)(args:List A) (σ : St)(Q:Out→St→Prop):Prop :=
 ∀(H:Mem) (L:List LI) (w:World) (vs:List Value),RelSt H L σ w→zV H L args vs →
  ∃f tmps x y,(Instr.yield b vs.toArray).run P w=.ok (.round b f tmps x y) w∧RoundIn Fence.wide 0 P b f tmps x y w fun e w'=>∃o σ' H' L',zFT H' L' o e∧Nxt H L w H' L' σ' w'∧Q o σ'
def Wr (r:Option Nat):Fence:={Fence.wide with round:=r}
def qP (o:Option (Prop×A))(J:A→Prop):Prop:=match o with
 | some (p,r)=>p∧J r
 | none=>False
def zIH (d:Option Nat)(env:Env)(K:Env→St→Prop)(Qp:Value→Env→St→Prop):Out→St→Prop
 | .ret r,σ'=>K (env.put d r) σ'
 | .pan v,σ'=>Qp v env σ'
def zEC (t:Bool)(A B:Env→St→Prop)(env:Env) (σ : St):Prop:=(t=true→A env σ)∧(t=false→B env σ)
def zFl (d:Option Nat)(K:Env→St→Prop)(env:Env) (σ : St):Prop:=K (env.put d (.lit undef)) σ
noncomputable def wpO (P:Program) (Qp:Value→Env→St→Prop) (K:Env→St→Prop):KOp→Env→St→Prop
 | .alloc d zs,env,σ=>K (env.put d (.ptr σ.length 0)) (σ++[.box (zs.map qX)])
 | .box d x,env,σ=>match cellsOf (ev env x)with
  | some cs=>K (env.put d (.ptr σ.length 0)) (σ++[.box cs])
  | none=>False
 | .bslice d _ _ n zero parts,env,σ=>match zAO (zero.map qX) (parts.map fun(o,s,x)=>(o,s,ev env x))with
  | some cs=>K (env.put d (.fsl n cs)) σ
  | none=>False
 | .isz d ng x,env,σ=>match ev env x with
  | .nil=>K (env.put d (.lit (.bool !ng))) σ
  | .sl n _=>K (env.put d (.lit (.bool ng))) σ∧(n=0→K (env.put d (.lit (.bool !ng))) σ)
  | .row l n=>(match σ[l]? with
   | some (.row _ _ _ m _)=>n=m∧K (env.put d (.lit (.bool ng))) σ∧(n=0→K (env.put d (.lit (.bool !ng))) σ)
   | _=>False)
  | _=>False
 | .brow d e sz n zero parts,env,σ=>match zAO (zero.map qX) (parts.map fun(o,s,x)=>(o,s,ev env x))with
  | some cs=>K (env.put d (.row σ.length n)) (σ++[.row false e sz n cs])
  | none=>False
 | .st d x v n,env,σ=>match cellsOf (ev env v)with
  | some cs=>if cs.length=n then (match stA σ cs (ev env x)with
   | some σ'=>K (env.put d (.lit undef)) σ'
   | none=>False) else False
  | none=>False
 | .app d e sz bytes x y,env,σ=>match zBI σ sz (ev env y)with
  | some (m,ys)=>ys.length=m*sz∧(match ev env x with
   | .nil=>(m≤maxLen∧m*bytes≤140737488355328)∧K (env.put d (.row σ.length m)) (σ++[.row false e sz m ys])
   | .row l n=>(match σ[l]? with
    | some (.row fz e' s n' cs)=>if n=n'∧e'=e∧s=sz then (n+m≤maxLen∧(n+m)*bytes≤140737488355328)∧K (env.put d (.row l (n+m))) (σ.set l (.row fz e sz (n+m) (cs++ys))) else False
    | _=>False)
   | .fsl n cs=>cs.length=n*sz∧(m=0→K (env.put d (.fsl n cs)) σ)∧(m≠0→(n+m≤maxLen∧(n+m)*bytes≤140737488355328)∧K (env.put d (.row σ.length (n+m))) (σ++[.row false e sz (n+m) (cs++ys)]))
   | _=>False)
  | none=>False
 | .len d false x,env,σ=>match ev env x with
  | .sl n _=>n≤maxLen→K (env.put d (.lit (.int .i64 n))) σ
  | .fsl n _=>n≤maxLen→K (env.put d (.lit (.int .i64 n))) σ
  | _=>qP (zK env σ (.len d false x)) fun r=>K (env.put d r) σ
 | .call d f args,env,σ=>match ev env f with
  | .clo g first cap=>zA P g=true∧yR P g (first++args.map (ev env)++cap) σ (zIH d env K Qp)
  | .lit (.func (.yield b) ⟨[]⟩ ⟨[]⟩)=>zIm P b (args.map (ev env)) σ (zIH d env K Qp)
  | _=>False
 | .alr d q zs,env,σ=>(match σ[q]? with
  | some .rsv=>K (env.put d (.ptr q 0)) (σ.set q (.box (zs.map qX)))
  | _=>False)
 | .mop d m xs,env,σ=>zAZ m (xs.map (ev env)) (fun r σ'=>K (env.put d r) σ') σ
 | .pan _ x,env,σ=>(match ev env x with
  | .lit (.iface t v)=>Qp (.iface t v) env σ
  | _=>False)
 | k,env,σ=>qP (zK env σ k) fun r=>K (env.put k.dst r) σ
end
end Go.Abs
