/-
  How the state goes on when a box or a row is written, and when a row grows.
  append.
  append to nil and to a full slice; what every operation does; its soundness.
  Keys of maps that are made of integers: they are compared cell by cell, they may be keys, and they stay.
-/
import Derived.Test.YtdnelmeboihpkaaGreatDoorX2
import Derived.RangeFuncRecord
import Derived.WideKeyRuns
set_option linter.unusedVariables false
set_option maxHeartbeats 8000000
set_option maxRecDepth 100000
set_option linter.unusedSimpArgs false
namespace Go.Abs
section
variable {P:Program}{H:Mem}{L:List LI} {σ : St}{w:World}{N:Nat}{env:Env}{a:Act}
theorem zGs (hs:RelSt H L σ w){l:Nat}{li:LI}{b:Nat}{o:AObj}{H':Mem}{w':World}(hl:L[l]?=some li)(hb:li.block=some b)
 (hos:w'.os=w.os)(htape:w'.tape=w.tape)(hout:w'.output=w.output)(hdr:w'.drawn=w.drawn)(hnd:∀d,w.heap[b]?≠some (.deferred d))(hsz:w'.heap.size=w.heap.size)(hkeep:∀k,k≠b→w'.heap[k]?=w.heap[k]?)
 (hle:HLe H H')(hnew:∀b' o' v,H' b' o'=some v→H b' o'=some v∨b'=b)(hpers:∀o' v,H' b o'=some v→w'.cell? ⟨b,o',none⟩=some v)
 (ho:zN H' L w' li o):Nxt H L w H' L (σ.set l o) w':=by
 have hne:∀(i:Nat) l' b',L[i]?=some l'→l'.block=some b'→i≠l→b'≠b:=fun i l' b' h1 h2 hi e=>hi (hs.inj i l l' li b' h1 hl h2 (by rw[hb,e]))
 refine⟨⟨fun b' o' v hv=>?_,by simp[hs.len],fun i l' o' hL hσ=>?_,hs.inj,fun i l' b' h1 h2=>by rw[hsz]; exact hs.lt i l' b' h1 h2⟩,
  ⟨hos,htape,hout,by rw[hsz]; exact jA _,fun k _ hk=>hkeep k (fun e=>hk ⟨l,li,hl,by rw[hb,e]⟩),hle,fun b' o' v hv=>?_,by rw[hdr]; exact jA _,zU2 hkeep hnd⟩,LLe.refl _,fun _ h=>.inl h⟩
 ·by_cases hbb:b'=b
  ·subst hbb; exact hpers o' v hv
  ·rcases hnew b' o' v hv with h1 | h1
   ·have:=hs.pers b' o' v h1;simp only[World.cell?]at this ⊢;rw[hkeep b' hbb];exact this
   ·exact(hbb h1).elim
 ·by_cases hi:i=l
  ·subst hi;rw[hl]at hL;cases hL;rw[jAi (by rw[←hs.len]; exact(jA1.1 hl).1)]at hσ;cases hσ;exact ho
  ·rw[jA8 (Ne.symm hi)]at hσ;refine(hs.obj i l' o' hL hσ).carry (fun b' hb'=>hkeep b' (hne i l' b' hL hb' hi)) hle (LLe.refl _) (fun b' hb' o''=>?_);have hbne:=hne i l' b' hL hb' hi;cases h1:H b' o'' with
   | some v=>exact hle _ _ _ h1
   | none =>
    cases h2:H' b' o'' with
    | none=>rfl
    | some v =>
     rcases hnew b' o'' v h2 with h3 | h3
     ·rw[h1]at h3; cases h3
     ·exact(hbne h3).elim
 ·rcases hnew b' o' v hv with h1 | h1
  ·exact .inl h1
  ·exact .inr (.inl ⟨l,li,hl,by rw[hb,h1]⟩)
def stA (σ : St)(cs:List A):A→Option St
 | .ptr l off=>match σ[l]? with
  | some (.box ds)=>if off+cs.length≤ds.length then some (σ.set l (.box (ds.take off++cs++ds.drop (off+cs.length)))) else none
  | _=>none
 | .rwp l m off=>match σ[l]? with
  | some (.row false e sz k ds)=>if m=k∧off+cs.length≤ds.length then some (σ.set l (.row false e sz k (ds.take off++cs++ds.drop (off+cs.length)))) else none
  | _=>none
 | _=>none
theorem zPs {t:TypeId}{i:TypeInfo}{x:Value}{b off:Nat}{e:TypeId}{cur:Array Value}(hi:P.info? t=some i)(hsz:x.cells.size=i.size)(h1:∀u∈x.cells.toList,one u)
 (hh:w.heap[b]?=some (.cells cur e (0,0)))(hfit:off+x.cells.size≤cur.size) :
 (Instr.storeAt t (.pointer (some ⟨b,off,none⟩)) x).run P w=.ok () (w.setRow b (cur.toList.take off++x.cells.toList++cur.toList.drop (off+x.cells.size)).toArray):=by
 have hst:=run_storeCells_at P b off e x.cells.toList 0 cur w hh (by simpa using hfit) h1;simp only[jBl,jAr]at hst;simp[Instr.storeAt,Instr.sureAddr,storeVar,yD hi,hsz,hst]
theorem zWe {o:Oper}{t:TypeId}{x v:Operand}{i:TypeInfo}{cs:List A} {σ':St}(ho:o.op=.store t x v)(hi:P.info? t=some i)(he:zX H L N env a.tmps)(hs:RelSt H L σ w)
 (hc:cellsOf (ev env v)=some cs)(hn:cs.length=i.size)(hst:stA σ cs (ev env x)=some σ') :
 ∃w',(execOp a.eval o).run P w=.ok .skip w'∧Nxt H L w H L σ' w':=by
 obtain⟨g1,g2⟩:=zFT (qG he v) hc;have hlen:=g1.length;have hx:=qG he x;have hsz:(a.eval v).cells.size=i.size:=by rw[←jAr,hlen,hn]
 have fin:∀b off e cur,a.eval x=.pointer (some ⟨b,off,none⟩)→w.heap[b]?=some (.cells cur e (0,0))→off+(a.eval v).cells.size≤cur.size →
  (execOp a.eval o).run P w=.ok .skip (w.setRow b (cur.toList.take off++(a.eval v).cells.toList++cur.toList.drop (off+(a.eval v).cells.size)).toArray):=by
  intro b off e cur hv hh hfit;unfold execOp;simp only[ho,hv,Sem.run_bind,zPs hi hsz g2 hh hfit,Result.andThen_ok,Sem.run_pure]
 unfold stA at hst;split at hst<;>try (cases hst; done)
 ·rename_i l off hxe;split at hst<;>try (cases hst; done)
  rename_i ds hds;split at hst<;>try (cases hst; done)
  rename_i hfit;cases hst;rw[hxe]at hx;simp only[Rel]at hx;obtain⟨li,b,e1,e2,e3,hv⟩:=hx;have hob:=hs.obj l li _ e1 hds;simp only[zN]at hob;obtain⟨_,b',vs,e,hb',hh,hr,h1,hH⟩:=hob;rw[e2]at hb';cases hb';have hvl:=hr.length;refine⟨_,fin b off e _ hv hh (by simp only[jBo]; omega),?_⟩;refine zGs hs e1 e2 rfl rfl rfl rfl (fun d=>by rw[hh]; simp) (by simp) (fun k hk=>setRow_other w b k _ hk) (HLe.refl _) (fun _ _ _ h=>.inl h) (fun o' v hv=>by rw[hH]at hv; cases hv) ?_;simp only[zN];refine⟨e3,b,_,e,e2,setRow_heap w b _ _ e _ hh,?_,?_,hH⟩
  ·rw[hsz,←hn];exact((hr.take off).append g1).append (hr.drop _)
  ·intro u hu;simp only[jAb]at hu;rcases hu with (hu | hu) | hu
   ·exact h1 u (jCb hu)
   ·exact g2 u hu
   ·exact h1 u (jBm hu)
 ·rename_i l m off hxe;split at hst<;>try (cases hst; done)
  rename_i e sz k ds hds;split at hst<;>try (cases hst; done)
  rename_i hfit;obtain⟨rfl,hfit⟩:=hfit;cases hst;rw[hxe]at hx;simp only[Rel]at hx;obtain⟨_,li,e1,e2,e3,hv⟩:=hx;have hob:=hs.obj l li _ e1 hds;simp only[zN]at hob;obtain⟨_,hln,hcl,hob⟩:=hob;obtain⟨b,hb,hv⟩:=hv hln.symm;rcases hob with ⟨h0,_⟩ | ⟨b',cur,hb',hh,k1,k2,k3,k4,k5,k6⟩
  ·rw[hb]at h0; cases h0
  ·rw[hb]at hb';cases hb';have hmc:m*sz≤cur.size:=by rw[k3]; exact jBa _ k1
   have hcs:off+(a.eval v).cells.size≤cur.size:=by rw[hsz,←hn]; omega
   refine⟨_,fin b off e _ hv hh hcs,?_⟩;refine zGs hs e1 hb rfl rfl rfl rfl (fun d=>by rw[hh]; simp) (by simp) (fun k hk=>setRow_other w b k _ hk) (HLe.refl _) (fun _ _ _ h=>.inl h) (fun o' v hv=>by rw[k6]at hv; cases hv) ?_;have htake:(cur.toList.take off++(a.eval v).cells.toList++cur.toList.drop (off+(a.eval v).cells.size)).take (m*sz) =
    (cur.toList.take (m*sz)).take off++(a.eval v).cells.toList++(cur.toList.take (m*sz)).drop (off+(a.eval v).cells.size):=by
    have hl1:(cur.toList.take off++(a.eval v).cells.toList).length=off+(a.eval v).cells.size:=by simp; omega
    have hle2:off+(a.eval v).cells.size≤m*sz:=by rw[hsz,←hn,←hcl]; exact hfit
    rw[List.take_append,hl1,jAj (by rw[hl1]; exact hle2),List.take_take,jAw (by omega),List.drop_take]
   simp only[zN];refine⟨e2,hln,by simp; omega,.inr ⟨b,_,hb,setRow_heap w b _ _ e _ hh,k1,k2,by simp; omega,?_,?_,k6⟩⟩
   ·rw[htake,hsz,←hn];exact((k4.take off).append g1).append (k4.drop _)
   ·rw[htake];intro u hu;simp only[jAb]at hu;rcases hu with (hu | hu) | hu
    ·exact k5 u (jCb hu)
    ·exact g2 u hu
    ·exact k5 u (jBm hu)
end
end Go.Abs
namespace Go.Abs
section
variable {P:Program}{H:Mem}{L:List LI} {σ : St}{w:World}{N:Nat}{env:Env}{a:Act}
theorem zDE {l:Nat}{li li':LI}(hl:L[l]?=some li)(h1:li.isRow=true)(h2:li'.isRow=true)(h3:li.len<li'.len):LLe L (L.set l li'):=by
 intro i x hx;by_cases hi:i=l
 ·subst hi;rw[hl]at hx;cases hx;exact⟨li',by rw[jAi (jA1.1 hl).1],.inr (.inl ⟨h1,h2,h3⟩)⟩
 ·exact⟨x,by rw[jA8 (Ne.symm hi)]; exact hx,.inl rfl⟩
theorem zHQ (hs:RelSt H L σ w){l:Nat}{li li':LI}{b:Nat}{o:AObj}{H':Mem}{w':World}(hl:L[l]?=some li)(h1:li.isRow=true)(h2:li'.isRow=true)(h3:li.len<li'.len)
 (hb:li'.block=some b)(hold:li.block=some b∨w.heap.size≤b)(hlt:b<w'.heap.size)
 (hos:w'.os=w.os)(htape:w'.tape=w.tape)(hout:w'.output=w.output)(hdr:w.drawn≤w'.drawn)(hnd:∀d,w.heap[b]?≠some (.deferred d))(hsz:w.heap.size≤w'.heap.size)(hkeep:∀k,k<w.heap.size→k≠b→w'.heap[k]?=w.heap[k]?)
 (hle:HLe H H')(hnew:∀b' o' v,H' b' o'=some v→H b' o'=some v∨b'=b)(hpers:∀o' v,H' b o'=some v→w'.cell? ⟨b,o',none⟩=some v)
 (ho:zN H' (L.set l li') w' li' o):Nxt H L w H' (L.set l li') (σ.set l o) w':=by
 have hll:=zDE (li':=li') hl h1 h2 h3;have hll1:l<L.length:=(jA1.1 hl).1;have hget:∀{i:Nat} {x:LI},(L.set l li')[i]?=some x→(i=l∧x=li')∨(i≠l∧L[i]?=some x):=by
  intro i x hx;by_cases hi:i=l
  ·subst hi;rw[jAi hll1]at hx;cases hx;exact .inl ⟨rfl,rfl⟩
  ·rw[jA8 (Ne.symm hi)]at hx;exact .inr ⟨hi,hx⟩
 have hne:∀(i:Nat) l' b',L[i]?=some l'→l'.block=some b'→i≠l→b'≠b:=fun i l' b' g1 g2 hi e=>by
  rcases hold with h | h
  ·exact hi (hs.inj i l l' li b' g1 hl g2 (by rw[h,e]))
  ·have:=hs.lt i l' b' g1 g2; omega
 refine⟨⟨fun b' o' v hv=>?_,by simp[hs.len],fun i l' o' hL hσ=>?_,fun i j x y b' hi hj hx hy=>?_,fun i x b' hi hx=>?_⟩,
  ⟨hos,htape,hout,hsz,fun k hk hn=>hkeep k hk (fun e=>?_),hle,fun b' o' v hv=>?_,hdr,fun k d hk=>by
   have hks:=(jCo.1 hk).1;by_cases hkb:k=b
   ·subst hkb; exact(hnd d hk).elim
   ·rw[hkeep k hks hkb]; exact hk⟩,hll,fun b' ⟨i,x,hi,hx⟩=>?_⟩
 ·by_cases hbb:b'=b
  ·subst hbb; exact hpers o' v hv
  ·rcases hnew b' o' v hv with g | g
   ·have hc:=hs.pers b' o' v g;have hlt':=hs.h_lt g;simp only[World.cell?]at hc ⊢;rw[hkeep b' hlt' hbb];exact hc
   ·exact(hbb g).elim
 ·rcases hget hL with ⟨rfl,rfl⟩ | ⟨hi,hL'⟩
  ·rw[jAi (by rw[←hs.len]; exact hll1)]at hσ;cases hσ;exact ho
  ·rw[jA8 (Ne.symm hi)]at hσ;refine(hs.obj i l' o' hL' hσ).carry (fun b' hb'=>hkeep b' (hs.lt i l' b' hL' hb') (hne i l' b' hL' hb' hi)) hle hll (fun b' hb' o''=>?_);have hbne:=hne i l' b' hL' hb' hi;cases g1:H b' o'' with
   | some v=>exact hle _ _ _ g1
   | none =>
    cases g2:H' b' o'' with
    | none=>rfl
    | some v =>
     rcases hnew b' o'' v g2 with g3 | g3
     ·rw[g1]at g3; cases g3
     ·exact(hbne g3).elim
 ·rcases hget hi with ⟨rfl,rfl⟩ | ⟨hi',hi''⟩
  ·rcases hget hj with ⟨rfl,rfl⟩ | ⟨hj',hj''⟩
   ·rfl
   ·rw[hb]at hx; cases hx; exact(hne j y b hj'' hy hj' rfl).elim
  ·rcases hget hj with ⟨rfl,rfl⟩ | ⟨hj',hj''⟩
   ·rw[hb]at hy; cases hy; exact(hne i x b hi'' hx hi' rfl).elim
   ·exact hs.inj i j x y b' hi'' hj'' hx hy
 ·rcases hget hi with ⟨rfl,rfl⟩ | ⟨hi',hi''⟩
  ·rw[hb]at hx; cases hx; exact hlt
  ·exact jBt (hs.lt i x b' hi'' hx) hsz
 ·subst e;rcases hold with h | h
  ·exact hn ⟨l,li,hl,h⟩
  ·omega
 ·rcases hnew b' o' v hv with g | g
  ·exact .inl g
  ·subst g;rcases hold with h | h
   ·exact .inr (.inl ⟨l,li,hl,h⟩)
   ·exact .inr (.inr h)
 ·rcases hget hi with ⟨rfl,rfl⟩ | ⟨hi',hi''⟩
  ·rw[hb]at hx;cases hx;rcases hold with h | h
   ·exact .inl ⟨_,li,hl,h⟩
   ·exact .inr h
  ·exact .inl ⟨i,x,hi'',hx⟩
def zB0 (σ : St)(sz:Nat):A→Option (Nat×List A)
 | .nil=>some (0,[])
 | .sl m cs=>some (m,cs)
 | .fsl m cs=>some (m,cs)
 | .row l n=>match σ[l]? with
  | some (.row _ _ s m cs)=>if n=m∧s=sz then some (m,cs) else none
  | _=>none
 | _=>none
theorem zGg (hs:RelSt H L σ w){x:A}{v:Value}{sz m:Nat}{cs:List A}(hx:Rel H L x v)(h:zB0 σ sz x=some (m,cs))(hlen:cs.length=m*sz)(hsz:0<sz) :
 ∃ad cap,v=.slice ad m cap∧(m=0∨∃b o,∃us:List Value,ad=some ⟨b,o,none⟩∧zQ H L cs us∧us.length=m*sz∧(∀u∈us,one u)∧∀j u,us[j]?=some u→w.cell? ((⟨b,o,none⟩:Addr).add j)=some u):=by
 cases x<;>simp only[zB0]at h<;>try (cases h; done)
 case nil =>
  cases h;simp only[Rel]at hx;exact⟨_,_,hx,.inl rfl⟩
 case sl n ds =>
  cases h;simp only[Rel]at hx;obtain⟨ad,cap,hv,_,_,h3⟩:=hx;refine⟨ad,cap,hv,?_⟩;rcases h3 with ⟨h3,_⟩ | ⟨b,o,us,rfl,g1,g2,g3⟩
  ·exact .inl h3
  ·exact .inr ⟨b,o,us,rfl,g1,by rw[g1.length,hlen],g2,fun j u hu=>by rw[Addr.add_lit]; exact hs.pers _ _ _ (g3 j u hu)⟩
 case fsl n ds =>
  cases h;simp only[Rel]at hx;obtain⟨ad,hv,_,h3⟩:=hx;refine⟨ad,_,hv,?_⟩;rcases h3 with ⟨h3,_⟩ | ⟨b,o,us,rfl,g1,g2,g3⟩
  ·exact .inl h3
  ·exact .inr ⟨b,o,us,rfl,g1,by rw[g1.length,hlen],g2,fun j u hu=>by rw[Addr.add_lit]; exact hs.pers _ _ _ (g3 j u hu)⟩
 case row l n =>
  split at h<;>try (cases h; done)
  rename_i fz e s k ds hds;split at h<;>try (cases h; done)
  rename_i hn;obtain⟨rfl,rfl⟩:=hn;cases h;simp only[Rel]at hx;obtain⟨_,li,e1,e2,e3,hv⟩:=hx;have hob:=hs.obj l li _ e1 hds;simp only[zN]at hob;obtain⟨_,hln,hcl,hob⟩:=hob;have hv:=hv hln.symm;rcases hob with ⟨h0,h00⟩ | ⟨b,cur,hb,hh,k1,k2,k3,k4,k5,_⟩
  ·rw[h0]at hv;exact⟨none,0,by rw[hv,h00],.inl h00⟩
  ·rw[hb]at hv;refine⟨_,_,hv,.inr ⟨b,0,_,rfl,k4,?_,k5,fun j u hu=>?_⟩⟩
   ·simp only[jB2,jAr];rw[k3];exact jAw (jBa _ k1)
   ·rw[Addr.add_lit,cell_of_row w b _ cur e (0,0) hh];rw[jB6]at hu;split at hu
    ·simpa using hu
    ·cases hu
theorem zCN {t ty e:TypeId}{i:TypeInfo}(ht:P.underlying t=some (.slice e))(hi:P.info? e=some i)(base:Option Addr)(n cap:Nat)(hc:n≤cap)(ad:Option Addr)(c:Nat) :
 (Builtin.append_ #[t,t] ty #[.slice base n cap,.slice ad 0 c]).run P w=.ok (.slice base n cap) w:=by
 have hf:(Builtin.firstCells i.size 0 (.slice ad 0 c)).run P w=.ok #[] w:=by
  cases ad with
  | none=>simp[Builtin.firstCells]
  | some a=>exact run_firstCells_some (P:=P) w i.size 0 a 0 c [] (by simp) (by simp)
 cases base<;>simp[Builtin.append_,run_underlying ht,sizeOf,typeInfo,hi,Builtin.lenOf,hc,hf,storeCells]
def zG0 (H:Mem)(fz:Bool)(b:Nat)(us:List Value):Mem:=if fz then zLo H b us else H
theorem zRw {t ty e:TypeId}{i:TypeInfo}{z:Value}(ht:P.underlying t=some (.slice e))(hi:P.info? e=some i)(hz:i.zero=some z)(hzc:zAn z.cells.toList=true)(hzs:z.cells.size=i.size)(hsz:0<i.size)
 (hs:RelSt H L σ w){l n:Nat}{fz:Bool}{cs:List A}{s y:Value}(hσ : σ[l]?=some (.row fz e i.size n cs))(hx:Rel H L (.row l n) s)
 {ya:A}{m:Nat}{ys:List A}(hy:Rel H L ya y)(hye:zB0 σ i.size ya=some (m,ys))(hyl:ys.length=m*i.size)
 (hm:n+m≤maxLen)(hby:(n+m)*i.bytes≤140737488355328) :
 ∃v' w' H' L',(Builtin.append_ #[t,t] ty #[s,y]).run P w=.ok v' w'∧Nxt H L w H' L' (σ.set l (.row fz e i.size (n+m) (cs++ys))) w'∧HLe H H'∧Rel H' L' (.row l (n+m)) v':=by
 obtain⟨ad,c,rfl,hels⟩:=zGg hs hy hye hyl hsz;have hx0:=hx;simp only[Rel]at hx;obtain⟨hs1,li,e1,e2,e3,hv⟩:=hx;have hob:=hs.obj l li _ e1 hσ;have hob0:=hob;simp only[zN]at hob;obtain⟨_,hln,hcl,hob⟩:=hob;have hv:=hv hln.symm;have hlσ : l < σ.length:=(jA1.1 hσ).1;have hlL:l<L.length:=(jA1.1 e1).1;by_cases hm0:m=0
 ·subst hm0;have hys:ys=[]:=jBn (by simpa using hyl);subst hys;have hset : σ.set l (.row fz e i.size (n+0) (cs++[])) = σ:=by
   simp only[jBl,jCd];apply jC4;intro j;by_cases hj:j=l
   ·subst hj; rw[jAi hlσ,hσ]
   ·rw[jA8 (Ne.symm hj)]
  refine⟨s,w,H,L,?_,by rw[hset]; exact Nxt.refl hs,HLe.refl _,hx0⟩;rw[hv];cases hb:li.block with
  | none=>exact zCN ht hi none 0 0 (jA _) ad c
  | some b =>
   rcases hob with ⟨h0,_⟩ | ⟨b',cur,hb',hh,k1,_⟩
   ·rw[hb]at h0; cases h0
   ·exact zCN ht hi _ n _ k1 ad c
 ·rcases hels with h0 | ⟨yb,yo,us,rfl,g1,g2,g3,g4⟩
  ·exact(hm0 h0).elim
  ·have hone:∀u∈us,u.oneCell'=true:=g3;have hsm:n+m≤9223372036854775807:=by simp only[maxLen]at hm; omega
   have fresh:∀(olds:List Value) (old:Nat),zQ H L cs olds→(∀u∈olds,one u)→olds.length=n*i.size→old<n+m →
    (Builtin.append_ #[t,t] ty #[s,.slice (some ⟨yb,yo,none⟩) m c]).run P w=.ok (.slice (some ⟨w.heap.size,0,none⟩) (n+m) (grownCap w (n+m) old e))
     (w.drew.alloc (.cells (olds.toArray++us.toArray++Builtin.zeroCells z.cells (grownCap w (n+m) old e-(n+m))) e)) →
    ∃v' w' H' L',(Builtin.append_ #[t,t] ty #[s,.slice (some ⟨yb,yo,none⟩) m c]).run P w=.ok v' w'∧Nxt H L w H' L' (σ.set l (.row fz e i.size (n+m) (cs++ys))) w'∧HLe H H'∧Rel H' L' (.row l (n+m)) v':=by
    intro olds old ho1 ho2 ho3 ho4 hrun;have hge:=grownCap_ge w (n+m) old e;have hcm:grownCap w (n+m) old e≤maxLen:=grownCap_le_maxLen w (n+m) old e hm;have hpl:(olds++us).length=(n+m)*i.size:=by rw[jA5,ho3,g2,jAt]
    have hcur:(olds.toArray++us.toArray++Builtin.zeroCells z.cells (grownCap w (n+m) old e-(n+m))).toList.take ((n+m)*i.size)=olds++us:=by simp only[Array.toList_append,jAy];rw[←jAy,←hpl];exact List.take_left
    have hA:=zEO (hs.fresh (olds++us));have hle:HLe H (zG0 H fz w.heap.size (olds++us)):=by
     cases fz
     ·exact HLe.refl _
     ·intro b o v hv';have:=hs.h_lt hv';simp only[zG0,if_true,hA];rw[if_neg (by omega)];exact hv'
    have hnx:Nxt H L w (zG0 H fz w.heap.size (olds++us)) (L.set l ⟨some w.heap.size,grownCap w (n+m) old e,n+m,true⟩) (σ.set l (.row fz e i.size (n+m) (cs++ys)))
     (w.drew.alloc (.cells (olds.toArray++us.toArray++Builtin.zeroCells z.cells (grownCap w (n+m) old e-(n+m))) e)):=by
     have hnone:∀o,H w.heap.size o=none:=fun o=>by
      cases hH:H w.heap.size o with
      | none=>rfl
      | some v=>have:=hs.h_lt hH; omega
     have hheap:(w.drew.alloc (.cells (olds.toArray++us.toArray++Builtin.zeroCells z.cells (grownCap w (n+m) old e-(n+m))) e)).heap[w.heap.size]?=some (.cells (olds.toArray++us.toArray++Builtin.zeroCells z.cells (grownCap w (n+m) old e-(n+m))) e (0,0)):=heap_alloc_new w.drew _;refine zHQ hs e1 e2 rfl (by simp only; omega) rfl (.inr (jA _)) (by simp) rfl rfl rfl (jC6 _) (fun d=>by simp) (by simp) (fun k hk _=>heap_alloc_old w.drew _ (h:=hk)) hle (fun b' o' v hv'=>?_) (fun o' v hv'=>?_) ?_
     ·cases fz
      ·exact .inl hv'
      ·simp only[zG0,if_true,hA]at hv';split at hv'
       ·rename_i hbb; exact .inr hbb
       ·exact .inl hv'
     ·cases fz
      ·simp only[zG0]at hv'; rw[if_neg (by simp),hnone]at hv'; cases hv'
      ·simp only[zG0,if_true,hA]at hv';rw[cell_of_row _ _ _ _ _ _ hheap];rw[←hcur,jB6]at hv';split at hv'
       ·rw[←jCm]; exact hv'
       ·cases hv'
     ·have hll:=zDE (li':=⟨some w.heap.size,grownCap w (n+m) old e,n+m,true⟩) e1 e2 rfl (by simp only; omega);simp only[zN];refine⟨trivial,trivial,by rw[jA5,hcl,hyl,jAt],.inr ⟨w.heap.size,_,rfl,hheap,hge,hcm,?_,?_,?_,?_⟩⟩
      ·simp only[Array.size_append,jBo,size_zeroCells,hzs,ho3,g2,←jAt]
       congr 1
       omega
      ·rw[hcur];exact zQ.mono hle hll _ (ho1.append g1)
      ·rw[hcur];intro u hu;rcases jAb.1 hu with hu | hu
       ·exact ho2 u hu
       ·exact g3 u hu
      ·rw[hcur];cases fz
       ·exact hnone
       ·refine⟨fun j u hu=>by simp[zG0,hA,hu],fun o ho=>?_⟩;simp only[zG0,if_true,hA];exact jB7 (by rw[hpl]; exact ho)
    refine⟨_,_,_,_,hrun,hnx,hle,?_⟩;simp only[Rel];exact⟨rfl,_,jAi hlL,rfl,jA _,fun _=>rfl⟩
   rcases hob with ⟨h0,rfl⟩ | ⟨b,cur,hb,hh,k1,k2,k3,k4,k5,k6⟩
   ·rw[h0]at hv;have hcs:cs=[]:=jBn (by simpa using hcl);subst hcs;subst hv;have hr:=run_append_nil (P:=P) w t ty e i z ht hi hz ⟨yb,yo,none⟩ m c us g2 g4 (by omega) (by omega) (by simp only[jAq]at hby; omega);refine fresh [] 0 jF (by simp) (by simp) (by omega) ?_
    simpa using hr
   ·rw[hb]at hv;simp only at hv;by_cases hroom:n+m≤li.cap
    ·have hfit:n*i.size+us.length≤cur.size:=by rw[g2,k3,←jAt]; exact jBa _ hroom
     have hr:=run_append_room (P:=P) w t ty e i ht hi b n li.cap cur hh ⟨yb,yo,none⟩ m c us g2 g4 hone hroom hfit;have hpl:(cur.toList.take (n*i.size)++us).length=(n+m)*i.size:=by rw[jA5,g2,jAt,jB2,jAr,jAw (by omega)]
     have hcur:(cur.toList.take (n*i.size)++us++cur.toList.drop (n*i.size+us.length)).take ((n+m)*i.size)=cur.toList.take (n*i.size)++us:=by rw[←hpl]; exact List.take_left
     have hheap:=setRow_heap w b cur (cur.toList.take (n*i.size)++us++cur.toList.drop (n*i.size+us.length)).toArray e (0,0) hh;have hsame:∀o v,H b o=some v→(cur.toList.take (n*i.size)++us)[o]?=some v:=fun o v hv'=>by
      cases fz
      ·simp only at k6;rw[k6]at hv';cases hv'
      ·simp only at k6;have ho:o<n*i.size:=by
        rcases jAo o (n*i.size)with h | h
        ·exact h
        ·rw[k6.2 o h]at hv'; cases hv'
       have hlt:o<(cur.toList.take (n*i.size)).length:=by rw[jB2,jAr,jAw (by omega)]; exact ho
       rw[jAd hlt];have:=k6.1 o _ (jA2 hlt);rw[jAq,hv']at this;rw[jA2 hlt];exact this.symm
     have hA:=zEO hsame;have hle:HLe H (zG0 H fz b (cur.toList.take (n*i.size)++us)):=by
      cases fz
      ·exact HLe.refl _
      ·intro b' o v hv';simp only[zG0,if_true,hA];split
       ·rename_i hbb;subst hbb;simp only at k6;have ho:o<n*i.size:=by
         rcases jAo o (n*i.size)with h | h
         ·exact h
         ·rw[k6.2 o h]at hv'; cases hv'
        have hlt:o<(cur.toList.take (n*i.size)).length:=by rw[jB2,jAr,jAw (by omega)]; exact ho
        rw[jAd hlt];have:=k6.1 o _ (jA2 hlt);rw[jAq,hv']at this;rw[jA2 hlt];exact this.symm
       ·exact hv'
     have hnx:Nxt H L w (zG0 H fz b (cur.toList.take (n*i.size)++us)) (L.set l ⟨some b,li.cap,n+m,true⟩) (σ.set l (.row fz e i.size (n+m) (cs++ys)))
      (w.setRow b (cur.toList.take (n*i.size)++us++cur.toList.drop (n*i.size+us.length)).toArray):=by
      refine zHQ hs e1 e2 rfl (by simp only; omega) rfl (.inl hb) (by simp; exact hs.lt l li b e1 hb) rfl rfl rfl (jA _) (fun d=>by rw[hh]; simp) (by simp) (fun k _ hk=>setRow_other w b k _ hk) hle (fun b' o' v hv'=>?_) (fun o' v hv'=>?_) ?_
      ·cases fz
       ·exact .inl hv'
       ·simp only[zG0,if_true,hA]at hv';split at hv'
        ·rename_i hbb; exact .inr hbb
        ·exact .inl hv'
      ·cases fz
       ·simp only[zG0]at hv'; rw[if_neg (by simp)]at hv'; simp only at k6; rw[k6]at hv'; cases hv'
       ·simp only[zG0,if_true,hA]at hv';rw[cell_of_row _ _ _ _ _ _ hheap];rw[←hcur,jB6]at hv';split at hv'
        ·simpa using hv'
        ·cases hv'
      ·have hll:=zDE (li':=⟨some b,li.cap,n+m,true⟩) e1 e2 rfl (by simp only; omega);simp only[zN];refine⟨trivial,trivial,by rw[jA5,hcl,hyl,jAt],.inr ⟨b,_,rfl,hheap,hroom,k2,?_,?_,?_,?_⟩⟩
       ·simp only[jBo,jA5,jB2,jC3,jAr];omega
       ·rw[hcur];exact zQ.mono hle hll _ (k4.append g1)
       ·rw[hcur];intro u hu;rcases jAb.1 hu with hu | hu
        ·exact k5 u hu
        ·exact g3 u hu
       ·rw[hcur];cases fz
        ·exact k6
        ·refine⟨fun j u hu=>by simp[zG0,hA,hu],fun o ho=>?_⟩;simp only[zG0,if_true,hA];exact jB7 (by rw[hpl]; exact ho)
     refine⟨_,_,_,_,by rw[hv]; exact hr,hnx,hle,?_⟩;simp only[Rel];exact⟨rfl,_,jAi hlL,rfl,jA _,fun _=>rfl⟩
    ·have hr:=run_append_grow (P:=P) w t ty e i z ht hi hz ⟨b,0,none⟩ n li.cap (cur.toList.take (n*i.size)) (by rw[jB2,jAr,k3]; exact jAw (jBa _ k1))
      (fun j u hu=>by
       rw[Addr.add_lit,cell_of_row w b _ cur e (0,0) hh];rw[jB6]at hu;split at hu
       ·simpa using hu
       ·cases hu) ⟨yb,yo,none⟩ m c us g2 g4 (by omega) (by omega) (growslice_fits (by omega) hby)
     refine fresh (cur.toList.take (n*i.size)) li.cap k4 k5 (by rw[jB2,jAr,k3]; exact jAw (jBa _ k1)) (by omega) ?_;rw[hv];exact hr
end
end Go.Abs
namespace Go.Abs
section
variable {P:Program}{H:Mem}{L:List LI} {σ : St}{w:World}{N:Nat}{env:Env}{a:Act}
theorem qZ {α : Type}{l:List α}{x y : α}{i:Nat}(h:(l++[x])[i]?=some y):l[i]?=some y∨(i=l.length∧y=x):=by
 rcases jAo i l.length with hi | hi
 ·rw[jAd hi]at h; exact .inl h
 ·rw[jAp hi]at h;have h0:i-l.length=0:=by
   rcases Nat.eq_zero_or_pos (i-l.length)with h0 | h0
   ·exact h0
   ·rw[jB7 (by simp; omega)]at h; cases h
  rw[h0]at h;simp only[jAx,jA0]at h;exact .inr ⟨by omega,h.symm⟩
theorem zBZ (hs:RelSt H L σ w)(e:TypeId)(sz:Nat):Nxt H L w H (L++[(⟨none,0,0,true⟩:LI)]) (σ++[AObj.row false e sz 0 []]) w:=by
 have hll:=LLe.append L [⟨none,0,0,true⟩];refine⟨⟨hs.pers,by simp[hs.len],fun i l o hL hσ=>?_,fun i j x y b hi hj hx hy=>?_,fun i x b hi hx=>?_⟩,Step.refl _ _ _,hll,fun b ⟨i,x,hi,hx⟩=>?_⟩
 ·rcases qZ hL with hL' | ⟨rfl,rfl⟩
  ·have hi:i<L.length:=(jA1.1 hL').1;rw[jAd (by rw[←hs.len]; exact hi)]at hσ;exact(hs.obj i l o hL' hσ).carry (fun _ _=>rfl) (HLe.refl _) hll (fun _ _ _=>rfl)
  ·rw[hs.len]at hσ;rw[jAp (jA _)]at hσ;simp only[jBw,jAx,jA0]at hσ;subst hσ;simp[zN]
 ·rcases qZ hi with hi' | ⟨rfl,rfl⟩
  ·rcases qZ hj with hj' | ⟨rfl,rfl⟩
   ·exact hs.inj i j x y b hi' hj' hx hy
   ·cases hy
  ·cases hx
 ·rcases qZ hi with hi' | ⟨rfl,rfl⟩
  ·exact hs.lt i x b hi' hx
  ·cases hx
 ·rcases qZ hi with hi' | ⟨rfl,rfl⟩
  ·exact .inl ⟨i,x,hi',hx⟩
  ·cases hx
theorem zLl {σ τ : St}{sz:Nat}{x:A}{r:Nat×List A}(h:zB0 σ sz x=some r):zB0 (σ++τ) sz x=some r:=by
 cases x<;>simp only[zB0]at h⊢<;>try exact h
 rename_i l n;split at h<;>try (cases h; done)
 rename_i hds;rw[jAd (jA1.1 hds).1,hds];exact h
theorem zW1 {t ty e:TypeId}{i:TypeInfo}{z:Value}(ht:P.underlying t=some (.slice e))(hi:P.info? e=some i)(hz:i.zero=some z)(hzc:zAn z.cells.toList=true)(hzs:z.cells.size=i.size)(hsz:0<i.size)
 (hs:RelSt H L σ w){y:Value}{ya:A}{m:Nat}{ys:List A}(hy:Rel H L ya y)(hye:zB0 σ i.size ya=some (m,ys))(hyl:ys.length=m*i.size)
 (hm:m≤maxLen)(hby:m*i.bytes≤140737488355328) :
 ∃v' w' H' L',(Builtin.append_ #[t,t] ty #[.slice none 0 0,y]).run P w=.ok v' w'∧Nxt H L w H' L' (σ++[AObj.row false e i.size m ys]) w'∧HLe H H'∧Rel H' L' (.row σ.length m) v':=by
 have hn:=zBZ hs e i.size;have hσ : (σ++[AObj.row false e i.size 0 []])[σ.length]?=some (.row false e i.size 0 []):=by simp
 have hx:Rel H (L++[(⟨none,0,0,true⟩:LI)]) (.row σ.length 0) (.slice none 0 0):=by simp only[Rel];exact⟨rfl,⟨none,0,0,true⟩,by rw[←hs.len]; simp,rfl,jA _,fun _=>rfl⟩
 obtain⟨v',w',H',L',h1,h2,h3,h4⟩:=zRw (ty:=ty) ht hi hz hzc hzs hsz hn.st hσ hx (Rel.mono (HLe.refl _) (LLe.append _ _) _ hy) (zLl hye) hyl (by simpa using hm) (by simpa using hby);refine⟨v',w',H',L',h1,?_,h3,by simpa using h4⟩;have:=hn.trans h2;have he:(σ++[AObj.row false e i.size 0 []]).set σ.length (AObj.row false e i.size (0+m) ([]++ys)) = σ++[AObj.row false e i.size m ys]:=by simp
 rw[he]at this;exact this
theorem zUi {t ty e:TypeId}{i:TypeInfo}{z:Value}(ht:P.underlying t=some (.slice e))(hi:P.info? e=some i)(hz:i.zero=some z)(hzs:z.cells.size=i.size)(hsz:0<i.size)
 (hs:RelSt H L σ w){n:Nat}{cs:List A}{s y:Value}(hx:Rel H L (.fsl n cs) s)(hcl:cs.length=n*i.size){ya:A}{m:Nat}{ys:List A}(hy:Rel H L ya y)(hye:zB0 σ i.size ya=some (m,ys))(hyl:ys.length=m*i.size)
 (hm0:m≠0)(hm:n+m≤maxLen)(hby:(n+m)*i.bytes≤140737488355328) :
 ∃v' w' H' L',(Builtin.append_ #[t,t] ty #[s,y]).run P w=.ok v' w'∧Nxt H L w H' L' (σ++[AObj.row false e i.size (n+m) (cs++ys)]) w'∧HLe H H'∧Rel H' L' (.row σ.length (n+m)) v':=by
 obtain⟨ad,c,rfl,hels⟩:=zGg hs hy hye hyl hsz;rcases hels with h0 | ⟨yb,yo,us,rfl,g1,g2,g3,g4⟩
 ·exact(hm0 h0).elim
 have hn:=zBZ hs e i.size;have hsm:n+m≤9223372036854775807:=by simp only[maxLen]at hm; omega
 have e1:(L++[(⟨none,0,0,true⟩:LI)])[σ.length]?=some (⟨none,0,0,true⟩:LI):=by rw[←hs.len]; simp
 have fresh:∀(olds:List Value) (old:Nat),zQ H L cs olds→(∀u∈olds,one u)→old<n+m →
  (Builtin.append_ #[t,t] ty #[s,.slice (some ⟨yb,yo,none⟩) m c]).run P w=.ok (.slice (some ⟨w.heap.size,0,none⟩) (n+m) (grownCap w (n+m) old e))
   (w.drew.alloc (.cells (olds.toArray++us.toArray++Builtin.zeroCells z.cells (grownCap w (n+m) old e-(n+m))) e)) →
  ∃v' w' H' L',(Builtin.append_ #[t,t] ty #[s,.slice (some ⟨yb,yo,none⟩) m c]).run P w=.ok v' w'∧Nxt H L w H' L' (σ++[AObj.row false e i.size (n+m) (cs++ys)]) w'∧HLe H H'∧Rel H' L' (.row σ.length (n+m)) v':=by
  intro olds old ho1 ho2 ho4 hrun;have ho3:olds.length=n*i.size:=by rw[ho1.length,hcl]
  have hge:=grownCap_ge w (n+m) old e;have hcm:grownCap w (n+m) old e≤maxLen:=grownCap_le_maxLen w (n+m) old e hm;have hpl:(olds++us).length=(n+m)*i.size:=by rw[jA5,ho3,g2,jAt]
  have hcur:(olds.toArray++us.toArray++Builtin.zeroCells z.cells (grownCap w (n+m) old e-(n+m))).toList.take ((n+m)*i.size)=olds++us:=by simp only[Array.toList_append,jAy];rw[←jAy,←hpl];exact List.take_left
  have hheap:(w.drew.alloc (.cells (olds.toArray++us.toArray++Builtin.zeroCells z.cells (grownCap w (n+m) old e-(n+m))) e)).heap[w.heap.size]?=some (.cells (olds.toArray++us.toArray++Builtin.zeroCells z.cells (grownCap w (n+m) old e-(n+m))) e (0,0)):=heap_alloc_new w.drew _;have hnone:∀o,H w.heap.size o=none:=fun o=>by
   cases hH:H w.heap.size o with
   | none=>rfl
   | some v=>have:=hs.h_lt hH; omega
  have hll:=zDE (li':=(⟨some w.heap.size,grownCap w (n+m) old e,n+m,true⟩:LI)) e1 rfl rfl (by simp only; omega);have hnx:Nxt H (L++[(⟨none,0,0,true⟩:LI)]) w H ((L++[(⟨none,0,0,true⟩:LI)]).set σ.length (⟨some w.heap.size,grownCap w (n+m) old e,n+m,true⟩:LI))
   ((σ++[AObj.row false e i.size 0 []]).set σ.length (AObj.row false e i.size (n+m) (cs++ys)))
   (w.drew.alloc (.cells (olds.toArray++us.toArray++Builtin.zeroCells z.cells (grownCap w (n+m) old e-(n+m))) e)):=by
   refine zHQ hn.st e1 rfl rfl (by simp only; omega) rfl (.inr (jA _)) (by simp) rfl rfl rfl (jC6 _) (fun d=>by simp) (by simp) (fun k hk _=>heap_alloc_old w.drew _ (h:=hk)) (HLe.refl _) (fun b' o' v hv'=>.inl hv')
    (fun o' v hv'=>by rw[hnone]at hv'; cases hv') ?_
   simp only[zN];refine⟨trivial,trivial,by rw[jA5,hcl,hyl,jAt],.inr ⟨w.heap.size,_,rfl,hheap,hge,hcm,?_,?_,?_,hnone⟩⟩
   ·simp only[Array.size_append,jBo,size_zeroCells,hzs,ho3,g2,←jAt]
    congr 1
    omega
   ·rw[hcur];exact zQ.mono (HLe.refl _) ((LLe.append _ _).trans hll) _ (ho1.append g1)
   ·rw[hcur];intro u hu;rcases jAb.1 hu with hu | hu
    ·exact ho2 u hu
    ·exact g3 u hu
  have he:(σ++[AObj.row false e i.size 0 []]).set σ.length (AObj.row false e i.size (n+m) (cs++ys)) = σ++[AObj.row false e i.size (n+m) (cs++ys)]:=by simp
  rw[he]at hnx;refine⟨_,_,_,_,hrun,hn.trans hnx,HLe.refl _,?_⟩;simp only[Rel];exact⟨rfl,_,jAi (jA1.1 e1).1,rfl,jA _,fun _=>rfl⟩
 simp only[Rel]at hx;obtain⟨sa,rfl,hnm,hcs⟩:=hx;rcases hcs with ⟨rfl,rfl⟩ | ⟨b,o,vs,rfl,k1,k2,k3⟩
 ·cases sa with
  | none =>
   have hr:=run_append_nil (P:=P) w t ty e i z ht hi hz ⟨yb,yo,none⟩ m c us g2 g4 (by omega) (by omega) (by simp only[jAq]at hby; omega);refine fresh [] 0 jF (by simp) (by omega) ?_
   simpa using hr
  | some ba =>
   have hr:=run_append_grow (P:=P) w t ty e i z ht hi hz ba 0 0 [] (by simp) (by simp) ⟨yb,yo,none⟩ m c us g2 g4 (by omega) (by omega) (growslice_fits (by omega) hby);exact fresh [] 0 jF (by simp) (by omega) hr
 ·have hr:=run_append_grow (P:=P) w t ty e i z ht hi hz ⟨b,o,none⟩ n n vs (by rw[k1.length,hcl]) (fun j u hu=>by rw[Addr.add_lit]; exact hs.pers _ _ _ (k3 j u hu)) ⟨yb,yo,none⟩ m c us g2 g4 (by omega) (by omega) (growslice_fits (by omega) hby);exact fresh vs n k1 k2 (by omega) hr
theorem zW2 {t ty e:TypeId}{i:TypeInfo}{z:Value}(ht:P.underlying t=some (.slice e))(hi:P.info? e=some i)(hz:i.zero=some z)(hzs:z.cells.size=i.size)(hsz:0<i.size)
 (hs:RelSt H L σ w){l n o k:Nat}{cs:List A}{s y:Value}(hσ : σ[l]?=some (.row false e i.size n cs))(hx:Rel H L (.win l n o k i.size) s)(hok:o+k*i.size=n*i.size)
 {ya:A}{m:Nat}{ys:List A}(hy:Rel H L ya y)(hye:zB0 σ i.size ya=some (m,ys))(hyl:ys.length=m*i.size)(hm0:m≠0)(hm:n+m≤maxLen)(hby:(n+m)*i.bytes≤140737488355328) :
 (∃v' w' L',(Builtin.append_ #[t,t] ty #[s,y]).run P w=.ok v' w'∧Nxt H L w H L' (σ.set l (.row false e i.size (n+m) (cs++ys))) w'∧Rel H L' (.win l (n+m) o (k+m) i.size) v') ∨
 ∃v' w' L',(Builtin.append_ #[t,t] ty #[s,y]).run P w=.ok v' w'∧Nxt H L w H L' (σ++[AObj.row false e i.size (k+m) (cs.drop o++ys)]) w'∧Rel H L' (.win σ.length (k+m) 0 (k+m) i.size) v':=by
 obtain⟨ad',c,rfl,hels⟩:=zGg hs hy hye hyl hsz;rcases hels with h0 | ⟨yb,yo,us,rfl,g1,g2,g3,g4⟩
 ·exact(hm0 h0).elim
 simp only[Rel]at hx;obtain⟨hs1,li,e1,e2,e3,hv⟩:=hx;have hob:=hs.obj l li _ e1 hσ;simp only[zN]at hob;obtain⟨_,hln,hcl,hob⟩:=hob;obtain⟨g0,ad,cap,rfl,k1,k2,k3⟩:=hv hln.symm;have hlσ : l < σ.length:=(jA1.1 hσ).1;have hlL:l<L.length:=(jA1.1 e1).1;have hby2:(k+m)*i.bytes≤140737488355328:=jBs (jBa _ (by omega)) hby;have fresh:∀(olds:List Value) (old:Nat),zQ H L (cs.drop o) olds→(∀u∈olds,one u)→old<k+m →
  (Builtin.append_ #[t,t] ty #[.slice ad k cap,.slice (some ⟨yb,yo,none⟩) m c]).run P w=.ok (.slice (some ⟨w.heap.size,0,none⟩) (k+m) (grownCap w (k+m) old e))
   (w.drew.alloc (.cells (olds.toArray++us.toArray++Builtin.zeroCells z.cells (grownCap w (k+m) old e-(k+m))) e)) →
  ∃v' w' L',(Builtin.append_ #[t,t] ty #[.slice ad k cap,.slice (some ⟨yb,yo,none⟩) m c]).run P w=.ok v' w'∧Nxt H L w H L' (σ++[AObj.row false e i.size (k+m) (cs.drop o++ys)]) w'∧Rel H L' (.win σ.length (k+m) 0 (k+m) i.size) v':=by
  intro olds old ho1 ho2 ho4 hrun;have ho3:olds.length=k*i.size:=by rw[ho1.length,jC3,hcl]; omega
  have hge:=grownCap_ge w (k+m) old e;have hcm:grownCap w (k+m) old e≤maxLen:=grownCap_le_maxLen w (k+m) old e (by omega);have hpl:(olds++us).length=(k+m)*i.size:=by rw[jA5,ho3,g2,jAt]
  have hcur:(olds.toArray++us.toArray++Builtin.zeroCells z.cells (grownCap w (k+m) old e-(k+m))).toList.take ((k+m)*i.size)=olds++us:=by simp only[Array.toList_append,jAy];rw[←jAy,←hpl];exact List.take_left
  have hnone:∀o,H w.heap.size o=none:=fun o=>by
   cases hH:H w.heap.size o with
   | none=>rfl
   | some v=>have:=hs.h_lt hH; omega
  have hn:=zBZ hs e i.size;have e1:(L++[(⟨none,0,0,true⟩:LI)])[σ.length]?=some (⟨none,0,0,true⟩:LI):=by rw[←hs.len]; simp
  have hheap:(w.drew.alloc (.cells (olds.toArray++us.toArray++Builtin.zeroCells z.cells (grownCap w (k+m) old e-(k+m))) e)).heap[w.heap.size]?=some (.cells (olds.toArray++us.toArray++Builtin.zeroCells z.cells (grownCap w (k+m) old e-(k+m))) e (0,0)):=heap_alloc_new w.drew _;have hll:=zDE (li':=(⟨some w.heap.size,grownCap w (k+m) old e,k+m,true⟩:LI)) e1 rfl rfl (by simp only; omega);have hnx:Nxt H (L++[(⟨none,0,0,true⟩:LI)]) w H ((L++[(⟨none,0,0,true⟩:LI)]).set σ.length (⟨some w.heap.size,grownCap w (k+m) old e,k+m,true⟩:LI))
   ((σ++[AObj.row false e i.size 0 []]).set σ.length (AObj.row false e i.size (k+m) (cs.drop o++ys)))
   (w.drew.alloc (.cells (olds.toArray++us.toArray++Builtin.zeroCells z.cells (grownCap w (k+m) old e-(k+m))) e)):=by
   refine zHQ hn.st e1 rfl rfl (by simp only; omega) rfl (.inr (jA _)) (by simp) rfl rfl rfl (jC6 _) (fun d=>by simp) (by simp) (fun k hk _=>heap_alloc_old w.drew _ (h:=hk)) (HLe.refl _) (fun b' o' v hv'=>.inl hv')
    (fun o' v hv'=>by rw[hnone]at hv'; cases hv') ?_
   simp only[zN];refine⟨trivial,trivial,by rw[jA5,hyl,jC3,hcl,jAt]; omega,.inr ⟨w.heap.size,_,rfl,hheap,hge,hcm,?_,?_,?_,hnone⟩⟩
   ·simp only[Array.size_append,jBo,size_zeroCells,hzs,ho3,g2,←jAt]
    congr 1
    omega
   ·rw[hcur];exact zQ.mono (HLe.refl _) ((LLe.append _ _).trans hll) _ (ho1.append g1)
   ·rw[hcur];intro u hu;rcases jAb.1 hu with hu | hu
    ·exact ho2 u hu
    ·exact g3 u hu
  have he:(σ++[AObj.row false e i.size 0 []]).set σ.length (AObj.row false e i.size (k+m) (cs.drop o++ys)) = σ++[AObj.row false e i.size (k+m) (cs.drop o++ys)]:=by simp
  rw[he]at hnx;refine⟨_,_,_,hrun,hn.trans hnx,?_⟩;simp only[Rel];exact⟨rfl,_,jAi (jA1.1 e1).1,rfl,jA _,fun _=>⟨jA _,_,_,rfl,hge,hcm,.inr ⟨_,rfl,rfl,by simp⟩⟩⟩
 rcases k3 with hc0 | ⟨b,hb,rfl,hcap⟩
 ·clear hob;have hk0:k=0:=by omega
  subst hk0 hc0;have hdr:cs.drop o=[]:=jCt (by rw[hcl]; omega);right;cases ad with
  | none =>
   have hr:=run_append_nil (P:=P) w t ty e i z ht hi hz ⟨yb,yo,none⟩ m c us g2 g4 (by omega) (by simp only[maxLen]at hm; omega) (by simp only[jAq]at hby2; omega);refine fresh [] 0 (by rw[hdr]; exact jF) (by simp) (by omega) ?_
   simpa using hr
  | some ba =>
   have hr:=run_append_grow (P:=P) w t ty e i z ht hi hz ba 0 0 [] (by simp) (by simp) ⟨yb,yo,none⟩ m c us g2 g4 (by omega) (by simp only[maxLen]at hm; omega) (growslice_fits (by omega) hby2);exact fresh [] 0 (by rw[hdr]; exact jF) (by simp) (by omega) hr
 ·rcases hob with ⟨h0,_⟩ | ⟨b',cur,hb',hh,q1,q2,q3,q4,q5,q6⟩
  ·rw[hb]at h0; cases h0
  rw[hb]at hb';cases hb';have hncur:n*i.size≤cur.size:=by rw[q3]; exact jBa _ q1
  by_cases hroom:k+m≤cap
  ·left;have hnm:n+m≤li.cap:=by
    have h1:(k+m)*i.size≤cap*i.size:=jBa _ hroom;have h2:(n+m)*i.size≤li.cap*i.size:=by rw[jAt]at h1 ⊢; omega
    exact Nat.le_of_mul_le_mul_right h2 hsz
   have hfit:o+k*i.size+us.length≤cur.size:=by rw[g2,q3,hok,←jAt]; exact jBa _ hnm
   have hf:=run_firstCells_some (P:=P) w i.size m ⟨yb,yo,none⟩ m c us g2 g4;have hst:=run_storeCells_at P b (o+k*i.size) e us 0 cur w hh (by simpa using hfit) g3;simp only[jBl]at hst;have hrun:(Builtin.append_ #[t,t] ty #[.slice (some ⟨b,o,none⟩) k cap,.slice (some ⟨yb,yo,none⟩) m c]).run P w =
    .ok (.slice (some ⟨b,o,none⟩) (k+m) cap) (w.setRow b (cur.toList.take (o+k*i.size)++us++cur.toList.drop (o+k*i.size+us.length)).toArray):=by
    simp[Builtin.append_,run_underlying ht,sizeOf,typeInfo,hi,Builtin.lenOf,hroom,hf,Addr.add_lit,hst]
   rw[hok]at hrun hfit;have hpl:(cur.toList.take (n*i.size)++us).length=(n+m)*i.size:=by rw[jA5,g2,jAt,jB2,jAr,jAw (by omega)]
   have hcur:(cur.toList.take (n*i.size)++us++cur.toList.drop (n*i.size+us.length)).take ((n+m)*i.size)=cur.toList.take (n*i.size)++us:=by rw[←hpl]; exact List.take_left
   have hheap:=setRow_heap w b cur (cur.toList.take (n*i.size)++us++cur.toList.drop (n*i.size+us.length)).toArray e (0,0) hh;have hnx:Nxt H L w H (L.set l ⟨some b,li.cap,n+m,true⟩) (σ.set l (.row false e i.size (n+m) (cs++ys)))
    (w.setRow b (cur.toList.take (n*i.size)++us++cur.toList.drop (n*i.size+us.length)).toArray):=by
    refine zHQ hs e1 e2 rfl (by simp only; omega) rfl (.inl hb) (by simp; exact hs.lt l li b e1 hb) rfl rfl rfl (jA _) (fun d=>by rw[hh]; simp) (by simp) (fun k _ hk=>setRow_other w b k _ hk) (HLe.refl _) (fun b' o' v hv'=>.inl hv') (fun o' v hv'=>by rw[q6]at hv'; cases hv') ?_;have hll:=zDE (li':=(⟨some b,li.cap,n+m,true⟩:LI)) e1 e2 rfl (by simp only; omega);simp only[zN];refine⟨trivial,trivial,by rw[jA5,hcl,hyl,jAt],.inr ⟨b,_,rfl,hheap,hnm,q2,?_,?_,?_,q6⟩⟩
    ·simp only[jBo,jA5,jB2,jC3,jAr];omega
    ·rw[hcur];exact zQ.mono (HLe.refl _) hll _ (q4.append g1)
    ·rw[hcur];intro u hu;rcases jAb.1 hu with hu | hu
     ·exact q5 u hu
     ·exact g3 u hu
   refine⟨_,_,_,hrun,hnx,?_⟩;simp only[Rel];exact⟨rfl,_,jAi hlL,rfl,jA _,fun _=>⟨by omega,_,_,rfl,hroom,k2,.inr ⟨b,rfl,rfl,hcap⟩⟩⟩
  ·right;have hlen:((cur.toList.take (n*i.size)).drop o).length=k*i.size:=by rw[jC3,jB2,jAr,jAw hncur]; omega
   have hr:=run_append_grow (P:=P) w t ty e i z ht hi hz ⟨b,o,none⟩ k cap ((cur.toList.take (n*i.size)).drop o) hlen
    (fun j u hu=>by
     rw[Addr.add_lit,cell_of_row w b _ cur e (0,0) hh];rw[jD1,jB6]at hu;split at hu
     ·simpa using hu
     ·cases hu) ⟨yb,yo,none⟩ m c us g2 g4 (by omega) (by simp only[maxLen]at hm; omega) (growslice_fits (by omega) hby2)
   exact fresh _ cap (q4.drop o) (fun u hu=>q5 u (jBm hu)) (by omega) hr
theorem zRV (hs:RelSt H L σ w){l b n h sz:Nat}{li:LI}{e:TypeId}{cs:List A}(hL:L[l]?=some li)(hr:li.isRow=true)(hb:li.block=some b)(hσ : σ[l]?=some (.row false e sz n cs))(hh:h≤n) :
 Nxt H L w H (L.set l ⟨none,0,li.len+1,true⟩++[⟨some b,li.cap,h,true⟩]) (σ.set l .dead++[AObj.row false e sz h (cs.take (h*sz))]) w:=by
 have hll:=(zDE (li':=(⟨none,0,li.len+1,true⟩:LI)) hL hr rfl (Nat.lt_succ_self _)).trans (LLe.append _ [⟨some b,li.cap,h,true⟩]);have hl:l<L.length:=(jA1.1 hL).1;have get:∀(i:Nat) x,(L.set l ⟨none,0,li.len+1,true⟩++[(⟨some b,li.cap,h,true⟩:LI)])[i]?=some x→(i=l∧x.block=none)∨(i≠l∧L[i]?=some x)∨(i=L.length∧x=⟨some b,li.cap,h,true⟩):=by
  intro i x hx;rcases qZ hx with hx | ⟨rfl,rfl⟩
  ·by_cases hi:i=l
   ·subst hi;rw[jAi hl]at hx;cases hx;exact .inl ⟨rfl,rfl⟩
   ·rw[jA8 (Ne.symm hi)]at hx;exact .inr (.inl ⟨hi,hx⟩)
  ·exact .inr (.inr ⟨by simp,rfl⟩)
 have hob:=hs.obj l li _ hL hσ;simp only[zN]at hob;obtain⟨_,hlen,hcl,hob⟩:=hob;refine⟨⟨hs.pers,by simp[hs.len],fun i x o hx ho=>?_,fun i j x y b' hi hj hx hy=>?_,fun i x b' hi hx=>?_⟩,Step.refl _ _ _,hll,fun b' ⟨i,x,hi,hx⟩=>?_⟩
 ·rcases get i x hx with ⟨rfl,_⟩ | ⟨hi,hx'⟩ | ⟨rfl,rfl⟩
  ·rw[jAd (by rw[jBi,←hs.len]; exact hl),jAi (by rw[←hs.len]; exact hl)]at ho;cases ho;trivial
  ·rw[jAd (by rw[jBi,←hs.len]; exact(jA1.1 hx').1),jA8 (Ne.symm hi)]at ho;exact(hs.obj i x o hx' ho).carry (fun _ _=>rfl) (HLe.refl _) hll (fun _ _ _=>rfl)
  ·rw[hs.len,jAp (by simp)]at ho;simp only[jBi,jBw,jAx,jA0]at ho;subst ho;simp only[zN];have hmul:h*sz≤n*sz:=jBa _ hh;refine⟨trivial,trivial,by rw[jB2,hcl,jAw hmul],.inr ?_⟩;rcases hob with ⟨h0,_⟩ | ⟨b',cur,hb',k1,k2,k3,k4,k5,k6,k7⟩
   ·rw[hb]at h0; cases h0
   ·rw[hb]at hb';cases hb';have ht:cur.toList.take (h*sz)=(cur.toList.take (n*sz)).take (h*sz):=by rw[List.take_take,jAw hmul]
    refine⟨b,cur,rfl,k1,by omega,k3,k4,by rw[ht]; exact zQ.mono (HLe.refl _) hll _ (k5.take _),fun u hu=>k6 u ?_,k7⟩;rw[ht]at hu;exact jCb hu
 ·rcases get i x hi with ⟨_,h0⟩ | ⟨hi1,hi'⟩ | ⟨rfl,rfl⟩
  ·rw[h0]at hx; cases hx
  ·rcases get j y hj with ⟨_,h0⟩ | ⟨hj1,hj'⟩ | ⟨rfl,rfl⟩
   ·rw[h0]at hy; cases hy
   ·exact hs.inj i j x y b' hi' hj' hx hy
   ·cases hy;exact(hi1 (hs.inj i l x li _ hi' hL hx hb)).elim
  ·cases hx;rcases get j y hj with ⟨_,h0⟩ | ⟨hj1,hj'⟩ | ⟨rfl,rfl⟩
   ·rw[h0]at hy; cases hy
   ·exact(hj1 (hs.inj j l y li _ hj' hL hy hb)).elim
   ·rfl
 ·rcases get i x hi with ⟨_,h0⟩ | ⟨hi1,hi'⟩ | ⟨rfl,rfl⟩
  ·rw[h0]at hx; cases hx
  ·exact hs.lt i x b' hi' hx
  ·cases hx; exact hs.lt l li _ hL hb
 ·rcases get i x hi with ⟨_,h0⟩ | ⟨hi1,hi'⟩ | ⟨rfl,rfl⟩
  ·rw[h0]at hx; cases hx
  ·exact .inl ⟨i,x,hi',hx⟩
  ·cases hx; exact .inl ⟨l,li,hL,hb⟩
inductive Out where
 | ret (r:A)
 | pan (v:Value)
def zGG (H:Mem)(L:List LI):Out→Ending→Prop
 | .ret r,e=>∃v,e=.returned v∧Rel H L r v
 | .pan v,e=>e=.panicked [{v,recovered:=false}]
def yV (P:Program)(f:FuncId)(args:List A) (σ : St)(Q:Out→St→Prop):Prop :=
 ∀(H:Mem) (L:List LI) (w:World) (vs:List Value),RelSt H L σ w→zQ H L args vs →
  Calls P f vs.toArray w fun e w'=>∃o σ' H' L',zGG H' L' o e∧Nxt H L w H' L' σ' w'∧Q o σ'
def zCg (P:Program)(b:Nat)(args:List A) (σ : St)(Q:Out→St→Prop):Prop :=
 ∀(H:Mem) (L:List LI) (w:World) (vs:List Value),RelSt H L σ w→zQ H L args vs →
  ∃f tmps x y,(Instr.yield b vs.toArray).run P w=.ok (.round b f tmps x y) w∧RoundIn Fence.wide 0 P b f tmps x y w fun e w'=>∃o σ' H' L',zGG H' L' o e∧Nxt H L w H' L' σ' w'∧Q o σ'
def Wr (r:Option Nat):Fence:={Fence.wide with round:=r}
def qX (o:Option (Prop×A))(J:A→Prop):Prop:=match o with
 | some (p,r)=>p∧J r
 | none=>False
def outK (d:Option Nat)(env:Env)(K:Env→St→Prop)(Qp:Value→Env→St→Prop):Out→St→Prop
 | .ret r,σ'=>K (env.put d r) σ'
 | .pan v,σ'=>Qp v env σ'
def zFe (t:Bool)(A B:Env→St→Prop)(env:Env) (σ : St):Prop:=(t=true→A env σ)∧(t=false→B env σ)
def zKU (d:Option Nat)(K:Env→St→Prop)(env:Env) (σ : St):Prop:=K (env.put d (.lit undef)) σ
noncomputable def wpO (P:Program) (Qp:Value→Env→St→Prop) (K:Env→St→Prop):KOp→Env→St→Prop
 | .alloc d zs,env,σ=>K (env.put d (.ptr σ.length 0)) (σ++[.box (zs.map qS)])
 | .box d x,env,σ=>match cellsOf (ev env x)with
  | some cs=>K (env.put d (.ptr σ.length 0)) (σ++[.box cs])
  | none=>False
 | .bslice d _ _ n zero parts,env,σ=>match zB3 (zero.map qS) (parts.map fun(o,s,x)=>(o,s,ev env x))with
  | some cs=>K (env.put d (.fsl n cs)) σ
  | none=>False
 | .isz d ng x,env,σ=>match ev env x with
  | .nil=>K (env.put d (.lit (.bool !ng))) σ
  | .sl n _=>K (env.put d (.lit (.bool ng))) σ∧(n=0→K (env.put d (.lit (.bool !ng))) σ)
  | .row l n=>(match σ[l]? with
   | some (.row _ _ _ m _)=>n=m∧K (env.put d (.lit (.bool ng))) σ∧(n=0→K (env.put d (.lit (.bool !ng))) σ)
   | _=>False)
  | _=>False
 | .apq d e sz bytes x y,env,σ=>match zB0 σ sz (ev env y),ev env x with
  | some (m,ys),.win l n o k c=>(match σ[l]? with
   | some (.row false e' s n' cs)=>(ys.length=m*sz∧m≠0∧n=n'∧e'=e∧s=sz∧c=sz∧o+k*sz=n*sz∧n+m≤maxLen∧(n+m)*bytes≤140737488355328) ∧
    K (env.put d (.win l (n+m) o (k+m) sz)) (σ.set l (.row false e sz (n+m) (cs++ys)))∧K (env.put d (.win σ.length (k+m) 0 (k+m) sz)) (σ++[.row false e sz (k+m) (cs.drop o++ys)])
   | _=>False)
  | _,_=>False
 | .shr d x sz hx,env,σ=>match ev env x,ev env hx with
  | .row l n,.lit (.int _ h)=>(match σ[l]? with
   | some (.row false e s m cs)=>(n=m∧s=sz∧0≤h∧h≤n∧n≠0)∧K (env.put d (.row σ.length h.toNat)) (σ.set l .dead++[.row false e sz h.toNat (cs.take (h.toNat*sz))])
   | _=>False)
  | _,_=>False
 | .brow d e sz n zero parts,env,σ=>match zB3 (zero.map qS) (parts.map fun(o,s,x)=>(o,s,ev env x))with
  | some cs=>K (env.put d (.row σ.length n)) (σ++[.row false e sz n cs])
  | none=>False
 | .st d x v n,env,σ=>match cellsOf (ev env v)with
  | some cs=>if cs.length=n then (match stA σ cs (ev env x)with
   | some σ'=>K (env.put d (.lit undef)) σ'
   | none=>False) else False
  | none=>False
 | .app d e sz bytes x y,env,σ=>match zB0 σ sz (ev env y)with
  | some (m,ys)=>ys.length=m*sz∧(match ev env x with
   | .nil=>(m≤maxLen∧m*bytes≤140737488355328)∧K (env.put d (.row σ.length m)) (σ++[.row false e sz m ys])
   | .row l n=>(match σ[l]? with
    | some (.row fz e' s n' cs)=>if n=n'∧e'=e∧s=sz then (n+m≤maxLen∧(n+m)*bytes≤140737488355328)∧K (env.put d (.row l (n+m))) (σ.set l (.row fz e sz (n+m) (cs++ys))) else False
    | _=>False)
   | .fsl n cs=>cs.length=n*sz∧(m=0→K (env.put d (.fsl n cs)) σ)∧(m≠0→(n+m≤maxLen∧(n+m)*bytes≤140737488355328)∧K (env.put d (.row σ.length (n+m))) (σ++[.row false e sz (n+m) (cs++ys)]))
   | _=>False)
  | none=>False
 | .len d false x,env,σ=>match ev env x with
  | .sl n _=>n≤maxLen→K (env.put d (.lit (.int .i64 n))) σ
  | .fsl n _=>n≤maxLen→K (env.put d (.lit (.int .i64 n))) σ
  | _=>qX (zJ env σ (.len d false x)) fun r=>K (env.put d r) σ
 | .call d f args,env,σ=>match ev env f with
  | .clo g first cap=>zA P g=true∧yV P g (first++args.map (ev env)++cap) σ (outK d env K Qp)
  | .lit (.func (.yield b) ⟨[]⟩ ⟨[]⟩)=>zCg P b (args.map (ev env)) σ (outK d env K Qp)
  | _=>False
 | .alr d q zs,env,σ=>(match σ[q]? with
  | some .rsv=>K (env.put d (.ptr q 0)) (σ.set q (.box (zs.map qS)))
  | _=>False)
 | .mop d m xs,env,σ=>zBf m (xs.map (ev env)) (fun r σ'=>K (env.put d r) σ') σ
 | .pan _ x,env,σ=>(match ev env x with
  | .lit (.iface t v)=>Qp (.iface t v) env σ
  | _=>False)
 | k,env,σ=>qX (zJ env σ k) fun r=>K (env.put k.dst r) σ
end
end Go.Abs
namespace Go.Abs
def zJ1 (P:Program)(t:TypeId)(xs:List Int):Value:=match P.underlying t with
 | some (.struct _)=>.agg (xs.map zCq).toArray
 | _=>zCq (xs.headD 0)
section
variable {P:Program}{w:World}
theorem zKF {t:TypeId}{d n:Nat}(h:zCJ P d t=some n)(hi:(P.info? t).map (·.size)=some n){pre xs:List Int}(hx:n≤xs.length) :
 (part t ((pre++xs).map zCq).toArray pre.length).run P w=.ok (zJ1 P t (xs.take n)) w:=by
 cases d with
 | zero=>simp[zCJ]at h
 | succ d =>
 unfold zCJ at h;unfold part zJ1;split at h
 ·rename_i hu;cases h;rw[Sem.run_bind,zDk hu,Result.andThen_ok,hu];simp only[zHu,jAg,if_false];cases xs with
  | nil=>simp at hx
  | cons x xs=>simp
 ·rename_i fs hu;obtain⟨i,hii,hsz⟩:=jAe.1 hi;rw[Sem.run_bind,zDk hu,Result.andThen_ok,hu];simp only[zHu,if_true,Sem.run_bind,yD hii,Result.andThen_ok,hsz,Sem.run_pure]
  congr 2
  apply jCa;simp[Array.toList_extract,List.extract,List.drop_append,List.map_take]
 ·cases h
theorem eqI:∀(d D n:Nat) (t:TypeId) (xs ys:List Int),d≤D→zCJ P d t=some n→xs.length=n→ys.length=n→(Op.equalIn D t (zJ1 P t xs) (zJ1 P t ys)).run P w=.ok (decide (xs=ys)) w
 | 0,_,_,_,_,_,_,h,_,_=>by simp[zCJ]at h
 | d+1,0,_,_,_,_,hD,_,_,_=>by omega
 | d+1,D+1,n,t,xs,ys,hD,h,hx,hy=>by
  unfold zCJ at h;split at h
  ·rename_i hu;cases h;unfold zJ1;rw[hu]
   match xs,hx,ys,hy with
   | [x],_,[y],_ =>
    simp only[List.headD_cons,zCq];rw[run_equalIn_int w D t .i64 .i64 x y hu]
    congr 1
    by_cases hxy:x=y<;>simp[hxy]
  ·rename_i fs hu;split at h
   ·cases h
   rename_i hst;unfold zJ1;rw[hu];have hfo:P.fieldsOf t=fs:=by simp[Program.fieldsOf,hu]
   rw[run_equalIn_struct w D t _ _ (by rw[hfo]; exact hu) (by simpa using hst),hfo];have go:∀(fs:List Field) (pre pre' xs ys:List Int),pre.length=pre'.length→zEj P (zCJ P d) pre.length fs=some n→pre.length+xs.length=n→pre.length+ys.length=n →
    (Op.eqFields D ((pre++xs).map zCq).toArray ((pre'++ys).map zCq).toArray fs).run P w=.ok (decide (xs=ys)) w:=by
    intro fs;induction fs with
    | nil =>
     intro pre pre' xs ys hp hf hx hy;simp only[zEj,jA0]at hf;have e1:xs=[]:=List.length_eq_zero_iff.1 (by omega);have e2:ys=[]:=List.length_eq_zero_iff.1 (by omega);simp[Op.eqFields,e1,e2]
    | cons f fs ih =>
     intro pre pre' xs ys hp hf hx hy;unfold zEj at hf;split at hf<;>try (cases hf; done)
     rename_i hof;obtain⟨hof,hnm⟩:=hof;split at hf<;>try (cases hf; done)
     rename_i k hk;split at hf<;>try (cases hf; done)
     rename_i hsz;have hkn:pre.length+k≤n:=by
      have mono:∀(fs:List Field) (o n:Nat),zEj P (zCJ P d) o fs=some n→o≤n:=by
       intro fs;induction fs with
       | nil=>intro o n h; simp only[zEj,jA0]at h; omega
       | cons f fs ih =>
        intro o n h;unfold zEj at h;split at h<;>try (cases h; done)
        split at h<;>try (cases h; done)
        split at h<;>try (cases h; done)
        have:=ih _ _ h;omega
      exact mono _ _ _ hf
     have p1:=zKF (w:=w) (pre:=pre) (xs:=xs) hk hsz (by omega);have p2:=zKF (w:=w) (pre:=pre') (xs:=ys) hk hsz (by omega);rw[←hof]at p1;rw[←hp,←hof]at p2;have hq:=eqI d D k f.type (xs.take k) (ys.take k) (by omega) hk (by simp; omega) (by simp; omega);have:=ih (pre++xs.take k) (pre'++ys.take k) (xs.drop k) (ys.drop k) (by simp; omega) (by simpa [jAw (show k≤xs.length by omega)] using hf) (by simp; omega) (by simp; omega);simp only[jAy,jC7]at this;simp only[Op.eqFields,hnm,ne_eq,not_false_eq_true,if_true,Sem.run_bind,p1,p2,Result.andThen_ok,hq];have hdec:decide (xs=ys)=(decide (xs.take k=ys.take k)&&decide (xs.drop k=ys.drop k)):=by
      by_cases h:xs=ys
      ·simp[h]
      ·have:¬(xs.take k=ys.take k∧xs.drop k=ys.drop k):=fun⟨a,b⟩=>h (by rw[←jC7 k xs,a,b,jC7])
       simp only[h,decide_false];symm;rw[jCk];by_cases h1:xs.take k=ys.take k
       ·right; simp only[decide_eq_false_iff_not]; exact fun e=>this ⟨h1,e⟩
       ·left; simp[h1]
     rw[hdec];by_cases h1:xs.take k=ys.take k
     ·simp only[h1,decide_true,Bool.not_true,jAg,if_false,this,jC1]
     ·simp[h1]
   exact go fs.toList [] [] xs ys rfl h (by simpa using hx) (by simpa using hy)
  ·cases h
theorem zUy (em:Bool):∀(d D n:Nat) (t:TypeId) (xs:List Int),d≤D→zCJ P d t=some n→xs.length=n→(Instr.checkKey em D t (zJ1 P t xs)).run P w=.ok () w
 | 0,_,_,_,_,_,h,_=>by simp[zCJ]at h
 | d+1,0,_,_,_,hD,_,_=>by omega
 | d+1,D+1,n,t,xs,hD,h,hx=>by
  unfold zCJ at h;split at h
  ·rename_i hu;cases h;unfold zJ1;rw[hu];simp[Instr.checkKey,run_underlying hu,zCq]
  ·rename_i fs hu;split at h
   ·cases h
   rename_i hst;unfold zJ1;rw[hu];simp only[Instr.checkKey,Sem.run_bind,run_underlying hu,Result.andThen_ok];rw[←Array.forIn_toList];have go:∀(fs:List Field) (pre xs:List Int),zEj P (zCJ P d) pre.length fs=some n→pre.length+xs.length=n →
    (forIn (m:=Sem) fs PUnit.unit fun f (_:PUnit)=>(if f.name ≠ "_" then do
     let a ←part f.type ((pre++xs).map zCq).toArray f.offset
     Instr.checkKey em D f.type a
     pure (ForInStep.yield PUnit.unit)
     else pure (ForInStep.yield PUnit.unit))).run P w=.ok PUnit.unit w:=by
    intro fs;induction fs with
    | nil=>intro pre xs _ _; simp
    | cons f fs ih =>
     intro pre xs hf hx;unfold zEj at hf;split at hf<;>try (cases hf; done)
     rename_i hof;obtain⟨hof,hnm⟩:=hof;split at hf<;>try (cases hf; done)
     rename_i k hk;split at hf<;>try (cases hf; done)
     rename_i hsz;have hkn:pre.length+k≤n:=by
      have mono:∀(fs:List Field) (o n:Nat),zEj P (zCJ P d) o fs=some n→o≤n:=by
       intro fs;induction fs with
       | nil=>intro o n h; simp only[zEj,jA0]at h; omega
       | cons f fs ih =>
        intro o n h;unfold zEj at h;split at h<;>try (cases h; done)
        split at h<;>try (cases h; done)
        split at h<;>try (cases h; done)
        have:=ih _ _ h;omega
      exact mono _ _ _ hf
     have p1:=zKF (w:=w) (pre:=pre) (xs:=xs) hk hsz (by omega);rw[←hof]at p1;have hq:=zUy em d D k f.type (xs.take k) (by omega) hk (by simp; omega);have:=ih (pre++xs.take k) (xs.drop k) (by simpa [jAw (show k≤xs.length by omega)] using hf) (by simp; omega);simp only[jAy,jC7]at this;simp only[List.forIn_cons,hnm,ne_eq,not_false_eq_true,if_true,Sem.run_bind,p1,Result.andThen_ok,hq,Sem.run_pure];exact this
   have h':=go fs.toList [] xs h (by simpa using hx);simp at h' ⊢;rw[h'];rfl
  ·cases h
end
end Go.Abs
