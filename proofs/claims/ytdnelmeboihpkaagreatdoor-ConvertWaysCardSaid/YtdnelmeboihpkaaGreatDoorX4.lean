/-
  The operations on maps: what they run to, and that they keep the abstract state.
-/
import Derived.Test.YtdnelmeboihpkaaGreatDoorX3
import Derived.Maps.RangeRun
import Derived.Carry
set_option linter.unusedVariables false
set_option maxHeartbeats 8000000
set_option maxRecDepth 100000
set_option linter.unusedSimpArgs false
namespace Go.Abs
section
variable {P:Program}{H:Mem}{L:List LI} {σ : St}{w:World}{N:Nat}{env:Env}{a:Act}
theorem zMk:∀{cs:List A} {ks:List Int} {vs:List Value},zHL cs=some ks→zQ H L cs vs→vs=ks.map zCq
 | [],ks,vs,h,hr=>by simp only[zHL,jA0]at h; subst h; rw[qY hr]; rfl
 | c::cs,ks,vs,h,hr=>by
  unfold zHL at h;split at h<;>try (cases h; done)
  ·rename_i heq; cases heq
  rename_i n l heq;cases heq;simp only[jAe]at h;obtain⟨ks',hk,rfl⟩:=h;obtain⟨u,us,rfl,h1,h2⟩:=zS hr;simp only[Rel]at h1;rw[h1,zMk hk h2];rfl
theorem zKu {nk:Nat}{x:A}{ks:List Int}{v:Value}(h:zHI nk x=some ks)(hr:Rel H L x v):v=zCf ks∧ks.length=nk:=by
 unfold zHI at h;split at h<;>try (cases h; done)
 ·split at h<;>try (cases h; done)
  rename_i ks' hk;split at h<;>try (cases h; done)
  rename_i hn;cases h;simp only[Rel]at hr;obtain⟨vs,rfl,h1,_⟩:=hr;exact⟨by rw[zMk hk h1,zHJ (by omega)],hn.1⟩
 ·split at h<;>try (cases h; done)
  rename_i hn;cases h;simp only[Rel]at hr;exact⟨hr,hn.symm⟩
theorem zPp (ks:List Int):Rel H L (zJz ks) (zCf ks):=by
 by_cases h1:ks.length=1
 ·match ks,h1 with
  | [n],_=>simp[zJz,zCf,Rel,zCq]
 ·have e:zJz ks=.agg (ks.map fun n=>.lit (.int .i64 n)):=by
   match ks,h1 with
   | [],_=>rfl
   | _::_::_,_=>rfl
  rw[e,zHJ h1];simp only[Rel];refine⟨ks.map zCq,rfl,?_,fun u hu=>?_⟩
  ·clear e h1;induction ks with
   | nil=>exact jF
   | cons k ks ih=>exact qH (by simp[Rel,zCq]) ih
  ·obtain⟨n,_,rfl⟩:=jAm.1 hu;rfl
theorem zN9 {k:TypeId}{nk:Nat}(h:zHe P k=some nk):zCJ P 20 k=some nk∧(∀ks:List Int,ks.length=nk→zJ1 P k ks=zCf ks)∧((match P.underlying k with | some (.array _ _) | some (.struct _)=>true | _=>false)=true∨(P.underlying k=some (.int .i64)∧nk=1)):=by
 unfold zHe at h;split at h<;>try (cases h; done)
 ·rename_i fs hu;split at h<;>try (cases h; done)
  rename_i n hn;split at h<;>try (cases h; done)
  rename_i hn1;cases h;refine⟨hn,fun ks hks=>?_,.inl (by rw[hu])⟩;unfold zJ1;rw[hu,zHJ (by omega)]
 ·rename_i hu;cases h;refine⟨by simp[zCJ,hu],fun ks hks=>?_,.inr ⟨hu,rfl⟩⟩;unfold zJ1;rw[hu]
  match ks,hks with
  | [n],_=>rfl
theorem zHC {k:TypeId}{nk:Nat}(hk:zHe P k=some nk){ks:List Int}(hks:ks.length=nk):∀(es:List (List Int×A)) (l:List MapEntry) (i:Nat),zAk H L es l→(∀p∈es,p.1.length=nk) →
 (zB4 ks es=none∧(Instr.findAsking k (zCf ks) l i).run P w=.ok none w∧(∀v,putI ks v es=es++[(ks,v)])∧zIu ks es=es) ∨
 ∃(j:Nat) (p:List Int×A) (e:MapEntry),es[j]?=some p∧p.1=ks∧zB4 ks es=some p.2∧l[j]?=some e∧Rel H L p.2 e.val∧e.key=zCf ks∧(Instr.findAsking k (zCf ks) l i).run P w=.ok (some (i+j,e.val)) w∧(∀v,putI ks v es=es.set j (ks,v))∧zIu ks es=es.eraseIdx j
 | [],l,i,h,_=>by rw[show l=[] from h];exact .inl ⟨rfl,by simp[Instr.findAsking],fun v=>rfl,rfl⟩
 | p::es,l,i,h,hn=>by
  obtain⟨e,l',rfl,h1,h2,h3⟩:=h;obtain⟨hi,hv,_⟩:=zN9 hk;have heq:=eqI (P:=P) (w:=w) 20 10000 nk k ks p.1 (by decide) hi hks (hn p (jAk ..));rw[hv _ hks,hv _ (hn p (jAk ..)),←h1]at heq;have heq:(Op.equal k (zCf ks) e.key).run P w=.ok (decide (ks=p.1)) w:=heq;by_cases hp:p.1=ks
  ·refine .inr ⟨0,p,e,rfl,hp,by simp[zB4,hp],rfl,h2,by rw[h1,hp],?_,fun v=>by simp[putI,hp],by simp[zIu,hp]⟩;simp[Instr.findAsking,heq,hp]
  ·have hp':¬ks=p.1:=fun e=>hp e.symm
   rcases zHC hk hks es l' (i+1) h3 (fun q hq=>hn q (jAh _ hq))with ⟨g1,g2,g3,g4⟩ | ⟨j,q,e',g1,g2,g3,g4,g5,g6,g7,g8,g9⟩
   ·refine .inl ⟨by simp[zB4,hp,g1],?_,fun v=>by simp[putI,hp,g3],by simp[zIu,hp,g4]⟩;simp[Instr.findAsking,heq,hp',g2]
   ·refine .inr ⟨j+1,q,e',by simpa using g1,g2,by simp[zB4,hp,g3],by simpa using g4,g5,g6,?_,fun v=>by simp[putI,hp,g8],by simp[zIu,hp,g9]⟩;simp only[Instr.findAsking,Sem.run_bind,heq,Result.andThen_ok,hp',decide_false,jAg,if_false,g7]
    congr 3
    omega
theorem zRS {k:TypeId}(hu:P.underlying k=some (.int .i64)){n:Int}:∀(es:List (List Int×A)) (l:List MapEntry) (i:Nat),zAk H L es l→(∀p∈es,p.1.length=1) →
 ∃r,Instr.findNow (.int .i64) (zCq n) l i=some r∧(Instr.findAsking k (zCq n) l i).run P w=.ok r w
 | [],l,i,h,_=>by rw[show l=[] from h];exact⟨none,rfl,by simp[Instr.findAsking]⟩
 | p::es,l,i,h,hn=>by
  obtain⟨e,l',rfl,h1,h2,h3⟩:=h;obtain⟨r,q1,q2⟩:=zRS hu (n:=n) es l' (i+1) h3 (fun q hq=>hn q (jAh _ hq));have hp1:=hn p (jAk ..);obtain⟨⟨ks,x⟩,rfl⟩:∃q:List Int×A,q=p:=⟨p,rfl⟩
  match ks,hp1 with
  | [m],_ =>
   have h1:e.key=zCq m:=h1;have heq:(Op.equal k (zCq n) (zCq m)).run P w=.ok (n==m) w:=run_equalIn_int w 9999 k .i64 .i64 n m hu;by_cases hnm:n=m
   ·subst hnm;refine⟨some (i,e.val),?_,?_⟩
    ·simp[Instr.findNow,h1,zCq,Instr.sameNow]
    ·simp[Instr.findAsking,h1,heq]
   ·refine⟨r,?_,?_⟩
    ·have hb:(n==m)=false:=by simpa using hnm
     simpa [Instr.findNow,h1,zCq,Instr.sameNow,hb] using q1
    ·simpa [Instr.findAsking,h1,heq,hnm] using q2
theorem zGo {k:TypeId}{nk:Nat}(hk:zHe P k=some nk){ks:List Int}(hks:ks.length=nk){es:List (List Int×A)}{l:List MapEntry}(hr:zAk H L es l)(hn:∀p∈es,p.1.length=nk) :
 (Instr.findKey k (zCf ks) l).run P w=(Instr.findAsking k (zCf ks) l).run P w:=by
 obtain⟨_,_,hw | ⟨hu,rfl⟩⟩:=zN9 hk
 ·exact run_findKey_eq w hw _ _
 ·match ks,hks with
  | [n],_ =>
   obtain⟨r,q1,q2⟩:=zRS (w:=w) hu (n:=n) es l 0 hr hn;show (Instr.findKey k (zCq n) l).run P w=(Instr.findAsking k (zCq n) l 0).run P w;rw[q2];simp only[Instr.findKey,Sem.run_bind,run_underlying hu,Result.andThen_ok,q1,Sem.run_pure]
theorem zDd {k:TypeId}{nk:Nat}(hk:zHe P k=some nk){ks:List Int}(hks:ks.length=nk)(em:Bool):(Instr.checkKey em 10000 k (zCf ks)).run P w=.ok () w:=by
 obtain⟨hi,hv,_⟩:=zN9 hk;have:=zUy (P:=P) (w:=w) em 20 10000 nk k ks (by decide) hi hks
 rwa [hv _ hks]at this
theorem zNy (ks:List Int):Instr.sameBits 10000 (zCf ks) (zCf ks)=true:=by
 by_cases h1:ks.length=1
 ·match ks,h1 with
  | [n],_=>simp[zCf,zCq,Instr.sameBits]
 rw[zHJ h1];simp only[Instr.sameBits,beq_self_eq_true,jC1,jAz];intro p hp;obtain⟨x,y⟩:=p;have hxy:x=y∧∃n,x=zCq n:=by
  have:∀(l:List Value),(∀v∈l,∃n,v=zCq n)→∀q∈l.zip l,q.1=q.2∧∃n,q.1=zCq n:=by
   intro l;induction l with
   | nil=>intro _ q hq; simp at hq
   | cons v l ih =>
    intro h q hq;simp only[List.zip_cons_cons,jA7]at hq;rcases hq with rfl | hq
    ·exact⟨rfl,h v (jAk ..)⟩
    ·exact ih (fun v hv=>h v (jAh _ hv)) q hq
  exact this _ (fun v hv=>by simp only[jAm]at hv;obtain⟨n,_,rfl⟩:=hv;exact⟨n,rfl⟩) _ hp
 obtain⟨rfl,n,rfl⟩:=hxy;simp[zCq,Instr.sameBits]
theorem zXg {t k e:TypeId}{nk:Nat}(ht:P.underlying t=some (.map k e))(hk:zHe P k=some nk){i:TypeInfo}(hi:P.info? e=some i){z:Value}(hz:i.zero=some z){ks:List Int}(hks:ks.length=nk){es:List (List Int×A)}{ents:Array MapEntry}{ck b:Nat}
 (hb:w.heap[b]?=some (.map ents ck))(hr:zAk H L es ents.toList)(hn:∀p∈es,p.1.length=nk)(ok:Bool) :
 ∃v,(Instr.lookup t (.map (some b)) (zCf ks) ok).run P w=.ok v w∧Rel H L (zEK z ok (zB4 ks es)) v:=by
 have hzr:(zeroValue e).run P w=.ok z w:=by simp[zeroValue,typeInfo,hi,hz]
 have hg:(getObj b).run P w=.ok (.map ents ck) w:=by simp[getObj,Sem.run,hb]
 rcases zHC (w:=w) hk hks es ents.toList 0 hr hn with ⟨g1,g2,_,_⟩ | ⟨j,p,en,g1,g2,g3,g4,g5,g6,g7,_,_⟩
 ·refine⟨if ok then .tuple #[z,.bool false] else z,?_,?_⟩
  ·simp only[Instr.lookup,Sem.run_bind,run_underlying ht,Result.andThen_ok,hg,Sem.run_pure,zDd hk hks,zGo hk hks hr hn,g2,hzr]
  ·cases ok
   ·simp only[zEK,g1,Option.getD_none];exact zFU z
   ·simp only[zEK,g1,if_true,Option.getD_none,Option.isSome_none,Rel];exact⟨[z,.bool false],rfl,qH (zFU z) (qH (by simp[Rel]) jF)⟩
 ·refine⟨if ok then .tuple #[en.val,.bool true] else en.val,?_,?_⟩
  ·simp only[Instr.lookup,Sem.run_bind,run_underlying ht,Result.andThen_ok,hg,Sem.run_pure,zDd hk hks,zGo hk hks hr hn,g7]
  ·cases ok
   ·simp only[zEK,g3,jB9];exact g5
   ·simp only[zEK,g3,if_true,jB9,Option.isSome_some,Rel];exact⟨[en.val,.bool true],rfl,qH g5 (qH (by simp[Rel]) jF)⟩
theorem zKB (hs:RelSt H L σ w)(ob:AObj)(o:Obj)(ho:zN H (L++[(⟨some w.heap.size,0,0,false⟩:LI)]) (w.alloc o) ⟨some w.heap.size,0,0,false⟩ ob) :
 Nxt H L w H (L++[(⟨some w.heap.size,0,0,false⟩:LI)]) (σ++[ob]) (w.alloc o):=by
 have hll:=LLe.append L [(⟨some w.heap.size,0,0,false⟩:LI)];refine⟨⟨fun b o v hv=>?_,by simp[hs.len],fun i l o hL hσ=>?_,fun i j l l' b hi hj hb hb'=>?_,fun i l b hL hb=>?_⟩,
  ⟨rfl,rfl,rfl,by simp,fun k hk _=>heap_alloc_old w _ (h:=hk),HLe.refl _,fun b o v hv=>.inl hv,jA _,zDA (fun k hk=>heap_alloc_old w _ (h:=hk))⟩,hll,fun b ⟨i,l,hL,hb⟩=>?_⟩
 ·rw[World.cell?_alloc_lt _ _ _ (hs.h_lt hv)];exact hs.pers b o v hv
 ·rcases qZ hL with hL' | ⟨rfl,rfl⟩
  ·have hi:i<L.length:=(jA1.1 hL').1;rw[jAd (by rw[←hs.len]; exact hi)]at hσ;exact(hs.obj i l o hL' hσ).carry (fun b hb=>heap_alloc_old w _ (h:=hs.lt i l b hL' hb)) (HLe.refl _) hll (fun _ _ _=>rfl)
  ·rw[hs.len]at hσ;rw[jAp (jA _)]at hσ;simp only[jBw,jAx,jA0]at hσ;subst hσ;exact ho
 ·rcases qZ hi with hi' | ⟨rfl,rfl⟩
  ·rcases qZ hj with hj' | ⟨rfl,rfl⟩
   ·exact hs.inj i j l l' b hi' hj' hb hb'
   ·cases hb'; have:=hs.lt i l _ hi' hb; omega
  ·cases hb;rcases qZ hj with hj' | ⟨rfl,rfl⟩
   ·have:=hs.lt j l' _ hj' hb'; omega
   ·rfl
 ·rcases qZ hL with hL' | ⟨rfl,rfl⟩
  ·have:=hs.lt i l b hL' hb; simp; omega
  ·cases hb; simp
 ·rcases qZ hL with hL' | ⟨rfl,rfl⟩
  ·exact .inl ⟨i,l,hL',hb⟩
  ·cases hb; exact .inr (jA _)
theorem zDv (hs:RelSt H L σ w){l b:Nat}{li:LI}{o0 o:Obj}{ob:AObj}(hl:L[l]?=some li)(hb:li.block=some b)(h0:w.heap[b]?=some o0)(hc:∀c e f,o0≠.cells c e f)(hv:∀a t,o0≠.view a t)(hp:∀c e,o0≠.pending c e)(hn:∀a x,o0≠.number a x)(hd:∀d,o0≠.deferred d)
 (ho:zN H L (w.putObj b o) li ob):Nxt H L w H L (σ.set l ob) (w.putObj b o):=by
 have hnone:∀o,H b o=none:=fun o=>by
  cases hH:H b o with
  | none=>rfl
  | some v =>
   have:=hs.pers b o v hH;simp only[World.cell?,h0]at this;cases o0<;>simp_all
 exact zGs hs hl hb rfl rfl rfl rfl (fun d=>by rw[h0]; exact fun e=>hd d (jB1 e)) (by simp) (fun k hk=>World.putObj_heap_other hk) (HLe.refl _) (fun _ _ _ h=>.inl h) (fun o' v hv=>by rw[hnone]at hv; cases hv) ho
theorem zEX {r:Nat}{es:Array MapEntry}{ck:Nat}(o:Obj)(h:w.heap[r]?=some (.map es ck)):(setObj r o).run P w=.ok () (w.putObj r o):=by simp[setObj,Sem.run,h,World.putObj]
theorem zK4 {α : Type}(a:Array α)(j:Nat)(f : α→α)(x : α)(h:a[j]?=some x):a.modify j f=a.setIfInBounds j (f x):=by
 apply jCa;rw[Array.toList_modify,jDb];apply jC4;intro i;rw[List.getElem?_modify,jD8];rw[←jCm]at h;by_cases hi:j=i
 ·subst hi;have:=(jA1.1 h).1;rw[jAr]at this;have hx:a[j]=x:=by rw[jCm,Array.getElem?_eq_getElem this]at h; exact jB1 h
  simp[this,hx,h]
 ·simp[hi]
theorem zAk.setAt:∀{es:List (List Int×A)} {l:List MapEntry} {j:Nat} {e:MapEntry} {ks:List Int} {a:A},zAk H L es l→e.key=zCf ks→Rel H L a e.val→zAk H L (es.set j (ks,a)) (l.set j e)
 | [],l,j,e,ks,a,h,_,_=>by rw[show l=[] from h]; exact rfl
 | p::es,_,0,e,ks,a,⟨e0,l',rfl,h1,h2,h3⟩,hk,hr=>⟨e,l',rfl,hk,hr,h3⟩
 | p::es,_,j+1,e,ks,a,⟨e0,l',rfl,h1,h2,h3⟩,hk,hr=>⟨e0,_,rfl,h1,h2,zAk.setAt h3 hk hr⟩
theorem zAk.snoc:∀{es:List (List Int×A)} {l:List MapEntry} {e:MapEntry} {ks:List Int} {a:A},zAk H L es l→e.key=zCf ks→Rel H L a e.val→zAk H L (es++[(ks,a)]) (l++[e])
 | [],l,e,ks,a,h,hk,hr=>by rw[show l=[] from h]; exact⟨e,[],rfl,hk,hr,rfl⟩
 | p::es,_,e,ks,a,⟨e0,l',rfl,h1,h2,h3⟩,hk,hr=>⟨e0,_,rfl,h1,h2,zAk.snoc h3 hk hr⟩
theorem zAk.eraseAt:∀{es:List (List Int×A)} {l:List MapEntry} {j:Nat},zAk H L es l→zAk H L (es.eraseIdx j) (l.eraseIdx j)
 | [],l,j,h=>by rw[show l=[] from h]; exact rfl
 | p::es,_,0,⟨e0,l',rfl,h1,h2,h3⟩=>by simpa using h3
 | p::es,_,j+1,⟨e0,l',rfl,h1,h2,h3⟩=>⟨e0,_,rfl,h1,h2,zAk.eraseAt h3⟩
theorem qBM {t k e:TypeId}{nk:Nat}(ht:P.underlying t=some (.map k e))(hk:zHe P k=some nk)(hs:RelSt H L σ w){l:Nat}{fr:Bool}{ks:List Int}(hks:ks.length=nk){es:List (List Int×A)}{m v:Value}{x:A}
 (hm:Rel H L (.map l) m)(hσ : σ[l]?=some (.mp fr nk es))(hv:Rel H L x v) :
 ∃w',(Instr.mapUpdate t m (zCf ks) v).run P w=.ok () w'∧Nxt H L w H L (σ.set l (.mp fr nk (putI ks x es))) w':=by
 simp only[Rel]at hm;obtain⟨li,b,hL,hb,hrow,rfl⟩:=hm;have hob:=hs.obj l li _ hL hσ;simp only[zN]at hob;obtain⟨_,b',ents,ck,e1,h2,hr,hbn,hn⟩:=hob;rw[hb]at e1;cases e1;have hg:(getObj b).run P w=.ok (.map ents ck) w:=by simp[getObj,Sem.run,h2]
 have hlt:=hs.lt l li b hL hb;have hsame:∀o,(w.putObj b o).heap[b]?=some o:=fun o=>World.putObj_heap_same hlt
 rcases zHC (w:=w) hk hks es ents.toList 0 hr hn with ⟨g1,g2,g3,_⟩ | ⟨j,p,en,g1,g2,g3,g4,g5,g6,g7,g8,_⟩
 ·refine⟨w.putObj b (.map (ents.push ⟨zCf ks,v,ck⟩) (ck+1)),?_,?_⟩
  ·simp only[Instr.mapUpdate,Sem.run_bind,run_underlying ht,Result.andThen_ok,hg,zDd hk hks,zGo hk hks hr hn,g2,zEX _ h2]
  ·rw[g3];refine zDv hs hL hb h2 (by simp) (by simp) (by simp) (by simp) (by simp) ?_;simp only[zN];refine⟨hrow,b,_,_,hb,hsame _,by rw[Array.toList_push]; exact zAk.snoc hr rfl hv,fun hf=>?_,fun q hq=>?_⟩
   ·obtain⟨c1,c2⟩:=hbn hf;refine⟨by simp[c1],fun i e he=>?_⟩;rw[Array.toList_push]at he;rcases qZ he with he | ⟨rfl,rfl⟩
    ·exact c2 i e he
    ·exact c1
   ·rcases jAb.1 hq with hq | hq
    ·exact hn q hq
    ·simp at hq; rw[hq]; exact hks
 ·have hj:ents[j]?=some en:=by rw[←jCm]; exact g4
  have hmod:ents.modify j (fun e=>{e with key:=zCf ks,val:=v})=ents.setIfInBounds j {en with key:=zCf ks,val:=v}:=zK4 ents j _ en hj;refine⟨w.putObj b (.map (ents.setIfInBounds j {en with key:=zCf ks,val:=v}) ck),?_,?_⟩
  ·simp only[Instr.mapUpdate,Sem.run_bind,run_underlying ht,Result.andThen_ok,hg,zDd hk hks,zGo hk hks hr hn,g7,jAq,hj,jD3,jB9,g6,Instr.keyThatStays,zNy,if_true,Sem.run_pure,hmod,zEX _ h2]
  ·rw[g8];refine zDv hs hL hb h2 (by simp) (by simp) (by simp) (by simp) (by simp) ?_;simp only[zN];refine⟨hrow,b,_,_,hb,hsame _,by rw[jDb]; exact zAk.setAt hr rfl hv,fun hf=>?_,fun q hq=>?_⟩
   ·obtain⟨c1,c2⟩:=hbn hf;refine⟨by simp[c1],fun i e he=>?_⟩;rw[jDb,jD8]at he;split at he
    ·rename_i hji;subst hji;split at he
     ·cases he;exact c2 _ en g4
     ·cases he
    ·exact c2 i e he
   ·rcases List.mem_or_eq_of_mem_set hq with hq | rfl
    ·exact hn q hq
    ·exact hks
theorem qAE {t k e:TypeId}{nk:Nat}(ht:P.underlying t=some (.map k e))(hk:zHe P k=some nk)(hs:RelSt H L σ w){l:Nat}{fr:Bool}{ks:List Int}(hks:ks.length=nk){es:List (List Int×A)}{m:Value}
 (hm:Rel H L (.map l) m)(hσ : σ[l]?=some (.mp fr nk es))(ats:Array TypeId)(hat:ats[0]?=some t)(ty:TypeId) :
 ∃w',(Builtin.delete_ ats ty #[m,zCf ks]).run P w=.ok (.tuple #[]) w'∧Nxt H L w H L (σ.set l (.mp false nk (zIu ks es))) w':=by
 simp only[Rel]at hm;obtain⟨li,b,hL,hb,hrow,rfl⟩:=hm;have hob:=hs.obj l li _ hL hσ;simp only[zN]at hob;obtain⟨_,b',ents,ck,e1,h2,hr,hbn,hn⟩:=hob;rw[hb]at e1;cases e1;have hg:(getObj b).run P w=.ok (.map ents ck) w:=by simp[getObj,Sem.run,h2]
 have hlt:=hs.lt l li b hL hb;have hsame:∀o,(w.putObj b o).heap[b]?=some o:=fun o=>World.putObj_heap_same hlt
 rcases zHC (w:=w) hk hks es ents.toList 0 hr hn with ⟨g1,g2,_,g4⟩ | ⟨j,p,en,g1,g2,g3,g4,g5,g6,g7,_,g9⟩
 ·refine⟨w.putObj b (.map ents ck),?_,?_⟩
  ·simp only[Builtin.delete_,hat,List.getElem?_toArray,jAx,jBf,Sem.run_bind,run_underlying ht,Result.andThen_ok,hg,zDd hk hks,zGo hk hks hr hn,g2,zEX _ h2];rfl
  ·rw[g4];refine zDv hs hL hb h2 (by simp) (by simp) (by simp) (by simp) (by simp) ?_;simp only[zN];exact⟨hrow,b,_,_,hb,hsame _,hr,fun hf=>(by cases hf),hn⟩
 ·refine⟨w.putObj b (.map (ents.eraseIdxIfInBounds j) ck),?_,?_⟩
  ·simp only[Builtin.delete_,hat,List.getElem?_toArray,jAx,jBf,Sem.run_bind,run_underlying ht,Result.andThen_ok,hg,zDd hk hks,zGo hk hks hr hn,g7,jAq,zEX _ h2];rfl
  ·rw[g9];refine zDv hs hL hb h2 (by simp) (by simp) (by simp) (by simp) (by simp) ?_;simp only[zN];have hsub:(ents.eraseIdxIfInBounds j).toList=ents.toList.eraseIdx j:=by
    unfold Array.eraseIdxIfInBounds;split
    ·simp
    ·rw[List.eraseIdx_of_length_le (by simp; omega)]
   exact⟨hrow,b,_,_,hb,hsame _,by rw[hsub]; exact zAk.eraseAt hr,fun hf=>(by cases hf),fun q hq=>hn q (List.mem_of_mem_eraseIdx hq)⟩
theorem qHF (hs:RelSt H L σ w)(nk:Nat):Nxt H L w H (L++[(⟨some w.heap.size,0,0,false⟩:LI)]) (σ++[AObj.mp true nk []]) (w.alloc (.map #[] 0)):=by refine zKB hs _ _ ?_;simp only[zN];exact⟨trivial,w.heap.size,#[],0,rfl,heap_alloc_new w _,rfl,fun _=>⟨rfl,fun i e he=>by simp at he⟩,by simp⟩
theorem qBD {t k e:TypeId}(ht:P.underlying t=some (.map k e))(hs:RelSt H L σ w){l nk:Nat}{es:List (List Int×A)}{m:Value}(hm:Rel H L (.map l) m)(hσ : σ[l]?=some (.mp true nk es)) :
 ∃w',(Instr.range t m).run P w=.ok (.pointer (some ⟨w.heap.size,0,none⟩)) w'∧Nxt H L w H (L++[(⟨some w.heap.size,0,0,false⟩:LI)]) (σ++[AObj.it l es.length []]) w':=by
 simp only[Rel]at hm;obtain⟨li,b,hL,hb,hrow,rfl⟩:=hm;have hob:=hs.obj l li _ hL hσ;simp only[zN]at hob;obtain⟨_,b',ents,ck,e1,h2,hr,hbn,hn⟩:=hob;rw[hb]at e1;cases e1;obtain⟨c1,c2⟩:=hbn rfl;have hck:ck=es.length:=by rw[c1,hr.length]
 refine⟨w.alloc (.mapIter (some b) ck #[] ck),?_,?_⟩
 ·have hg:(getObj b).run P w=.ok (.map ents ck) w:=by simp[getObj,Sem.run,h2]
  simp only[Instr.range,Sem.run_bind,run_underlying ht,Result.andThen_ok,hg,Sem.run_pure,run_newObj];rfl
 ·refine zKB hs _ _ ?_;simp only[zN];refine⟨trivial,w.heap.size,b,li,rfl,?_,hb,hrow,?_⟩
  ·rw[jAd (jA1.1 hL).1]; exact hL
  ·rw[heap_alloc_new,hck]
theorem zOP {ents:Array MapEntry}{met:List Nat}{e:MapEntry}:e∈(leftOf ents met.toArray).toList↔e∈ents.toList∧e.born∉met:=by unfold leftOf;simp
theorem zHP (hs:RelSt H L σ w):Nxt H L w H L σ w.drew :=
 ⟨hs.heap_eq rfl,⟨rfl,rfl,rfl,jA _,fun _ _ _=>rfl,HLe.refl _,fun _ _ _ h=>.inl h,jC6 _,fun _ _ h=>h⟩,LLe.refl _,fun _ h=>.inl h⟩
theorem zXy (ty:TypeId)(hs:RelSt H L σ w){j l nk n:Nat}{met:List Nat}{es:List (List Int×A)}{it:Value}(hi:Rel H L (.ptr j 0) it)(hσ : σ[j]?=some (.it l n met))(hσl : σ[l]?=some (.mp true nk es))(hnn:n=es.length) :
 ((∀i,i<n→i∈met)∧(Instr.next it false ty).run P w=.ok (.tuple #[.bool false]) w) ∨
 ∃(i:Nat) (p:List Int×A) (v:Value) (w':World),i∉met∧es[i]?=some p∧(Instr.next it false ty).run P w=.ok (.tuple #[.bool true,zCf p.1,v]) w'∧Rel H L p.2 v∧Nxt H L w H L (σ.set j (.it l n (met++[i]))) w':=by
 simp only[Rel]at hi;obtain⟨li,b,hL,hb,hrow,rfl⟩:=hi;have hob:=hs.obj j li _ hL hσ;simp only[zN]at hob;obtain⟨_,b',mb,lm,e1,e2,e3,e4,hit⟩:=hob;rw[hb]at e1;cases e1;have hom:=hs.obj l lm _ e2 hσl;simp only[zN]at hom;obtain⟨_,mb',ents,ck,g1,g2,hr,hbn,hn⟩:=hom;rw[e3]at g1;cases g1;obtain⟨c1,c2⟩:=hbn rfl;have hck:ck=n:=by rw[c1,hr.length,hnn]
 have hborn:∀x∈ents.toList,x.born<n:=fun x hx=>by obtain⟨i,hi,rfl⟩:=List.mem_iff_getElem.1 hx;have:=c2 i _ (jA2 hi);rw[this,←hck,c1];exact hi
 rcases run_next_at (P:=P) w ty b mb n n met.toArray ents ck hit g2 hborn (jA _)with ⟨k1,k2⟩ | ⟨e,he,w1,k1,k2⟩
 ·refine .inl ⟨fun i hi=>?_,k2⟩;have hie:i<ents.toList.length:=by rw[hr.length]; omega
  have hbi:=c2 i _ (jA2 hie);by_cases hmi:i∈met
  ·exact hmi
  ·have:ents.toList[i]∈(leftOf ents met.toArray).toList:=zOP.2 ⟨jA3 hie,by rw[hbi]; exact hmi⟩;have h0:leftOf ents met.toArray = #[]:=Array.eq_empty_of_size_eq_zero k1;rw[h0]at this;simp at this
 ·obtain⟨he1,he2⟩:=zOP.1 he;obtain⟨i,hi,rfl⟩:=List.mem_iff_getElem.1 he1;have hbi:=c2 i _ (jA2 hi);have hie:i<es.length:=by rw[←hr.length]; exact hi
  obtain⟨e',q1,q2,q3⟩:=hr.get (jA2 hie);rw[jA2 hi]at q1;cases q1;refine .inr ⟨i,es[i],_,_,by rw[←hbi]; exact he2,jA2 hie,by rw[←q2]; exact k2,q3,?_⟩;have hnx1:Nxt H L w H L σ w1:=by
   rcases k1 with rfl | rfl
   ·exact Nxt.refl hs
   ·exact zHP hs
  have hh:w1.heap=w.heap:=by rcases k1 with rfl | rfl<;>rfl
  have hit1:w1.heap[b]?=some (.mapIter (some mb) n met.toArray n):=by rw[hh]; exact hit
  have hlt:b<w1.heap.size:=by rw[hh]; exact hs.lt j li b hL hb
  refine hnx1.trans ?_;refine zDv hnx1.st hL hb hit1 (by simp) (by simp) (by simp) (by simp) (by simp) ?_;simp only[zN];refine⟨hrow,b,mb,lm,hb,e2,e3,e4,?_⟩;rw[World.putObj_heap_same hlt,hbi,hck];simp
theorem qAI (hs:RelSt H L σ w){j l nk n i:Nat}{met:List Nat}{es:List (List Int×A)}{it:Value}(hi:Rel H L (.ptr j 0) it)(hσ : σ[j]?=some (.it l n met))(hσl : σ[l]?=some (.mp true nk es))(hnn:n=es.length)(hmet:met.getLast?=some i){p:List Int×A}(hp:es[i]?=some p) :
 ∃v,(Instr.entry it).run P w=.ok (.tuple #[zCf p.1,v]) w∧Rel H L p.2 v:=by
 simp only[Rel]at hi;obtain⟨li,b,hL,hb,hrow,rfl⟩:=hi;have hob:=hs.obj j li _ hL hσ;simp only[zN]at hob;obtain⟨_,b',mb,lm,e1,e2,e3,e4,hit⟩:=hob;rw[hb]at e1;cases e1;have hom:=hs.obj l lm _ e2 hσl;simp only[zN]at hom;obtain⟨_,mb',ents,ck,g1,g2,hr,hbn,hn⟩:=hom;rw[e3]at g1;cases g1;obtain⟨c1,c2⟩:=hbn rfl;have hck:ck=n:=by rw[c1,hr.length,hnn]
 obtain⟨e,q1,q2,q3⟩:=hr.get hp;have hbi:=c2 i e q1;obtain⟨ini,hini⟩:∃ini,met=ini++[i]:=by rw[List.getLast?_eq_some_iff]at hmet;exact hmet
 have hnod:(ents.toList.map (·.born)).Nodup:=by rw[List.nodup_iff_pairwise_ne,jBv];intro x y hx hy hxy;simp only[jB5]at hx hy;simp only[jBr,c2 x _ (jA2 hx),c2 y _ (jA2 hy)];omega
 refine⟨e.val,?_,q3⟩;rw[←q2];refine run_entry_at w b mb n ini.toArray ents ck e ?_ g2 (jC2 q1) hnod;rw[hit,hini,hbi,hck];simp
end
end Go.Abs
