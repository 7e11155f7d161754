/-
  Keys of maps that are made of integers: they are compared cell by cell, they may be keys, and they stay.
  The operations on maps: what they run to, and that they keep the abstract state.
  Soundness of every operation.
  Regions whose order is the text's.
-/
import Derived.Test.YthglhccibdlccaaGreatDoorX2
import Derived.WideKeyRuns
import Derived.Maps.RangeRun
import Derived.Carry
import Derived.TacticsIn
import Derived.OrdersIn
set_option linter.unusedVariables false
set_option maxHeartbeats 8000000
set_option maxRecDepth 100000
set_option linter.unusedSimpArgs false
namespace Go.Abs
def zMg (P:Program)(t:TypeId)(xs:List Int):Value:=match P.underlying t with
 | some (.struct _)=>.agg (xs.map zGV).toArray
 | _=>zGV (xs.headD 0)
section
variable {P:Program}{w:World}
theorem zL8 {t:TypeId}{d n:Nat}(h:zDt P d t=some n)(hi:(P.info? t).map (·.size)=some n){pre xs:List Int}(hx:n≤xs.length) :
 (part t ((pre++xs).map zGV).toArray pre.length).run P w=.ok (zMg P t (xs.take n)) w:=by
 cases d with
 | zero=>simp[zDt]at h
 | succ d =>
 unfold zDt at h;unfold part zMg;split at h
 ·rename_i hu;cases h;rw[Sem.run_bind,zDF hu,Result.andThen_ok,hu];simp only[zHJ,jAc,if_false];cases xs with
  | nil=>simp at hx
  | cons x xs=>simp
 ·rename_i fs hu;obtain⟨i,hii,hsz⟩:=jAe.1 hi;rw[Sem.run_bind,zDF hu,Result.andThen_ok,hu];simp only[zHJ,if_true,Sem.run_bind,yO hii,Result.andThen_ok,hsz,Sem.run_pure]
  congr 2
  apply jC1;simp[Array.toList_extract,List.extract,List.drop_append,List.map_take]
 ·cases h
theorem eqI:∀(d D n:Nat) (t:TypeId) (xs ys:List Int),d≤D→zDt P d t=some n→xs.length=n→ys.length=n→(Op.equalIn D t (zMg P t xs) (zMg P t ys)).run P w=.ok (decide (xs=ys)) w
 | 0,_,_,_,_,_,_,h,_,_=>by simp[zDt]at h
 | d+1,0,_,_,_,_,hD,_,_,_=>by omega
 | d+1,D+1,n,t,xs,ys,hD,h,hx,hy=>by
  unfold zDt at h;split at h
  ·rename_i hu;cases h;unfold zMg;rw[hu]
   match xs,hx,ys,hy with
   | [x],_,[y],_ =>
    simp only[jD9,zGV];rw[run_equalIn_int w D t .i64 .i64 x y hu]
    congr 1
    by_cases hxy:x=y<;>simp[hxy]
  ·rename_i fs hu;split at h
   ·cases h
   rename_i hst;unfold zMg;rw[hu];have hfo:P.fieldsOf t=fs:=by simp[Program.fieldsOf,hu]
   rw[run_equalIn_struct w D t _ _ (by rw[hfo]; exact hu) (by simpa using hst),hfo];have go:∀(fs:List Field) (pre pre' xs ys:List Int),pre.length=pre'.length→zE8 P (zDt P d) pre.length fs=some n→pre.length+xs.length=n→pre.length+ys.length=n →
    (Op.eqFields D ((pre++xs).map zGV).toArray ((pre'++ys).map zGV).toArray fs).run P w=.ok (decide (xs=ys)) w:=by
    intro fs;induction fs with
    | nil =>
     intro pre pre' xs ys hp hf hx hy;simp only[zE8,jA1]at hf;have e1:xs=[]:=List.length_eq_zero_iff.1 (by omega);have e2:ys=[]:=List.length_eq_zero_iff.1 (by omega);simp[Op.eqFields,e1,e2]
    | cons f fs ih =>
     intro pre pre' xs ys hp hf hx hy;unfold zE8 at hf;split at hf<;>try (cases hf; done)
     rename_i hof;obtain⟨hof,hnm⟩:=hof;split at hf<;>try (cases hf; done)
     rename_i k hk;split at hf<;>try (cases hf; done)
     rename_i hsz;have hkn:pre.length+k≤n:=by
      have mono:∀(fs:List Field) (o n:Nat),zE8 P (zDt P d) o fs=some n→o≤n:=by
       intro fs;induction fs with
       | nil=>intro o n h; simp only[zE8,jA1]at h; omega
       | cons f fs ih =>
        intro o n h;unfold zE8 at h;split at h<;>try (cases h; done)
        split at h<;>try (cases h; done)
        split at h<;>try (cases h; done)
        have:=ih _ _ h;omega
      exact mono _ _ _ hf
     have p1:=zL8 (w:=w) (pre:=pre) (xs:=xs) hk hsz (by omega);have p2:=zL8 (w:=w) (pre:=pre') (xs:=ys) hk hsz (by omega);rw[←hof]at p1;rw[←hp,←hof]at p2;have hq:=eqI d D k f.type (xs.take k) (ys.take k) (by omega) hk (by simp; omega) (by simp; omega);have:=ih (pre++xs.take k) (pre'++ys.take k) (xs.drop k) (ys.drop k) (by simp; omega) (by simpa [jB9 (show k≤xs.length by omega)] using hf) (by simp; omega) (by simp; omega);simp only[jAv,jBy]at this;simp only[Op.eqFields,hnm,ne_eq,not_false_eq_true,if_true,Sem.run_bind,p1,p2,Result.andThen_ok,hq];have hdec:decide (xs=ys)=(decide (xs.take k=ys.take k)&&decide (xs.drop k=ys.drop k)):=by
      by_cases h:xs=ys
      ·simp[h]
      ·have:¬(xs.take k=ys.take k∧xs.drop k=ys.drop k):=fun⟨a,b⟩=>h (by rw[←jBy k xs,a,b,jBy])
       simp only[h,decide_false];symm;rw[jCl];by_cases h1:xs.take k=ys.take k
       ·right; simp only[decide_eq_false_iff_not]; exact fun e=>this ⟨h1,e⟩
       ·left; simp[h1]
     rw[hdec];by_cases h1:xs.take k=ys.take k
     ·simp only[h1,decide_true,Bool.not_true,jAc,if_false,this,jCn]
     ·simp[h1]
   exact go fs.toList [] [] xs ys rfl h (by simpa using hx) (by simpa using hy)
  ·cases h
theorem zVX (em:Bool):∀(d D n:Nat) (t:TypeId) (xs:List Int),d≤D→zDt P d t=some n→xs.length=n→(Instr.checkKey em D t (zMg P t xs)).run P w=.ok () w
 | 0,_,_,_,_,_,h,_=>by simp[zDt]at h
 | d+1,0,_,_,_,hD,_,_=>by omega
 | d+1,D+1,n,t,xs,hD,h,hx=>by
  unfold zDt at h;split at h
  ·rename_i hu;cases h;unfold zMg;rw[hu];simp[Instr.checkKey,run_underlying hu,zGV]
  ·rename_i fs hu;split at h
   ·cases h
   rename_i hst;unfold zMg;rw[hu];simp only[Instr.checkKey,Sem.run_bind,run_underlying hu,Result.andThen_ok];rw[←Array.forIn_toList];have go:∀(fs:List Field) (pre xs:List Int),zE8 P (zDt P d) pre.length fs=some n→pre.length+xs.length=n →
    (forIn (m:=Sem) fs PUnit.unit fun f (_:PUnit)=>(if f.name ≠ "_" then do
     let a ←part f.type ((pre++xs).map zGV).toArray f.offset
     Instr.checkKey em D f.type a
     pure (ForInStep.yield PUnit.unit)
     else pure (ForInStep.yield PUnit.unit))).run P w=.ok PUnit.unit w:=by
    intro fs;induction fs with
    | nil=>intro pre xs _ _; simp
    | cons f fs ih =>
     intro pre xs hf hx;unfold zE8 at hf;split at hf<;>try (cases hf; done)
     rename_i hof;obtain⟨hof,hnm⟩:=hof;split at hf<;>try (cases hf; done)
     rename_i k hk;split at hf<;>try (cases hf; done)
     rename_i hsz;have hkn:pre.length+k≤n:=by
      have mono:∀(fs:List Field) (o n:Nat),zE8 P (zDt P d) o fs=some n→o≤n:=by
       intro fs;induction fs with
       | nil=>intro o n h; simp only[zE8,jA1]at h; omega
       | cons f fs ih =>
        intro o n h;unfold zE8 at h;split at h<;>try (cases h; done)
        split at h<;>try (cases h; done)
        split at h<;>try (cases h; done)
        have:=ih _ _ h;omega
      exact mono _ _ _ hf
     have p1:=zL8 (w:=w) (pre:=pre) (xs:=xs) hk hsz (by omega);rw[←hof]at p1;have hq:=zVX em d D k f.type (xs.take k) (by omega) hk (by simp; omega);have:=ih (pre++xs.take k) (xs.drop k) (by simpa [jB9 (show k≤xs.length by omega)] using hf) (by simp; omega);simp only[jAv,jBy]at this;simp only[List.forIn_cons,hnm,ne_eq,not_false_eq_true,if_true,Sem.run_bind,p1,Result.andThen_ok,hq,Sem.run_pure];exact this
   have h':=go fs.toList [] xs h (by simpa using hx);simp at h' ⊢;rw[h'];rfl
  ·cases h
end
end Go.Abs
namespace Go.Abs
section
variable {P:Program}{H:Mem}{L:List LI} {σ : St}{w:World}{N:Nat}{env:Env}{a:Act}
theorem zNq:∀{cs:List A} {ks:List Int} {vs:List Value},zHf cs=some ks→zY H L cs vs→vs=ks.map zGV
 | [],ks,vs,h,hr=>by simp only[zHf,jA1]at h; subst h; rw[jR hr]; rfl
 | c::cs,ks,vs,h,hr=>by
  unfold zHf at h;split at h<;>try (cases h; done)
  ·rename_i heq; cases heq
  rename_i n l heq;cases heq;simp only[jAe]at h;obtain⟨ks',hk,rfl⟩:=h;obtain⟨u,us,rfl,h1,h2⟩:=qB hr;simp only[Rel]at h1;rw[h1,zNq hk h2];rfl
theorem zLj {nk:Nat}{x:A}{ks:List Int}{v:Value}(h:zIg nk x=some ks)(hr:Rel H L x v):v=zCO ks∧ks.length=nk:=by
 unfold zIg at h;split at h<;>try (cases h; done)
 split at h<;>try (cases h; done)
 rename_i ks' hk;split at h<;>try (cases h; done)
 rename_i hn;cases h;simp only[Rel]at hr;obtain⟨vs,rfl,h1,_⟩:=hr;exact⟨by rw[zNq hk h1]; rfl,hn⟩
theorem zQc (ks:List Int):Rel H L (zLk ks) (zCO ks):=by
 simp only[zLk,zCO,Rel];refine⟨ks.map zGV,rfl,?_,fun u hu=>?_⟩
 ·induction ks with
  | nil=>exact jZ
  | cons k ks ih=>exact qR (by simp[Rel,zGV]) ih
 ·obtain⟨n,_,rfl⟩:=jAi.1 hu;rfl
theorem zI4 {k:TypeId}{nk:Nat}(h:zIh P k=some nk):(match P.underlying k with | some (.array _ _) | some (.struct _)=>true | _=>false)=true∧zDt P 20 k=some nk∧∀ks,zMg P k ks=zCO ks:=by
 unfold zIh at h;split at h<;>try (cases h; done)
 rename_i fs hu;refine⟨by rw[hu],h,fun ks=>?_⟩;unfold zMg;rw[hu];rfl
theorem zHZ {k:TypeId}{nk:Nat}(hk:zIh P k=some nk){ks:List Int}(hks:ks.length=nk):∀(es:List (List Int×A)) (l:List MapEntry) (i:Nat),zAx H L es l→(∀p∈es,p.1.length=nk) →
 (zAL ks es=none∧(Instr.findAsking k (zCO ks) l i).run P w=.ok none w∧(∀v,zD7 ks v es=es++[(ks,v)])∧zII ks es=es) ∨
 ∃(j:Nat) (p:List Int×A) (e:MapEntry),es[j]?=some p∧p.1=ks∧zAL ks es=some p.2∧l[j]?=some e∧Rel H L p.2 e.val∧e.key=zCO ks∧(Instr.findAsking k (zCO ks) l i).run P w=.ok (some (i+j,e.val)) w∧(∀v,zD7 ks v es=es.set j (ks,v))∧zII ks es=es.eraseIdx j
 | [],l,i,h,_=>by rw[show l=[] from h];exact .inl ⟨rfl,by simp[Instr.findAsking],fun v=>rfl,rfl⟩
 | p::es,l,i,h,hn=>by
  obtain⟨e,l',rfl,h1,h2,h3⟩:=h;obtain⟨_,hi,hv⟩:=zI4 hk;have heq:=eqI (P:=P) (w:=w) 20 10000 nk k ks p.1 (by decide) hi hks (hn p (jAn ..));rw[hv,hv,←h1]at heq;have heq:(Op.equal k (zCO ks) e.key).run P w=.ok (decide (ks=p.1)) w:=heq;by_cases hp:p.1=ks
  ·refine .inr ⟨0,p,e,rfl,hp,by simp[zAL,hp],rfl,h2,by rw[h1,hp],?_,fun v=>by simp[zD7,hp],by simp[zII,hp]⟩;simp[Instr.findAsking,heq,hp]
  ·have hp':¬ks=p.1:=fun e=>hp e.symm
   rcases zHZ hk hks es l' (i+1) h3 (fun q hq=>hn q (jAm _ hq))with ⟨g1,g2,g3,g4⟩ | ⟨j,q,e',g1,g2,g3,g4,g5,g6,g7,g8,g9⟩
   ·refine .inl ⟨by simp[zAL,hp,g1],?_,fun v=>by simp[zD7,hp,g3],by simp[zII,hp,g4]⟩;simp[Instr.findAsking,heq,hp',g2]
   ·refine .inr ⟨j+1,q,e',by simpa using g1,g2,by simp[zAL,hp,g3],by simpa using g4,g5,g6,?_,fun v=>by simp[zD7,hp,g8],by simp[zII,hp,g9]⟩;simp only[Instr.findAsking,Sem.run_bind,heq,Result.andThen_ok,hp',decide_false,jAc,if_false,g7]
    congr 3
    omega
theorem zDB {k:TypeId}{nk:Nat}(hk:zIh P k=some nk){ks:List Int}(hks:ks.length=nk)(em:Bool):(Instr.checkKey em 10000 k (zCO ks)).run P w=.ok () w:=by
 obtain⟨_,hi,hv⟩:=zI4 hk;have:=zVX (P:=P) (w:=w) em 20 10000 nk k ks (by decide) hi hks
 rwa [hv]at this
theorem zOx (ks:List Int):Instr.sameBits 10000 (zCO ks) (zCO ks)=true:=by
 simp only[zCO,Instr.sameBits,beq_self_eq_true,jCn,jB];intro p hp;obtain⟨x,y⟩:=p;have hxy:x=y∧∃n,x=zGV n:=by
  have:∀(l:List Value),(∀v∈l,∃n,v=zGV n)→∀q∈l.zip l,q.1=q.2∧∃n,q.1=zGV n:=by
   intro l;induction l with
   | nil=>intro _ q hq; simp at hq
   | cons v l ih =>
    intro h q hq;simp only[List.zip_cons_cons,jA3]at hq;rcases hq with rfl | hq
    ·exact⟨rfl,h v (jAn ..)⟩
    ·exact ih (fun v hv=>h v (jAm _ hv)) q hq
  exact this _ (fun v hv=>by simp only[jAi]at hv;obtain⟨n,_,rfl⟩:=hv;exact⟨n,rfl⟩) _ hp
 obtain⟨rfl,n,rfl⟩:=hxy;simp[zGV,Instr.sameBits]
theorem zZp {t k e:TypeId}{nk:Nat}(ht:P.underlying t=some (.map k e))(hk:zIh P k=some nk){i:TypeInfo}(hi:P.info? e=some i){z:Value}(hz:i.zero=some z){ks:List Int}(hks:ks.length=nk){es:List (List Int×A)}{ents:Array MapEntry}{ck b:Nat}
 (hb:w.heap[b]?=some (.map ents ck))(hr:zAx H L es ents.toList)(hn:∀p∈es,p.1.length=nk)(ok:Bool) :
 ∃v,(Instr.lookup t (.map (some b)) (zCO ks) ok).run P w=.ok v w∧Rel H L (zFY z ok (zAL ks es)) v:=by
 obtain⟨hw,_,_⟩:=zI4 hk;have hzr:(zeroValue e).run P w=.ok z w:=by simp[zeroValue,typeInfo,hi,hz]
 have hg:(getObj b).run P w=.ok (.map ents ck) w:=by simp[getObj,Sem.run,hb]
 rcases zHZ (w:=w) hk hks es ents.toList 0 hr hn with ⟨g1,g2,_,_⟩ | ⟨j,p,en,g1,g2,g3,g4,g5,g6,g7,_,_⟩
 ·refine⟨if ok then .tuple #[z,.bool false] else z,?_,?_⟩
  ·simp only[Instr.lookup,Sem.run_bind,run_underlying ht,Result.andThen_ok,hg,Sem.run_pure,zDB hk hks,run_findKey_eq w hw,g2,hzr]
  ·cases ok
   ·simp only[zFY,g1,Option.getD_none];exact zGl z
   ·simp only[zFY,g1,if_true,Option.getD_none,Option.isSome_none,Rel];exact⟨[z,.bool false],rfl,qR (zGl z) (qR (by simp[Rel]) jZ)⟩
 ·refine⟨if ok then .tuple #[en.val,.bool true] else en.val,?_,?_⟩
  ·simp only[Instr.lookup,Sem.run_bind,run_underlying ht,Result.andThen_ok,hg,Sem.run_pure,zDB hk hks,run_findKey_eq w hw,g7]
  ·cases ok
   ·simp only[zFY,g3,jCq];exact g5
   ·simp only[zFY,g3,if_true,jCq,Option.isSome_some,Rel];exact⟨[en.val,.bool true],rfl,qR g5 (qR (by simp[Rel]) jZ)⟩
theorem zL4 (hs:RelSt H L σ w)(ob:AObj)(o:Obj)(ho:zW H (L++[(⟨some w.heap.size,0,0,false⟩:LI)]) (w.alloc o) ⟨some w.heap.size,0,0,false⟩ ob) :
 Nxt H L w H (L++[(⟨some w.heap.size,0,0,false⟩:LI)]) (σ++[ob]) (w.alloc o):=by
 have hll:=LLe.append L [(⟨some w.heap.size,0,0,false⟩:LI)];refine⟨⟨fun b o v hv=>?_,by simp[hs.len],fun i l o hL hσ=>?_,fun i j l l' b hi hj hb hb'=>?_,fun i l b hL hb=>?_⟩,
  ⟨rfl,rfl,rfl,by simp,fun k hk _=>heap_alloc_old w _ (h:=hk),HLe.refl _,fun b o v hv=>.inl hv,jA _,zEg (fun k hk=>heap_alloc_old w _ (h:=hk))⟩,hll,fun b ⟨i,l,hL,hb⟩=>?_⟩
 ·rw[World.cell?_alloc_lt _ _ _ (hs.h_lt hv)];exact hs.pers b o v hv
 ·rcases jQ hL with hL' | ⟨rfl,rfl⟩
  ·have hi:i<L.length:=(jA4.1 hL').1;rw[jAo (by rw[←hs.len]; exact hi)]at hσ;exact(hs.obj i l o hL' hσ).carry (fun b hb=>heap_alloc_old w _ (h:=hs.lt i l b hL' hb)) (HLe.refl _) hll (fun _ _ _=>rfl)
  ·rw[hs.len]at hσ;rw[jBg (jA _)]at hσ;simp only[jBx,jAx,jA1]at hσ;subst hσ;exact ho
 ·rcases jQ hi with hi' | ⟨rfl,rfl⟩
  ·rcases jQ hj with hj' | ⟨rfl,rfl⟩
   ·exact hs.inj i j l l' b hi' hj' hb hb'
   ·cases hb'; have:=hs.lt i l _ hi' hb; omega
  ·cases hb;rcases jQ hj with hj' | ⟨rfl,rfl⟩
   ·have:=hs.lt j l' _ hj' hb'; omega
   ·rfl
 ·rcases jQ hL with hL' | ⟨rfl,rfl⟩
  ·have:=hs.lt i l b hL' hb; simp; omega
  ·cases hb; simp
 ·rcases jQ hL with hL' | ⟨rfl,rfl⟩
  ·exact .inl ⟨i,l,hL',hb⟩
  ·cases hb; exact .inr (jA _)
theorem zDP (hs:RelSt H L σ w){l b:Nat}{li:LI}{o0 o:Obj}{ob:AObj}(hl:L[l]?=some li)(hb:li.block=some b)(h0:w.heap[b]?=some o0)(hc:∀c e f,o0≠.cells c e f)(hv:∀a t,o0≠.view a t)(hp:∀c e,o0≠.pending c e)(hn:∀a x,o0≠.number a x)(hd:∀d,o0≠.deferred d)
 (ho:zW H L (w.putObj b o) li ob):Nxt H L w H L (σ.set l ob) (w.putObj b o):=by
 have hnone:∀o,H b o=none:=fun o=>by
  cases hH:H b o with
  | none=>rfl
  | some v =>
   have:=hs.pers b o v hH;simp only[World.cell?,h0]at this;cases o0<;>simp_all
 exact zGJ hs hl hb rfl rfl rfl rfl (fun d=>by rw[h0]; exact fun e=>hd d (jB4 e)) (by simp) (fun k hk=>World.putObj_heap_other hk) (HLe.refl _) (fun _ _ _ h=>.inl h) (fun o' v hv=>by rw[hnone]at hv; cases hv) ho
theorem zFy {r:Nat}{es:Array MapEntry}{ck:Nat}(o:Obj)(h:w.heap[r]?=some (.map es ck)):(setObj r o).run P w=.ok () (w.putObj r o):=by simp[setObj,Sem.run,h,World.putObj]
theorem zLr {α : Type}(a:Array α)(j:Nat)(f : α→α)(x : α)(h:a[j]?=some x):a.modify j f=a.setIfInBounds j (f x):=by
 apply jC1;rw[Array.toList_modify,jDp];apply jC9;intro i;rw[List.getElem?_modify,jDr];rw[←jCs]at h;by_cases hi:j=i
 ·subst hi;have:=(jA4.1 h).1;rw[jAy]at this;have hx:a[j]=x:=by rw[jCs,Array.getElem?_eq_getElem this]at h; exact jB4 h
  simp[this,hx,h]
 ·simp[hi]
theorem zAx.setAt:∀{es:List (List Int×A)} {l:List MapEntry} {j:Nat} {e:MapEntry} {ks:List Int} {a:A},zAx H L es l→e.key=zCO ks→Rel H L a e.val→zAx H L (es.set j (ks,a)) (l.set j e)
 | [],l,j,e,ks,a,h,_,_=>by rw[show l=[] from h]; exact rfl
 | p::es,_,0,e,ks,a,⟨e0,l',rfl,h1,h2,h3⟩,hk,hr=>⟨e,l',rfl,hk,hr,h3⟩
 | p::es,_,j+1,e,ks,a,⟨e0,l',rfl,h1,h2,h3⟩,hk,hr=>⟨e0,_,rfl,h1,h2,zAx.setAt h3 hk hr⟩
theorem zAx.snoc:∀{es:List (List Int×A)} {l:List MapEntry} {e:MapEntry} {ks:List Int} {a:A},zAx H L es l→e.key=zCO ks→Rel H L a e.val→zAx H L (es++[(ks,a)]) (l++[e])
 | [],l,e,ks,a,h,hk,hr=>by rw[show l=[] from h]; exact⟨e,[],rfl,hk,hr,rfl⟩
 | p::es,_,e,ks,a,⟨e0,l',rfl,h1,h2,h3⟩,hk,hr=>⟨e0,_,rfl,h1,h2,zAx.snoc h3 hk hr⟩
theorem zAx.eraseAt:∀{es:List (List Int×A)} {l:List MapEntry} {j:Nat},zAx H L es l→zAx H L (es.eraseIdx j) (l.eraseIdx j)
 | [],l,j,h=>by rw[show l=[] from h]; exact rfl
 | p::es,_,0,⟨e0,l',rfl,h1,h2,h3⟩=>by simpa using h3
 | p::es,_,j+1,⟨e0,l',rfl,h1,h2,h3⟩=>⟨e0,_,rfl,h1,h2,zAx.eraseAt h3⟩
theorem zJu {t k e:TypeId}{nk:Nat}(ht:P.underlying t=some (.map k e))(hk:zIh P k=some nk)(hs:RelSt H L σ w){l:Nat}{fr:Bool}{ks:List Int}(hks:ks.length=nk){es:List (List Int×A)}{m v:Value}{x:A}
 (hm:Rel H L (.map l) m)(hσ : σ[l]?=some (.mp fr nk es))(hv:Rel H L x v) :
 ∃w',(Instr.mapUpdate t m (zCO ks) v).run P w=.ok () w'∧Nxt H L w H L (σ.set l (.mp fr nk (zD7 ks x es))) w':=by
 obtain⟨hw,_,_⟩:=zI4 hk;simp only[Rel]at hm;obtain⟨li,b,hL,hb,hrow,rfl⟩:=hm;have hob:=hs.obj l li _ hL hσ;simp only[zW]at hob;obtain⟨_,b',ents,ck,e1,h2,hr,hbn,hn⟩:=hob;rw[hb]at e1;cases e1;have hg:(getObj b).run P w=.ok (.map ents ck) w:=by simp[getObj,Sem.run,h2]
 have hlt:=hs.lt l li b hL hb;have hsame:∀o,(w.putObj b o).heap[b]?=some o:=fun o=>World.putObj_heap_same hlt
 rcases zHZ (w:=w) hk hks es ents.toList 0 hr hn with ⟨g1,g2,g3,_⟩ | ⟨j,p,en,g1,g2,g3,g4,g5,g6,g7,g8,_⟩
 ·refine⟨w.putObj b (.map (ents.push ⟨zCO ks,v,ck⟩) (ck+1)),?_,?_⟩
  ·simp only[Instr.mapUpdate,Sem.run_bind,run_underlying ht,Result.andThen_ok,hg,zDB hk hks,run_findKey_eq w hw,g2,zFy _ h2]
  ·rw[g3];refine zDP hs hL hb h2 (by simp) (by simp) (by simp) (by simp) (by simp) ?_;simp only[zW];refine⟨hrow,b,_,_,hb,hsame _,by rw[Array.toList_push]; exact zAx.snoc hr rfl hv,fun hf=>?_,fun q hq=>?_⟩
   ·obtain⟨c1,c2⟩:=hbn hf;refine⟨by simp[c1],fun i e he=>?_⟩;rw[Array.toList_push]at he;rcases jQ he with he | ⟨rfl,rfl⟩
    ·exact c2 i e he
    ·exact c1
   ·rcases jA8.1 hq with hq | hq
    ·exact hn q hq
    ·simp at hq; rw[hq]; exact hks
 ·have hj:ents[j]?=some en:=by rw[←jCs]; exact g4
  have hmod:ents.modify j (fun e=>{e with key:=zCO ks,val:=v})=ents.setIfInBounds j {en with key:=zCO ks,val:=v}:=zLr ents j _ en hj;refine⟨w.putObj b (.map (ents.setIfInBounds j {en with key:=zCO ks,val:=v}) ck),?_,?_⟩
  ·simp only[Instr.mapUpdate,Sem.run_bind,run_underlying ht,Result.andThen_ok,hg,zDB hk hks,run_findKey_eq w hw,g7,jB0,hj,jBs,jCq,g6,Instr.keyThatStays,zOx,if_true,Sem.run_pure,hmod,zFy _ h2]
  ·rw[g8];refine zDP hs hL hb h2 (by simp) (by simp) (by simp) (by simp) (by simp) ?_;simp only[zW];refine⟨hrow,b,_,_,hb,hsame _,by rw[jDp]; exact zAx.setAt hr rfl hv,fun hf=>?_,fun q hq=>?_⟩
   ·obtain⟨c1,c2⟩:=hbn hf;refine⟨by simp[c1],fun i e he=>?_⟩;rw[jDp,jDr]at he;split at he
    ·rename_i hji;subst hji;split at he
     ·cases he;exact c2 _ en g4
     ·cases he
    ·exact c2 i e he
   ·rcases List.mem_or_eq_of_mem_set hq with hq | rfl
    ·exact hn q hq
    ·exact hks
theorem qDo {t k e:TypeId}{nk:Nat}(ht:P.underlying t=some (.map k e))(hk:zIh P k=some nk)(hs:RelSt H L σ w){l:Nat}{fr:Bool}{ks:List Int}(hks:ks.length=nk){es:List (List Int×A)}{m:Value}
 (hm:Rel H L (.map l) m)(hσ : σ[l]?=some (.mp fr nk es))(ats:Array TypeId)(hat:ats[0]?=some t)(ty:TypeId) :
 ∃w',(Builtin.delete_ ats ty #[m,zCO ks]).run P w=.ok (.tuple #[]) w'∧Nxt H L w H L (σ.set l (.mp false nk (zII ks es))) w':=by
 obtain⟨hw,_,_⟩:=zI4 hk;simp only[Rel]at hm;obtain⟨li,b,hL,hb,hrow,rfl⟩:=hm;have hob:=hs.obj l li _ hL hσ;simp only[zW]at hob;obtain⟨_,b',ents,ck,e1,h2,hr,hbn,hn⟩:=hob;rw[hb]at e1;cases e1;have hg:(getObj b).run P w=.ok (.map ents ck) w:=by simp[getObj,Sem.run,h2]
 have hlt:=hs.lt l li b hL hb;have hsame:∀o,(w.putObj b o).heap[b]?=some o:=fun o=>World.putObj_heap_same hlt
 rcases zHZ (w:=w) hk hks es ents.toList 0 hr hn with ⟨g1,g2,_,g4⟩ | ⟨j,p,en,g1,g2,g3,g4,g5,g6,g7,_,g9⟩
 ·refine⟨w.putObj b (.map ents ck),?_,?_⟩
  ·simp only[Builtin.delete_,hat,List.getElem?_toArray,jAx,jB5,Sem.run_bind,run_underlying ht,Result.andThen_ok,hg,zDB hk hks,run_findKey_eq w hw,g2,zFy _ h2];rfl
  ·rw[g4];refine zDP hs hL hb h2 (by simp) (by simp) (by simp) (by simp) (by simp) ?_;simp only[zW];exact⟨hrow,b,_,_,hb,hsame _,hr,fun hf=>(by cases hf),hn⟩
 ·refine⟨w.putObj b (.map (ents.eraseIdxIfInBounds j) ck),?_,?_⟩
  ·simp only[Builtin.delete_,hat,List.getElem?_toArray,jAx,jB5,Sem.run_bind,run_underlying ht,Result.andThen_ok,hg,zDB hk hks,run_findKey_eq w hw,g7,jB0,zFy _ h2];rfl
  ·rw[g9];refine zDP hs hL hb h2 (by simp) (by simp) (by simp) (by simp) (by simp) ?_;simp only[zW];have hsub:(ents.eraseIdxIfInBounds j).toList=ents.toList.eraseIdx j:=by
    unfold Array.eraseIdxIfInBounds;split
    ·simp
    ·rw[List.eraseIdx_of_length_le (by simp; omega)]
   exact⟨hrow,b,_,_,hb,hsame _,by rw[hsub]; exact zAx.eraseAt hr,fun hf=>(by cases hf),fun q hq=>hn q (List.mem_of_mem_eraseIdx hq)⟩
theorem qKf (hs:RelSt H L σ w)(nk:Nat):Nxt H L w H (L++[(⟨some w.heap.size,0,0,false⟩:LI)]) (σ++[AObj.mp true nk []]) (w.alloc (.map #[] 0)):=by refine zL4 hs _ _ ?_;simp only[zW];exact⟨trivial,w.heap.size,#[],0,rfl,heap_alloc_new w _,rfl,fun _=>⟨rfl,fun i e he=>by simp at he⟩,by simp⟩
theorem qEp {t k e:TypeId}(ht:P.underlying t=some (.map k e))(hs:RelSt H L σ w){l nk:Nat}{es:List (List Int×A)}{m:Value}(hm:Rel H L (.map l) m)(hσ : σ[l]?=some (.mp true nk es)) :
 ∃w',(Instr.range t m).run P w=.ok (.pointer (some ⟨w.heap.size,0,none⟩)) w'∧Nxt H L w H (L++[(⟨some w.heap.size,0,0,false⟩:LI)]) (σ++[AObj.it l es.length []]) w':=by
 simp only[Rel]at hm;obtain⟨li,b,hL,hb,hrow,rfl⟩:=hm;have hob:=hs.obj l li _ hL hσ;simp only[zW]at hob;obtain⟨_,b',ents,ck,e1,h2,hr,hbn,hn⟩:=hob;rw[hb]at e1;cases e1;obtain⟨c1,c2⟩:=hbn rfl;have hck:ck=es.length:=by rw[c1,hr.length]
 refine⟨w.alloc (.mapIter (some b) ck #[] ck),?_,?_⟩
 ·have hg:(getObj b).run P w=.ok (.map ents ck) w:=by simp[getObj,Sem.run,h2]
  simp only[Instr.range,Sem.run_bind,run_underlying ht,Result.andThen_ok,hg,Sem.run_pure,run_newObj];rfl
 ·refine zL4 hs _ _ ?_;simp only[zW];refine⟨trivial,w.heap.size,b,li,rfl,?_,hb,hrow,?_⟩
  ·rw[jAo (jA4.1 hL).1]; exact hL
  ·rw[heap_alloc_new,hck]
theorem zP2 {ents:Array MapEntry}{met:List Nat}{e:MapEntry}:e∈(leftOf ents met.toArray).toList↔e∈ents.toList∧e.born∉met:=by unfold leftOf;simp
theorem zPM (hs:RelSt H L σ w):Nxt H L w H L σ w.drew :=
 ⟨hs.heap_eq rfl,⟨rfl,rfl,rfl,jA _,fun _ _ _=>rfl,HLe.refl _,fun _ _ _ h=>.inl h,jCk _,fun _ _ h=>h⟩,LLe.refl _,fun _ h=>.inl h⟩
theorem zZ9 (ty:TypeId)(hs:RelSt H L σ w){j l nk n:Nat}{met:List Nat}{es:List (List Int×A)}{it:Value}(hi:Rel H L (.ptr j 0) it)(hσ : σ[j]?=some (.it l n met))(hσl : σ[l]?=some (.mp true nk es))(hnn:n=es.length) :
 ((∀i,i<n→i∈met)∧(Instr.next it false ty).run P w=.ok (.tuple #[.bool false]) w) ∨
 ∃(i:Nat) (p:List Int×A) (v:Value) (w':World),i∉met∧es[i]?=some p∧(Instr.next it false ty).run P w=.ok (.tuple #[.bool true,zCO p.1,v]) w'∧Rel H L p.2 v∧Nxt H L w H L (σ.set j (.it l n (met++[i]))) w':=by
 simp only[Rel]at hi;obtain⟨li,b,hL,hb,hrow,rfl⟩:=hi;have hob:=hs.obj j li _ hL hσ;simp only[zW]at hob;obtain⟨_,b',mb,lm,e1,e2,e3,e4,hit⟩:=hob;rw[hb]at e1;cases e1;have hom:=hs.obj l lm _ e2 hσl;simp only[zW]at hom;obtain⟨_,mb',ents,ck,g1,g2,hr,hbn,hn⟩:=hom;rw[e3]at g1;cases g1;obtain⟨c1,c2⟩:=hbn rfl;have hck:ck=n:=by rw[c1,hr.length,hnn]
 have hborn:∀x∈ents.toList,x.born<n:=fun x hx=>by obtain⟨i,hi,rfl⟩:=List.mem_iff_getElem.1 hx;have:=c2 i _ (jA2 hi);rw[this,←hck,c1];exact hi
 rcases run_next_at (P:=P) w ty b mb n n met.toArray ents ck hit g2 hborn (jA _)with ⟨k1,k2⟩ | ⟨e,he,w1,k1,k2⟩
 ·refine .inl ⟨fun i hi=>?_,k2⟩;have hie:i<ents.toList.length:=by rw[hr.length]; omega
  have hbi:=c2 i _ (jA2 hie);by_cases hmi:i∈met
  ·exact hmi
  ·have:ents.toList[i]∈(leftOf ents met.toArray).toList:=zP2.2 ⟨jA0 hie,by rw[hbi]; exact hmi⟩;have h0:leftOf ents met.toArray = #[]:=Array.eq_empty_of_size_eq_zero k1;rw[h0]at this;simp at this
 ·obtain⟨he1,he2⟩:=zP2.1 he;obtain⟨i,hi,rfl⟩:=List.mem_iff_getElem.1 he1;have hbi:=c2 i _ (jA2 hi);have hie:i<es.length:=by rw[←hr.length]; exact hi
  obtain⟨e',q1,q2,q3⟩:=hr.get (jA2 hie);rw[jA2 hi]at q1;cases q1;refine .inr ⟨i,es[i],_,_,by rw[←hbi]; exact he2,jA2 hie,by rw[←q2]; exact k2,q3,?_⟩;have hnx1:Nxt H L w H L σ w1:=by
   rcases k1 with rfl | rfl
   ·exact Nxt.refl hs
   ·exact zPM hs
  have hh:w1.heap=w.heap:=by rcases k1 with rfl | rfl<;>rfl
  have hit1:w1.heap[b]?=some (.mapIter (some mb) n met.toArray n):=by rw[hh]; exact hit
  have hlt:b<w1.heap.size:=by rw[hh]; exact hs.lt j li b hL hb
  refine hnx1.trans ?_;refine zDP hnx1.st hL hb hit1 (by simp) (by simp) (by simp) (by simp) (by simp) ?_;simp only[zW];refine⟨hrow,b,mb,lm,hb,e2,e3,e4,?_⟩;rw[World.putObj_heap_same hlt,hbi,hck];simp
theorem qDs (hs:RelSt H L σ w){j l nk n i:Nat}{met:List Nat}{es:List (List Int×A)}{it:Value}(hi:Rel H L (.ptr j 0) it)(hσ : σ[j]?=some (.it l n met))(hσl : σ[l]?=some (.mp true nk es))(hnn:n=es.length)(hmet:met.getLast?=some i){p:List Int×A}(hp:es[i]?=some p) :
 ∃v,(Instr.entry it).run P w=.ok (.tuple #[zCO p.1,v]) w∧Rel H L p.2 v:=by
 simp only[Rel]at hi;obtain⟨li,b,hL,hb,hrow,rfl⟩:=hi;have hob:=hs.obj j li _ hL hσ;simp only[zW]at hob;obtain⟨_,b',mb,lm,e1,e2,e3,e4,hit⟩:=hob;rw[hb]at e1;cases e1;have hom:=hs.obj l lm _ e2 hσl;simp only[zW]at hom;obtain⟨_,mb',ents,ck,g1,g2,hr,hbn,hn⟩:=hom;rw[e3]at g1;cases g1;obtain⟨c1,c2⟩:=hbn rfl;have hck:ck=n:=by rw[c1,hr.length,hnn]
 obtain⟨e,q1,q2,q3⟩:=hr.get hp;have hbi:=c2 i e q1;obtain⟨ini,hini⟩:∃ini,met=ini++[i]:=by rw[List.getLast?_eq_some_iff]at hmet;exact hmet
 have hnod:(ents.toList.map (·.born)).Nodup:=by rw[jDx,jCd];intro x y hx hy hxy;simp only[jAa]at hx hy;simp only[jAr,c2 x _ (jA2 hx),c2 y _ (jA2 hy)];omega
 refine⟨e.val,?_,q3⟩;rw[←q2];refine run_entry_at w b mb n ini.toArray ents ck e ?_ g2 (jBt q1) hnod;rw[hit,hini,hbi,hck];simp
end
end Go.Abs
namespace Go.Abs
section
variable {P:Program}{H:Mem}{L:List LI} {σ : St}{w:World}{N:Nat}{env:Env}{a:Act}
def zDk:KOp→Bool
 | .alloc .. | .box .. | .bslice .. | .brow .. | .st .. | .app .. | .call .. | .mop .. | .alr .. | .rslc .. | .isz .. | .pan ..=>false
 | _=>true
inductive From (P:Program)(o:Oper):KOp→Prop
 | alloc (e:TypeId) (i:TypeInfo) (z:Value) (ho:o.op=.alloc e) (hi:P.info? e=some i) (hz:i.zero=some z) (hok:zAo z.cells.toList=true):From P o (.alloc o.dst z.cells.toList)
 | box (e:TypeId) (x:Operand) (ho:o.op=.box e x):From P o (.box o.dst x)
 | bslice (t e:TypeId) (n:Nat) (parts:Array (Nat×Operand)) (j:TypeInfo) (z:Value) (ps:List (Nat×Nat×Operand)) (ho:o.op=.buildSlice t n parts) (hu:P.underlying t=some (.slice e)) (hj:P.info? e=some j) (hz:j.zero=some z)
  (hn:n*j.size≤4096) (h0:0<j.size) (hok:zAo z.cells.toList=true) (hzs:z.cells.size=j.size) (hps:zD6 (fun i=>some (i*j.size,j.size)) parts.toList=some ps):From P o (.bslice o.dst e j.size n ((List.replicate n z.cells.toList).flatten) ps)
 | st (t:TypeId) (x v:Operand) (i:TypeInfo) (ho:o.op=.store t x v) (hi:P.info? t=some i):From P o (.st o.dst x v i.size)
 | app (c:Call) (t e:TypeId) (x y:Operand) (j:TypeInfo) (z:Value) (ho:o.op=.call c) (hc:c.callee=.builtin .append) (ha:c.args.toList=[x,y]) (ht:c.argTypes.toList=[t,t]) (hu:P.underlying t=some (.slice e)) (hj:P.info? e=some j)
  (hz:j.zero=some z) (hok:zAo z.cells.toList=true) (hzs:z.cells.size=j.size) (h0:0<j.size):From P o (.app o.dst e j.size j.bytes x y)
 | call (c:Call) (f:Operand) (ho:o.op=.call c) (hc:c.callee=.value f):From P o (.call o.dst f c.args.toList)
 | mmk (t k e:TypeId) (nk:Nat) (ho:o.op=.makeMap t none) (ht:P.underlying t=some (.map k e)) (hk:zIh P k=some nk):From P o (.mop o.dst (.mk nk) [])
 | mget (t k e:TypeId) (x y:Operand) (ok:Bool) (nk:Nat) (j:TypeInfo) (z:Value) (ho:o.op=.lookup t x y ok) (ht:P.underlying t=some (.map k e)) (hk:zIh P k=some nk) (hj:P.info? e=some j) (hz:j.zero=some z):From P o (.mop o.dst (.get nk z ok) [x,y])
 | mset (t k e:TypeId) (x y v:Operand) (nk:Nat) (ho:o.op=.mapUpdate t x y v) (ht:P.underlying t=some (.map k e)) (hk:zIh P k=some nk):From P o (.mop o.dst (.set nk) [x,y,v])
 | mdel (c:Call) (t k e:TypeId) (x y:Operand) (nk:Nat) (ho:o.op=.call c) (hc:c.callee=.builtin .delete) (ha:c.args.toList=[x,y]) (hat:c.argTypes[0]?=some t) (ht:P.underlying t=some (.map k e)) (hk:zIh P k=some nk):From P o (.mop o.dst (.del nk) [x,y])
 | mrng (t k e:TypeId) (x:Operand) (ho:o.op=.range t x) (ht:P.underlying t=some (.map k e)):From P o (.mop o.dst .rng [x])
 | mnxt (x:Operand) (ho:o.op=.next x false):From P o (.mop o.dst .nxt [x])
 | ment (x:Operand) (ho:o.op=.entry x):From P o (.mop o.dst .ent [x])
 | mclr (c:Call) (t e:TypeId) (x:Operand) (j:TypeInfo) (z:Value) (ho:o.op=.call c) (hc:c.callee=.builtin .clear) (ha:c.args.toList=[x]) (hat:c.argTypes[0]?=some t) (hu:P.underlying t=some (.slice e)) (hj:P.info? e=some j)
  (hz:j.zero=some z) (hok:zAo z.cells.toList=true) (hzs:z.cells.size=j.size) (h0:0<j.size):From P o (.mop o.dst (.clr j.size z.cells.toList) [x])
 | mmks (t e:TypeId) (x y:Operand) (j:TypeInfo) (z:Value) (ho:o.op=.makeSlice t x y) (hu:P.underlying t=some (.slice e)) (hj:P.info? e=some j)
  (hz:j.zero=some z) (hok:zAo z.cells.toList=true) (hzs:z.cells.size=j.size) (h0:0<j.size):From P o (.mop o.dst (.mks e j.size j.bytes z.cells.toList) [x,y])
 | mcvt (s d:TypeId) (x:Operand) (k:IntKind) (ho:o.op=.convert s d x) (hs:(P.underlying s).isSome=true) (hd:P.underlying d=some (.int k)):From P o (.mop o.dst (.cvt k) [x])
 | mstr (s d e:TypeId) (x:Operand) (ho:o.op=.convert s d x) (hs:P.underlying s=some (.slice e)) (he:P.underlying e=some (.int .u8)) (hd:P.underlying d=some .string):From P o (.mop o.dst .str [x])
 | pan (x:Operand) (ho:o.op=.panic x):From P o (.pan o.dst x)
 | pure (k:KOp) (hk:zDk k=true) (hd:k.dst=o.dst):From P o k
theorem zLo {t:TypeId}{nk:Nat}(h:zXi P t=some nk):∃k e,P.underlying t=some (.map k e)∧zIh P k=some nk:=by
 unfold zXi at h;split at h<;>try (cases h; done)
 rename_i k e hu;exact⟨k,e,hu,h⟩
theorem zA6 {o:Oper}{k:KOp}(hc:zA0 P o=some k):From P o k:=by
 unfold zA0 at hc;split at hc
 case h_1 x heq=>cases hc; exact .pure _ rfl rfl
 case h_2 x heq=>cases hc; exact .pure _ rfl rfl
 case h_3 c x y heq=>cases hc; exact .pure _ rfl rfl
 case h_4 e heq =>
  simp only[jAb,jA7]at hc;obtain⟨i,hi,z,hz,hc⟩:=hc;split at hc
  ·rename_i hok; cases hc; exact .alloc e i z heq hi hz hok
  ·cases hc
 case h_5 e x heq=>cases hc; exact .box e x heq
 case h_6 t x heq =>
  simp only[jAb,jA7,jA1]at hc;obtain⟨u,hu,i,hi,rfl⟩:=hc;exact .pure _ rfl rfl
 case h_7 t x y heq =>
  simp only[jAb,jA7,jA1]at hc;obtain⟨i,hi,rfl⟩:=hc;exact .st t x y i heq hi
 case h_8 s x f heq =>
  split at hc<;>try (cases hc; done)
  simp only[jAb,jA7]at hc;obtain⟨g,hg,i,hi,hc⟩:=hc;split at hc<;>try (cases hc; done)
  cases hc;exact .pure _ rfl rfl
 case h_9 t x i heq =>
  split at hc<;>try (cases hc; done)
  all_goals
   simp only[jAb,jA7,jA1]at hc;obtain⟨ti,hi,rfl⟩:=hc;exact .pure _ rfl rfl
 case h_10 t x f heq =>
  split at hc<;>try (cases hc; done)
  simp only[jAb,jA7,jA1]at hc;obtain⟨g,hg,u,hu,i,hi,rfl⟩:=hc;exact .pure _ rfl rfl
 case h_11 t x i heq =>
  split at hc<;>try (cases hc; done)
  simp only[jAb,jA7,jA1]at hc;obtain⟨u,hu,j,hj,rfl⟩:=hc;exact .pure _ rfl rfl
 case h_12 op t x y t' heq =>
  split at hc<;>try (cases hc; done)
  all_goals try (cases hc; exact .pure _ rfl rfl)
  all_goals
   split at hc
   ·cases hc; exact .pure _ rfl rfl
   ·split at hc
    ·cases hc; exact .pure _ rfl rfl
    ·rcases zG7 hc with ⟨hn,rfl⟩ | ⟨ks,hk,rfl⟩<;>exact .pure _ rfl rfl
 case h_13 op t x heq =>
  split at hc<;>try (cases hc; done)
  all_goals (cases hc; exact .pure _ rfl rfl)
 case h_14 t i heq=>cases hc; exact .pure _ rfl rfl
 case h_15 f first cap heq=>cases hc; exact .pure _ rfl rfl
 case h_16 t x lo hi mx heq =>
  split at hc<;>try (cases hc; done)
  simp only[jAb,jA7,jA1]at hc;obtain⟨i,hi,rfl⟩:=hc;exact .pure _ rfl rfl
 case h_17 t parts heq =>
  split at hc<;>try (cases hc; done)
  ·simp only[jAb,jA7]at hc;obtain⟨i,hi,z,hz,hc⟩:=hc;split at hc<;>try (cases hc; done)
   simp only[jA7,jA1]at hc;obtain⟨ps,hps,rfl⟩:=hc;exact .pure _ rfl rfl
  ·simp only[jAb,jA7]at hc;obtain⟨i,hi,z,hz,j,hj,hc⟩:=hc;split at hc<;>try (cases hc; done)
   simp only[jA7,jA1]at hc;obtain⟨ps,hps,rfl⟩:=hc;exact .pure _ rfl rfl
 case h_18 t len parts heq =>
  split at hc<;>try (cases hc; done)
  rename_i e hu;simp only[jAb,jA7]at hc;obtain⟨j,hj,z,hz,hc⟩:=hc;split at hc<;>try (cases hc; done)
  rename_i hb;simp only[jA6,decide_eq_true_eq,beq_iff_eq]at hb;simp only[jA7,jA1]at hc;obtain⟨ps,hps,rfl⟩:=hc;exact .bslice t e len parts j z ps heq hu hj hz hb.1.1.1 hb.1.1.2 hb.1.2 hb.2 hps
 case h_19 c heq =>
  split at hc
  ·rename_i f hcal;split at hc
   ·split at hc
    ·cases hc; exact .call c _ heq hcal
    ·cases hc
   ·cases hc; exact .call c _ heq hcal
   ·cases hc
  ·split at hc<;>try (cases hc; done)
   split at hc<;>try (cases hc; done)
   all_goals (cases hc; exact .pure _ rfl rfl)
  ·rename_i hcal;split at hc<;>try (cases hc; done)
   rename_i x y t ha ht;simp only[jAe]at hc;obtain⟨nk,hnk,rfl⟩:=hc;obtain⟨k,e,hu,hk⟩:=zLo hnk;exact .mdel c t k e x y nk heq hcal ha ht hu hk
  ·rename_i hcal;split at hc<;>try (cases hc; done)
   rename_i x t ha ht;split at hc<;>try (cases hc; done)
   rename_i e hu;simp only[jAb,jA7]at hc;obtain⟨j,hj,z,hz,hc⟩:=hc;split at hc<;>try (cases hc; done)
   rename_i hb;simp only[jA6,decide_eq_true_eq,beq_iff_eq]at hb;cases hc;exact .mclr c t e x j z heq hcal ha ht hu hj hz hb.1.1 hb.1.2 hb.2
  ·cases hc; exact .pure _ rfl rfl
  ·cases hc; exact .pure _ rfl rfl
  ·rename_i hcal;split at hc<;>try (cases hc; done)
   rename_i x y t t' ha ht;split at hc<;>try (cases hc; done)
   rename_i htt;subst htt;split at hc<;>try (cases hc; done)
   rename_i e hu;simp only[jAb,jA7]at hc;obtain⟨j,hj,z,hz,hc⟩:=hc;split at hc<;>try (cases hc; done)
   rename_i hb;simp only[jA6,decide_eq_true_eq,beq_iff_eq]at hb;cases hc;exact .app c t e x y j z heq hcal ha ht hu hj hz hb.1.1 hb.1.2 hb.2
  ·cases hc
 case h_20 x heq=>cases hc; exact .pure _ rfl rfl
 case h_21 t heq =>
  simp only[jAe]at hc;obtain⟨nk,hnk,rfl⟩:=hc;obtain⟨k,e,hu,hk⟩:=zLo hnk;exact .mmk t k e nk heq hu hk
 case h_22 t x y ok heq =>
  split at hc<;>try (cases hc; done)
  rename_i k e hu;simp only[jAb,jA7,jA1]at hc;obtain⟨nk,hk,j,hj,z,hz,rfl⟩:=hc;exact .mget t k e x y ok nk j z heq hu hk hj hz
 case h_23 t m k v heq =>
  simp only[jAe]at hc;obtain⟨nk,hnk,rfl⟩:=hc;obtain⟨k',e,hu,hk⟩:=zLo hnk;exact .mset t k' e m k v nk heq hu hk
 case h_24 t x heq =>
  split at hc<;>try (cases hc; done)
  rename_i k e hu;cases hc;exact .mrng t k e x heq hu
 case h_25 x heq=>cases hc; exact .mnxt x heq
 case h_26 x heq=>cases hc; exact .ment x heq
 case h_27 t x heq =>
  split at hc<;>try (cases hc; done)
  split at hc<;>try (cases hc; done)
  cases hc;exact .pure _ rfl rfl
 case h_28 x heq=>cases hc; exact .pan x heq
 case h_29 t x y heq =>
  split at hc<;>try (cases hc; done)
  rename_i e hu;simp only[jAb,jA7]at hc;obtain⟨j,hj,z,hz,hc⟩:=hc;split at hc<;>try (cases hc; done)
  rename_i hb;simp only[jA6,decide_eq_true_eq,beq_iff_eq]at hb;cases hc;exact .mmks t e x y j z heq hu hj hz hb.1.1 hb.1.2 hb.2
 case h_30 s d x heq =>
  split at hc<;>try (cases hc; done)
  ·rename_i k hd;split at hc<;>try (cases hc; done)
   rename_i hs;cases hc;exact .mcvt s d x k heq hs hd
  ·rename_i hd;split at hc<;>try (cases hc; done)
   rename_i e hs;split at hc<;>try (cases hc; done)
   rename_i he;cases hc;exact .mstr s d e x heq hs he hd
 case h_31=>cases hc
theorem zMy {o:Oper}{d:Option Nat}{x:Operand}{sz:Nat}{lo hi mx:Option Operand}(hc:zA0 P o=some (.slc d x sz lo hi mx)) :
 ∃t e i,o.op=.slice t x lo hi mx∧P.underlying t=some (.slice e)∧P.info? e=some i∧i.size=sz∧o.dst=d:=by
 generalize hkk:KOp.slc d x sz lo hi mx=kk at hc;unfold zA0 at hc;split at hc
 case h_16 t x' lo' hi' mx' heq =>
  split at hc<;>try (cases hc; done)
  rename_i e hu;simp only[jAb,jA7,jA1]at hc;obtain⟨i,hi0,rfl⟩:=hc;cases hkk;exact⟨t,e,i,heq,hu,hi0,rfl,rfl⟩
 all_goals
  exfalso
  revert hc
  subst hkk;intro hc
  repeat' (first | (cases hc; done) | (rcases zG7 hc with ⟨_,h⟩ | ⟨_,_,h⟩<;>cases h; done) | (simp only[jAb,jA7,jAe,jA1,reduceCtorEq,and_false,exists_false,exists_const]at hc; done) | (simp only[jAb,jA7]at hc; obtain⟨_,_,hc⟩:=hc) | (obtain⟨_,_,hc⟩:=hc) | (split at hc))
theorem zMx {o:Oper}{d:Option Nat}{ng:Bool}{x:Operand}(hc:zA0 P o=some (.isn d ng x)) :
 ∃t y t',o.op=.binOp (if ng then .neq else .eql) t x y t'∧zLw P t y=true∧o.dst=d:=by
 generalize hkk:KOp.isn d ng x=kk at hc;unfold zA0 at hc;split at hc
 case h_12 op t x' y t' heq =>
  split at hc<;>try first | (cases hc; cases hkk; done) | (cases hc; done)
  ·split at hc
   ·cases hc; cases hkk
   ·split at hc
    ·rename_i hn;cases hc;cases hkk;exact⟨t,y,t',heq,hn,rfl⟩
    ·rcases zG7 hc with ⟨hn,rfl⟩ | ⟨ks,hk,rfl⟩<;>cases hkk
  ·split at hc
   ·cases hc; cases hkk
   ·split at hc
    ·rename_i hn;cases hc;cases hkk;exact⟨t,y,t',heq,hn,rfl⟩
    ·rcases zG7 hc with ⟨hn,rfl⟩ | ⟨ks,hk,rfl⟩<;>cases hkk
 all_goals
  exfalso
  revert hc
  subst hkk;intro hc
  repeat' (first | (cases hc; done) | (simp only[jAb,jA7,jAe,jA1,reduceCtorEq,and_false,exists_false,exists_const]at hc; done) | (simp only[jAb,jA7]at hc; obtain⟨_,_,hc⟩:=hc) | (obtain⟨_,_,hc⟩:=hc) | (split at hc))
theorem zA5 {o:Oper}{k:KOp}(hc:zA0 P o=some k):k.dst=o.dst:=by cases zA6 hc<;>first | rfl | assumption
theorem zDQ (zs:List Value)(s:Nat)(hz:zs.length=s)(hs:0<s):∀n:Nat,(List.range (n*s)).map (fun i=>zs.toArray[i % zs.toArray.size]!)=(List.replicate n zs).flatten
 | 0=>by simp
 | n+1=>by
  rw[jBk,Nat.one_mul,List.range_add,jB1,zDQ zs s hz hs n,jCv,List.replicate_succ',jCi]
  congr 1
  simp only[List.flatten_cons,List.flatten_nil,jAz];apply jC9;intro i;simp only[jBd,jCa,hz];rcases jB2 i s with hi | hi
  ·rw[List.getElem?_range hi];simp only[jBs,Function.comp];rw[Nat.mul_comm n s,Nat.mul_add_mod,Nat.mod_eq_of_lt hi];have hi':i<zs.length:=by omega
   simp[hi']
  ·rw[jBj (by simpa using hi),jBj (by omega)];rfl
theorem zL5 (hs:RelSt H L σ w){cs:List A}{us:List Value}(e:TypeId){n sz:Nat}(hn:n≤maxLen)(hl:cs.length=n*sz)(hr:zY H L cs us)(h1:∀u∈us,one u) :
 Nxt H L w H (L++[(⟨some w.heap.size,n,n,true⟩:LI)]) (σ++[AObj.row false e sz n cs]) (w.alloc (.cells us.toArray e)):=by
 have hll:=LLe.append L [(⟨some w.heap.size,n,n,true⟩:LI)];refine⟨⟨fun b o v hv=>?_,by simp[hs.len],fun i l o hL hσ=>?_,fun i j l l' b hi hj hb hb'=>?_,fun i l b hL hb=>?_⟩,
  ⟨rfl,rfl,rfl,by simp,fun k hk _=>heap_alloc_old w _ (h:=hk),HLe.refl _,fun b o v hv=>.inl hv,jA _,zEg (fun k hk=>heap_alloc_old w _ (h:=hk))⟩,hll,fun b ⟨i,l,hL,hb⟩=>?_⟩
 ·rw[World.cell?_alloc_lt _ _ _ (hs.h_lt hv)];exact hs.pers b o v hv
 ·rcases jQ hL with hL' | ⟨rfl,rfl⟩
  ·have hi:i<L.length:=(jA4.1 hL').1;rw[jAo (by rw[←hs.len]; exact hi)]at hσ;exact(hs.obj i l o hL' hσ).carry (fun b hb=>heap_alloc_old w _ (h:=hs.lt i l b hL' hb)) (HLe.refl _) hll (fun _ _ _=>rfl)
  ·rw[hs.len]at hσ;rw[jBg (jA _)]at hσ;simp only[jBx,jAx,jA1]at hσ;subst hσ;have hlen:=hr.length;have htk:(us.toArray.toList.take (n*sz))=us:=by rw[jAk (by simp; omega)]
   simp only[zW];refine⟨trivial,trivial,hl,.inr ⟨w.heap.size,us.toArray,rfl,heap_alloc_new w _,jA _,hn,by simp; omega,?_,?_,fun o=>?_⟩⟩
   ·rw[htk]; exact zY.mono (HLe.refl _) hll _ hr
   ·rw[htk]; exact h1
   ·cases hH:H w.heap.size o with
    | none=>rfl
    | some v=>have:=hs.h_lt hH; omega
 ·rcases jQ hi with hi' | ⟨rfl,rfl⟩
  ·rcases jQ hj with hj' | ⟨rfl,rfl⟩
   ·exact hs.inj i j l l' b hi' hj' hb hb'
   ·cases hb'; have:=hs.lt i l _ hi' hb; omega
  ·cases hb;rcases jQ hj with hj' | ⟨rfl,rfl⟩
   ·have:=hs.lt j l' _ hj' hb'; omega
   ·rfl
 ·rcases jQ hL with hL' | ⟨rfl,rfl⟩
  ·have:=hs.lt i l b hL' hb; simp; omega
  ·cases hb; simp
 ·rcases jQ hL with hL' | ⟨rfl,rfl⟩
  ·exact .inl ⟨i,l,hL',hb⟩
  ·cases hb; exact .inr (jA _)
theorem zNr:∀{cs:List A} {xs:List Int},zGd cs=some xs→∀{i:Nat},i<xs.length→cs[i]?=some (.lit (.int .u8 (xs.getD i 0)))
 | [],xs,h,i,hi=>by simp[zGd]at h; subst h; simp at hi
 | c::cs,xs,h,i,hi=>by
  unfold zGd at h;split at h
  ·rename_i heq; cases heq
  ·rename_i n l heq;cases heq;rw[jAe]at h;obtain⟨ys,h1,rfl⟩:=h;cases i with
   | zero=>simp
   | succ i=>simpa using zNr h1 (i:=i) (by simpa using hi)
  ·cases h
theorem zR8 {n:Nat}{cs:List A}{v:Value}(h:Rel H L (.fsl n cs) v):Rel H L (.sl n cs) v:=by simp only[Rel]at h⊢;obtain⟨ad,hv,h1,h2⟩:=h;exact⟨ad,n,hv,jA _,h1,h2⟩
theorem qDk {t e e' ty:TypeId}{j:TypeInfo}{z:Value}(hu:P.underlying t=some (.slice e))(hj:P.info? e=some j)(hz:j.zero=some z)(hok:zAo z.cells.toList=true)(hzs:z.cells.size=j.size)(h0:0<j.size)
 (hs:RelSt H L σ w){x:Value}{l n o k c m:Nat}{cs:List A}(hx:Rel H L (.win l n o k c) x)(hσ : σ[l]?=some (.row false e' j.size m cs))(hn:n=m)(hle:o+k*j.size≤cs.length) :
 ∃w',(Builtin.clear_ #[t] ty #[x]).run P w=.ok (.tuple #[]) w' ∧
  Nxt H L w H L (σ.set l (.row false e' j.size n (cs.take o++(List.replicate k (z.cells.toList.map jJ)).flatten++cs.drop (o+k*j.size)))) w':=by
 simp only[Rel]at hx;obtain⟨_,li,e1,e2,e3,hv⟩:=hx;have hob:=hs.obj l li _ e1 hσ;simp only[zW]at hob;obtain⟨_,hln,hcl,hob⟩:=hob;subst hn;obtain⟨g0,ad,cap,rfl,g1,g2,g3⟩:=hv hln.symm;by_cases hk:k=0
 ·subst hk;refine⟨w,?_,?_⟩
  ·cases ad<;>simp[Builtin.clear_,run_underlying hu]
  ·have hcs:cs.take o++(List.replicate 0 (z.cells.toList.map jJ)).flatten++cs.drop (o+0*j.size)=cs:=by simp
   rw[hcs];have hset : σ.set l (.row false e' j.size n cs) = σ:=by
    apply jC9;intro i;by_cases hi:i=l
    ·subst hi; rw[jAq (jA4.1 hσ).1,hσ]
    ·rw[jAf (Ne.symm hi)]
   rw[hset];exact Nxt.refl hs
 ·rcases g3 with g3 | ⟨b,hb,rfl⟩
  ·exact(hk g3).elim
  rcases hob with ⟨h0',_⟩ | ⟨b',cur,hb',hh,k1,k2,k3,k4,k5,k6⟩
  ·rw[hb]at h0'; cases h0'
  ·rw[hb]at hb';cases hb';have hzl:z.cells.toList.length=j.size:=by rw[jAy,hzs]
   have hrf:=zDQ z.cells.toList j.size hzl h0 k;simp only[jDg]at hrf;let us:List Value:=(List.replicate k z.cells.toList).flatten;have hus:(Builtin.zeroCells z.cells k).toList=us:=by simp only[Builtin.zeroCells,us,←hrf,hzs];simp
   have husl:us.length=k*j.size:=by simp[us,hzl]
   have hone:∀u∈us,one u:=fun u hu=>by simp only[us,jDs,jDt]at hu;obtain⟨l,⟨_,rfl⟩,hu⟩:=hu;exact jB.1 hok u hu
   have hmc:n*j.size≤cur.size:=by rw[k3]; exact jBl _ k1
   have hcs:o+us.length≤cur.size:=by rw[husl]; omega
   have hst:=run_storeCells_at P b o e' us 0 cur w hh (by simpa using hcs) hone;have hrel:zY H L ((List.replicate k (z.cells.toList.map jJ)).flatten) us:=by
    have:∀k:Nat,zY H L ((List.replicate k (z.cells.toList.map jJ)).flatten) ((List.replicate k z.cells.toList).flatten):=fun k=>by
     induction k with
     | zero=>simpa using jZ
     | succ k ih=>simpa only[List.replicate_succ,List.flatten_cons] using (zBb z.cells.toList).append ih
    exact this k
   refine⟨w.setRow b (cur.toList.take o++us++cur.toList.drop (o+us.length)).toArray,?_,?_⟩
   ·obtain⟨k',rfl⟩:∃k',k=k'+1:=⟨k-1,by omega⟩;simp only[jD5]at hst;simp[Builtin.clear_,run_underlying hu,zeroValue,typeInfo,hj,hz,hus,hst]
   ·refine zGJ hs e1 hb rfl rfl rfl rfl (fun d=>by rw[hh]; simp) (by simp) (fun k hk=>setRow_other w b k _ hk) (HLe.refl _) (fun _ _ _ h=>.inl h) (fun o' v hv=>by rw[k6]at hv; cases hv) ?_;have htake:(cur.toList.take o++us++cur.toList.drop (o+us.length)).take (n*j.size) =
     (cur.toList.take (n*j.size)).take o++us++(cur.toList.take (n*j.size)).drop (o+us.length):=by
     have hl1:(cur.toList.take o++us).length=o+us.length:=by simp; omega
     have hle2:o+us.length≤n*j.size:=by rw[husl,←hcl]; exact hle
     rw[List.take_append,hl1,jAk (by rw[hl1]; exact hle2),List.take_take,jB9 (by omega),List.drop_take]
    have hfl:((List.replicate k (z.cells.toList.map jJ)).flatten).length=k*j.size:=by simp[hzl]
    simp only[zW];refine⟨e2,hln,by simp only[jA5,jAt,jD6,hfl]; omega,.inr ⟨b,_,hb,setRow_heap w b _ _ e' _ hh,k1,k2,by simp; omega,?_,?_,k6⟩⟩
    ·rw[htake,husl];exact((k4.take o).append hrel).append (k4.drop _)
    ·rw[htake];intro u hu;simp only[jA8]at hu;rcases hu with (hu | hu) | hu
     ·exact k5 u (jBa hu)
     ·exact hone u hu
     ·exact k5 u (jBq hu)
theorem zAZ {o:Oper}{k:KOp}(hc:zA0 P o=some k)(c:Call):o.op≠.defer c:=by intro h;simp[zA0,h]at hc
theorem zVR {r:Option Nat}{n:Nat}{f:FuncId}{args:Array Value}{R:Ending→World→Prop}:CallsIn (Wr r) n P f args w R↔Calls P f args w R:=(callsIn_wide (n:=n) (P:=P) (f:=f) (args:=args) (w:=w) (R:=R))
theorem yV {r:Option Nat}{o:Oper}(hnd:∀c,o.op≠.defer c){v:Value}{w':World}{Kc:Act→World→Prop}{Qc:Exit→Act→World→Prop}(h:(execOp a.eval o).run P w=.ok (.value v) w')(hK:Kc (a.put o.dst v) w'):o.wpIn (Wr r) 0 P a w Kc Qc:=by refine⟨fun _ _=>trivial,?_⟩;rw[Oper.semAt_eq _ _ _ hnd,h];exact hK
theorem qZ (d:Option Tmp)(v:Value):(a.put d v).defers=a.defers:=by cases d<;>rfl
theorem zMJ {r:Option Nat}{o:Oper}(hnd:∀c,o.op≠.defer c){e:TypeId}{cs:List A}{us:List Value}(hd:∀x,o.dst=some x→x<N)(he:qJ H L N env a.tmps)(hs:RelSt H L σ w)
 (hr:zY H L cs us)(h1:∀u∈us,one u)(hrun:(execOp a.eval o).run P w=.ok (.value (.pointer (some ⟨w.heap.size,0,none⟩))) (w.alloc (.cells us.toArray e)))
 {K:Env→St→Prop}(h:K (env.put o.dst (.ptr σ.length 0)) (σ++[.box cs])){Kc:Act→World→Prop}{Qc:Exit→Act→World→Prop}
 (hK:∀env' σ' H' L' a' w',a'.defers=a.defers→qJ H' L' N env' a'.tmps→Nxt H L w H' L' σ' w'→K env' σ'→Kc a' w'):o.wpIn (Wr r) 0 P a w Kc Qc:=by
 have hn:=zZF hs e hr h1;refine yV hnd hrun (hK _ _ _ _ _ _ (qZ _ _) ?_ hn h);refine(he.mono (HLe.refl _) hn.lle).put hd ?_;simp only[Rel];exact⟨⟨some w.heap.size,0,0,false⟩,w.heap.size,by rw[←hs.len]; simp,rfl,rfl,rfl⟩
theorem zRV {ro:Option Nat}{o:Oper}{k:KOp}(hc:zA0 P o=some k)(hd:∀x,o.dst=some x→x<N)(he:qJ H L N env a.tmps)(hs:RelSt H L σ w){Qp:Value→Env→St→Prop}{K:Env→St→Prop}
 (h:wpO P Qp K k env σ){Kc:Act→World→Prop}{Qc:Exit→Act→World→Prop}
 (hK:∀env' σ' H' L' a' w',a'.defers=a.defers→qJ H' L' N env' a'.tmps→Nxt H L w H' L' σ' w'→K env' σ'→Kc a' w')
 (hQ:∀v σ' H' L' w',Nxt H L w H' L' σ' w'→Qp v env σ'→Qc (.panic [{v,recovered:=false}]) a w'):o.wpIn (Wr ro) 0 P a w Kc Qc:=by
 have hdst:=zA5 hc;have hnd:=zAZ hc;have pure:∀p r,zP env σ k=some (p,r)→p→K (env.put k.dst r) σ→o.wpIn (Wr ro) 0 P a w Kc Qc:=by intro p r hp hp' hk;obtain⟨v,hrun,hrel⟩:=zR6 (w:=w) hc hp hp' he hs;refine yV hnd hrun (hK _ _ _ _ _ _ (qZ _ _) ?_ (Nxt.refl hs) hk);rw[hdst];exact he.put hd hrel
 have pureM:(jG (zP env σ k) fun r=>K (env.put k.dst r) σ)→o.wpIn (Wr ro) 0 P a w Kc Qc:=by
  intro h;unfold jG at h;split at h
  ·rename_i p r hp;exact pure p r hp h.1 h.2
  ·exact h.elim
 cases zA6 hc with
 | alloc e i z ho hi hz hok =>
  simp only[wpO]at h;refine zMJ hnd (e:=e) hd he hs (zBb z.cells.toList) (fun u hu=>jB.1 hok u hu) ?_ h hK;unfold execOp;simp only[ho];refine qS ?_;simp[Instr.alloc,zeroValue,typeInfo,hi,hz,newVar,newRow]
 | box e x ho =>
  simp only[wpO]at h;split at h
  ·rename_i cs hcs;obtain⟨g1,g2⟩:=zGk (qU he x) hcs;refine zMJ hnd (e:=e) hd he hs g1 g2 ?_ h hK;unfold execOp;simp only[ho];refine qS ?_;simp[Instr.box,newVar,newRow]
  ·exact h.elim
 | bslice t e n parts j z ps ho hu hj hz hn h0 hok hzs hps =>
  simp only[wpO]at h;split at h
  ·rename_i cs hcs;have hzl:z.cells.toList.length=j.size:=by rw[jAy,hzs]
   have hj0:0<j.size:=h0;have hrf:=zDQ z.cells.toList j.size hzl hj0 n;simp only[jDg]at hrf;have harr:((Array.range (n*j.size)).map fun i=>z.cells[i % z.cells.size]!).toList=(List.replicate n z.cells.toList).flatten:=by rw[←hrf]; simp
   have hone:∀u∈(List.replicate n z.cells.toList).flatten,one u:=fun u hu=>by simp only[jDs,jDt]at hu;obtain⟨l,⟨_,rfl⟩,hu⟩:=hu;exact jB.1 hok u hu
   obtain⟨arr,k1,k2,k3⟩:=zHX he (fun i=>some (i*j.size,j.size)) parts.toList ps _ ((Array.range (n*j.size)).map fun i=>z.cells[i % z.cells.size]!) cs hps hcs
    (by rw[harr]; exact zBb _) (by rw[harr]; exact hone)
   obtain⟨hn1,hn2⟩:=zPN hs arr.toList e;have hnn:n≤4096:=jBp (Nat.le_mul_of_pos_right n hj0) hn;refine yV hnd (v:=.slice (some ⟨w.heap.size,0,none⟩) n n) ?_ (hK _ _ _ _ _ _ (qZ _ _) ?_ hn1 h)
   ·unfold execOp;simp only[ho];refine qS ?_;have hmap:(parts.map fun(i,x)=>(i,a.eval x)).toList=parts.toList.map fun(i,x)=>(i,a.eval x):=by simp
    have hb:¬(n*j.size > 2 ^ 24):=by omega
    unfold Instr.buildSlice;simp only[Sem.run_bind,run_underlying hu,Result.andThen_ok,yO hj,if_neg hb];by_cases hb0:n*j.size=0
    ·have hz0:((Array.range (n*j.size)).map fun i=>(#[]:Array Value)[i % (#[]:Array Value).size]!)=(Array.range (n*j.size)).map fun i=>z.cells[i % z.cells.size]! := by rw[hb0]; simp
     simp only[if_pos hb0,Sem.run_bind,Sem.run_pure,Result.andThen_ok,hmap];rw[hz0,k1];simp[newRow]
    ·simp only[if_neg hb0,Sem.run_bind,Sem.run_pure,Result.andThen_ok,zeroValue,typeInfo,run_program,hj,hz,hmap];rw[k1];simp[newRow]
   ·refine(he.mono hn1.step.hle hn1.lle).put hd ?_;simp only[Rel];exact⟨_,rfl,by simp only[maxLen]; omega,.inr ⟨_,0,arr.toList,rfl,zY.mono hn1.step.hle hn1.lle _ k2,k3,hn2⟩⟩
  ·exact h.elim
 | st t x v i ho hi =>
  simp only[wpO]at h;split at h
  ·rename_i cs hcs;split at h
   ·rename_i hn;split at h
    ·rename_i σ' hσ';obtain⟨w',hrun,hnx⟩:=zXI ho hi he hs hcs hn hσ';refine⟨fun _ _=>trivial,?_⟩;rw[Oper.semAt_eq _ _ _ hnd,hrun];refine hK _ _ _ _ _ _ (qZ _ _) ?_ hnx h;exact(he.mono (HLe.refl _) (LLe.refl _)).put hd (by simp[Rel])
    ·exact h.elim
   ·exact h.elim
  ·exact h.elim
 | app c t e x y j z ho hcal ha ht hu hj hz hok hzs h0 =>
  simp only[wpO]at h;have ha':c.args = #[x,y]:=by cases hh:c.args; simp_all
  have ht':c.argTypes = #[t,t]:=by cases hh:c.argTypes; simp_all
  have run:∀v' w',(Builtin.append_ #[t,t] o.type #[a.eval x,a.eval y]).run P w=.ok v' w'→(execOp a.eval o).run P w=.ok (.value v') w':=by intro v' w' hr;unfold execOp;simp[ho,resolve,hcal,invoke,builtin,ha',ht',hr]
  split at h
  ·rename_i m ys hye;obtain⟨hyl,h⟩:=h;split at h
   ·rename_i hxe;have hx:=qU he x;rw[hxe]at hx;simp only[Rel]at hx;obtain⟨v',w',H',L',g1,g2,g3,g4⟩:=zYj (ty:=o.type) hu hj hz hok hzs h0 hs (qU he y) hye hyl h.1.1 h.1.2;exact yV hnd (run _ _ (by rw[hx]; exact g1)) (hK _ _ _ _ _ _ (qZ _ _) ((he.mono g3 g2.lle).put hd g4) g2 h.2)
   ·rename_i l n hxe;have hx:=qU he x;rw[hxe]at hx;split at h
    ·rename_i fz e' s n' cs hσ;split at h
     ·rename_i hn;obtain⟨rfl,rfl,rfl⟩:=hn;obtain⟨v',w',H',L',g1,g2,g3,g4⟩:=zSl (ty:=o.type) hu hj hz hok hzs h0 hs hσ hx (qU he y) hye hyl h.1.1 h.1.2;exact yV hnd (run _ _ g1) (hK _ _ _ _ _ _ (qZ _ _) ((he.mono g3 g2.lle).put hd g4) g2 h.2)
     ·exact h.elim
    ·exact h.elim
   ·rename_i n cs hxe;have hx:=qU he x;rw[hxe]at hx;obtain⟨hcl,hz0,hz1⟩:=h;by_cases hm:m=0
    ·have hx':=hx;simp only[Rel]at hx';obtain⟨ad,hv,_,_⟩:=hx';obtain⟨ad',c',hyv,_⟩:=zIN hs (qU he y) hye hyl h0;subst hm;refine yV hnd (run (a.eval x) w ?_) (hK _ _ _ _ _ _ (qZ _ _) (he.put hd hx) (Nxt.refl hs) (hz0 rfl));rw[hv,hyv];exact zDm hu hj ad n n (jA _) ad' c'
    ·obtain⟨hb,hk⟩:=hz1 hm;obtain⟨v',w',H',L',g1,g2,g3,g4⟩:=zV0 (ty:=o.type) hu hj hz hzs h0 hs hx hcl (qU he y) hye hyl hm hb.1 hb.2;exact yV hnd (run _ _ g1) (hK _ _ _ _ _ _ (qZ _ _) ((he.mono g3 g2.lle).put hd g4) g2 hk)
   ·exact h.elim
  ·exact h.elim
 | call c f ho hcal =>
  simp only[wpO]at h;split at h
  ·rename_i g first cap hfe
   obtain⟨hcb,hcall⟩:=h;have hf:=qU he f;rw[hfe]at hf;simp only[Rel]at hf;obtain⟨fs,cs,hfv,h1,h2⟩:=hf;have hargs:=zGL he c.args.toList;have hcalls:=hcall H L w _ hs ((h1.append hargs).append h2);have hrun:(execOp a.eval o).run P w=.ok (.enter g (fs++c.args.toList.map a.eval++cs).toArray) w:=by
    unfold zA at hcb;split at hcb<;>try (cases hcb; done)
    rename_i fn hfn;simp only[jA6,jBr,beq_eq_false_iff_ne,ne_eq]at hcb;have hbn:fn.body.isNone=false:=by cases hb:fn.body<;>simp_all
    unfold execOp;simp only[ho,resolve,hcal,Deferred.ofValue,hfv,Sem.run_bind,Sem.run_pure,Result.andThen_ok,invoke,callFunc,run_program,hfn];simp only[beq_iff_eq,if_neg hcb.2,hbn,jAc,if_false,Sem.run_pure]
    congr 2
    apply jC1;simp
   refine⟨fun _ _=>trivial,?_⟩;rw[Oper.semAt_eq _ _ _ hnd,hrun];refine⟨fun hh=>by simp[Wr,Fence.wide]at hh,(zVR (r:=ro)).2 ?_⟩;refine hcalls.mono fun e w'' hh=>?_
   obtain⟨oo,σ',H',L',ho1,ho2,ho3⟩:=hh;cases oo with
   | ret r =>
    obtain⟨v,rfl,hv⟩:=ho1;exact hK _ _ _ _ _ _ (qZ _ _) ((he.mono ho2.step.hle ho2.lle).put hd hv) ho2 ho3
   | pan v =>
    simp only[zHi]at ho1;subst ho1;exact hQ v σ' H' L' w'' ho2 ho3
  ·rename_i b hfe;have hf:=qU he f;rw[hfe]at hf;simp only[Rel]at hf;obtain⟨fn,tmps,x,y,hy,hround⟩:=h H L w _ hs (zGL he c.args.toList);have hrun:(execOp a.eval o).run P w=.ok (.round b fn tmps x y) w:=by
    unfold execOp;have hmap:(c.args.toList.map a.eval).toArray=c.args.map a.eval:=by apply jC1; simp
    rw[hmap]at hy;simp only[ho,resolve,hcal,Deferred.ofValue,hf,Sem.run_bind,Sem.run_pure,Result.andThen_ok,invoke]
    first | exact hy | simpa using hy
   refine⟨fun _ _=>trivial,?_⟩;rw[Oper.semAt_eq _ _ _ hnd,hrun];refine⟨fun hh=>by simp[Wr,Fence.wide]at hh,RoundIn.mono (F:=Wr ro) hround fun e w'' hh=>?_⟩;obtain⟨oo,σ',H',L',ho1,ho2,ho3⟩:=hh;cases oo with
   | ret r =>
    obtain⟨v,rfl,hv⟩:=ho1;exact hK _ _ _ _ _ _ (qZ _ _) ((he.mono ho2.step.hle ho2.lle).put hd hv) ho2 ho3
   | pan v =>
    simp only[zHi]at ho1;subst ho1;exact hQ v σ' H' L' w'' ho2 ho3
  ·exact h.elim
 | mmk t k e nk ho ht hk =>
  simp only[wpO,jBf,zB0]at h;have hnx:=qKf hs nk;refine yV hnd (v:=.map (some w.heap.size)) (w':=w.alloc (.map #[] 0)) ?_ (hK _ _ _ _ _ _ (qZ _ _) ((he.mono hnx.step.hle hnx.lle).put hd ?_) hnx h)
  ·unfold execOp;simp only[ho];exact qS rfl
  ·simp only[Rel];exact⟨⟨some w.heap.size,0,0,false⟩,w.heap.size,by rw[←hs.len]; simp,rfl,rfl,rfl⟩
 | mget t k e x y ok nk j z ho ht hk hj hz =>
  simp only[wpO,jAj,jBf]at h;unfold zB0 at h;split at h<;>rename_i heq1 heq2<;>try (cases heq1; done)
  ·cases heq1;rename_i l yk;simp only[jB6,and_true]at heq2;obtain⟨hxe,rfl⟩:=heq2;split at h
   ·rename_i ks fr nk' es hky hσ;obtain⟨rfl,h⟩:=h;obtain⟨hyv,hks⟩:=zLj hky (qU he y);have hx:=qU he x;rw[hxe]at hx;have hx':=hx;simp only[Rel]at hx';obtain⟨li,b,hL,hb,hrow,hxv⟩:=hx';have hob:=hs.obj l li _ hL hσ;simp only[zW]at hob;obtain⟨_,b',ents,ck,e1,h2,hr,hbn,hn⟩:=hob;rw[hb]at e1;cases e1;obtain⟨v,hrun,hv⟩:=zZp (w:=w) ht hk hj hz hks h2 hr hn ok;refine yV hnd (v:=v) (w':=w) ?_ (hK _ _ _ _ _ _ (qZ _ _) (he.put hd hv) (Nxt.refl hs) h);unfold execOp;simp only[ho];refine qS ?_;rw[hyv,hxv];exact hrun
   ·exact h.elim
  ·exact h.elim
 | mset t k e x y z nk ho ht hk =>
  simp only[wpO,jAj,jBf]at h;unfold zB0 at h;split at h<;>rename_i heq1 heq2<;>try (cases heq1; done)
  ·cases heq1;rename_i l yk zv;simp only[jB6,and_true]at heq2;obtain⟨hxe,rfl,rfl⟩:=heq2;split at h
   ·rename_i ks fr nk' es hky hσ;obtain⟨rfl,h⟩:=h;obtain⟨hyv,hks⟩:=zLj hky (qU he y);have hx:=qU he x;rw[hxe]at hx;obtain⟨w',hrun,hnx⟩:=zJu ht hk hs hks hx hσ (qU he z);have hrun':(execOp a.eval o).run P w=.ok .skip w':=by unfold execOp;simp only[ho];rw[hyv,Sem.run_bind,hrun];rfl
    refine⟨fun _ _=>trivial,?_⟩;rw[Oper.semAt_eq _ _ _ hnd,hrun'];refine hK _ _ _ _ _ _ (qZ _ _) ?_ hnx h;exact(he.mono (HLe.refl _) (LLe.refl _)).put hd (by simp[Rel])
   ·exact h.elim
  ·exact h.elim
 | mdel c t k e x y nk ho hc' ha hat ht hk =>
  simp only[wpO,jAj,jBf]at h;unfold zB0 at h;split at h<;>rename_i heq1 heq2<;>try (cases heq1; done)
  ·cases heq1;rename_i l yk;simp only[jB6,and_true]at heq2;obtain⟨hxe,rfl⟩:=heq2;split at h
   ·rename_i ks fr nk' es hky hσ;obtain⟨rfl,h⟩:=h;obtain⟨hyv,hks⟩:=zLj hky (qU he y);have hx:=qU he x;rw[hxe]at hx;obtain⟨w',hrun,hnx⟩:=qDo ht hk hs hks hx hσ c.argTypes hat o.type;have ha':c.args = #[x,y]:=by cases hh:c.args; simp_all
    refine yV hnd (v:=.tuple #[]) (w':=w') ?_ (hK _ _ _ _ _ _ (qZ _ _) ((he.mono (HLe.refl _) (LLe.refl _)).put hd ?_) hnx h)
    ·unfold execOp;rw[hyv.symm]at hrun;simp[ho,resolve,hc',invoke,builtin,ha',hrun]
    ·simp only[Rel];exact⟨[],rfl,jZ⟩
   ·exact h.elim
  ·exact h.elim
 | mrng t k e x ho ht =>
  simp only[wpO,jAj,jBf]at h;unfold zB0 at h;split at h<;>rename_i heq1 heq2<;>try (cases heq1; done)
  ·cases heq1;rename_i l;simp only[jB6,and_true]at heq2;split at h
   ·rename_i nk' es hσ;have hx:=qU he x;rw[heq2]at hx;obtain⟨w',hrun,hnx⟩:=qEp ht hs hx hσ;refine yV hnd (v:=.pointer (some ⟨w.heap.size,0,none⟩)) (w':=w') ?_ (hK _ _ _ _ _ _ (qZ _ _) ((he.mono hnx.step.hle hnx.lle).put hd ?_) hnx h)
    ·unfold execOp;simp only[ho];exact qS hrun
    ·simp only[Rel];exact⟨⟨some w.heap.size,0,0,false⟩,w.heap.size,by rw[←hs.len]; simp,rfl,rfl,rfl⟩
   ·exact h.elim
  ·exact h.elim
 | mnxt x ho =>
  simp only[wpO,jAj,jBf]at h;unfold zB0 at h;split at h<;>rename_i heq1 heq2<;>try (cases heq1; done)
  ·rename_i jx;simp only[jB6,and_true]at heq2;split at h
   ·rename_i l n met hσ;split at h
    ·rename_i nk es hσl;obtain⟨hnn,hk1,hk2⟩:=h;have hx:=qU he x;rw[heq2]at hx;rcases zZ9 o.type hs hx hσ hσl hnn with ⟨q1,q2⟩ | ⟨i,p,v,w',q1,q2,q3,q4,q5⟩
     ·refine yV hnd (v:=.tuple #[.bool false]) (w':=w) ?_ (hK _ _ _ _ _ _ (qZ _ _) (he.put hd ?_) (Nxt.refl hs) (hk2 q1))
      ·unfold execOp;simp only[ho];exact qS q2
      ·simp only[Rel];exact⟨[_],rfl,qR (by simp[Rel]) jZ⟩
     ·refine yV hnd (v:=.tuple #[.bool true,zCO p.1,v]) (w':=w') ?_ (hK _ _ _ _ _ _ (qZ _ _) ((he.mono (HLe.refl _) (LLe.refl _)).put hd ?_) q5 (hk1 i p q1 q2))
      ·unfold execOp;simp only[ho];exact qS q3
      ·simp only[Rel];exact⟨[_,_,_],rfl,qR (by simp[Rel]) (qR (zQc p.1) (qR q4 jZ))⟩
    ·exact h.elim
   ·exact h.elim
  ·exact h.elim
 | ment x ho =>
  simp only[wpO,jAj,jBf]at h;unfold zB0 at h;split at h<;>rename_i heq1 heq2<;>try (cases heq1; done)
  ·rename_i jx;simp only[jB6,and_true]at heq2;split at h
   ·rename_i l n met hσ;split at h
    ·rename_i nk es i hσl hmet;obtain⟨hnn,h⟩:=h;split at h
     ·rename_i p hp;have hx:=qU he x;rw[heq2]at hx;obtain⟨v,q1,q2⟩:=qDs hs hx hσ hσl hnn hmet hp;refine yV hnd (v:=.tuple #[zCO p.1,v]) (w':=w) ?_ (hK _ _ _ _ _ _ (qZ _ _) (he.put hd ?_) (Nxt.refl hs) h)
      ·unfold execOp;simp only[ho];exact qS q1
      ·simp only[Rel];exact⟨[_,_],rfl,qR (zQc p.1) (qR q2 jZ)⟩
     ·exact h.elim
    ·exact h.elim
   ·exact h.elim
  ·exact h.elim
 | mclr c t e x j z ho hcal ha hat hu hj hz hok hzs h0 =>
  simp only[wpO,jAj,jBf]at h;unfold zB0 at h;split at h<;>first | exact h.elim | (rename_i heq1 _; cases heq1; done) | skip
  rename_i l n o' k c' heq1 heq2;simp only[jB6,and_true]at heq2;cases heq1;split at h
  ·rename_i fz e' s m cs hσ;obtain⟨⟨h1,rfl,rfl,h3⟩,h⟩:=h;have hx:=qU he x;rw[heq2]at hx;obtain⟨w',hrun,hnx⟩:=qDk (ty:=o.type) hu hj hz hok hzs h0 hs hx hσ h1 h3;have ha':c.args = #[x]:=by cases hh:c.args; simp_all
   have hat':(Builtin.clear_ c.argTypes o.type #[a.eval x]).run P w=.ok (.tuple #[]) w':=by rw[←hrun];unfold Builtin.clear_;simp[hat]
   refine yV hnd (v:=.tuple #[]) (w':=w') ?_ (hK _ _ _ _ _ _ (qZ _ _) ((he.mono hnx.step.hle hnx.lle).put hd (by simp[Rel,zY])) hnx h);unfold execOp;simp[ho,resolve,hcal,invoke,builtin,ha',hat']
  ·exact h.elim
 | mmks t e x y j z ho hu hj hz hok hzs h0 =>
  simp only[wpO,jAj,jBf]at h;unfold zB0 at h;split at h<;>first | exact h.elim | (rename_i heq1 _; cases heq1; done) | skip
  rename_i kn n kc c heq1 heq2;simp only[jB6,and_true]at heq2;cases heq1;obtain⟨⟨g1,rfl,g3,g4⟩,h⟩:=h;have hx:=qU he x;have hy:=qU he y;rw[heq2.1]at hx;rw[heq2.2]at hy;simp only[Rel]at hx hy;obtain⟨m,rfl⟩:=Int.eq_ofNat_of_zero_le g1;simp only[jD]at g4 h;have hzl:z.cells.toList.length=j.size:=by rw[jAy,hzs]
  have hmax:m≤maxLen:=by simp[maxLen]; omega
  have hb':(j.bytes:Int)*(m:Int)≤281474976710656:=by
   have h:((j.bytes*m:Nat):Int)≤281474976710656:=by omega
   rwa [Int.natCast_mul]at h
  have hr:=run_make (P:=P) w t e j z hu hj hz kn kc m m (by omega) (jC7 _) hb' (by omega);simp only[jD]at hr;have hrf:=zDQ z.cells.toList j.size hzl h0 m;simp only[jDg]at hrf;have hus:(madeCells z.cells (m*j.size)).toList=(List.replicate m z.cells.toList).flatten:=by rw[←hrf]; simp[madeCells]
  have hone:∀u∈(List.replicate m z.cells.toList).flatten,one u:=fun u hu=>by simp only[jDs,jDt]at hu;obtain⟨l,⟨_,rfl⟩,hu⟩:=hu;exact jB.1 hok u hu
  have hmp:((List.replicate m z.cells.toList).flatten).map jJ=(List.replicate m (z.cells.toList.map jJ)).flatten:=by rw[List.map_flatten,List.map_replicate]
  have hn:=zL5 hs (cs:=(List.replicate m (z.cells.toList.map jJ)).flatten) (us:=(List.replicate m z.cells.toList).flatten) e (n:=m) (sz:=j.size) hmax (by simp[hzl,hzs]) (by rw[←hmp]; exact zBb _) hone;rw[←hus,jDg]at hn;refine yV hnd (v:=.slice (some ⟨w.heap.size,0,none⟩) m m) ?_ (hK _ _ _ _ _ _ (qZ _ _) ((he.mono hn.step.hle hn.lle).put hd ?_) hn h)
  ·unfold execOp;simp only[ho];refine qS ?_;rw[hx,hy];exact hr
  ·simp only[Rel];exact⟨rfl,⟨some w.heap.size,m,m,true⟩,by rw[←hs.len]; simp,rfl,jA _,fun _=>rfl⟩
 | mcvt s d x k ho hs' hd' =>
  simp only[wpO,jAj,jBf]at h;unfold zB0 at h;split at h<;>first | exact h.elim | (rename_i heq1 _; cases heq1; done) | skip
  rename_i k' kn n heq1 heq2;simp only[jB6,and_true]at heq2;cases heq1;have hx:=qU he x;rw[heq2]at hx;simp only[Rel]at hx;have hkk:P.intKind d=k:=by unfold Program.intKind; rw[hd']
  have hr:=run_convert_int (P:=P) w s d kn n hs' (by rw[hkk]; exact hd');rw[hkk]at hr;refine yV hnd (v:=.int k (k.wrap n)) (w':=w) ?_ (hK _ _ _ _ _ _ (qZ _ _) (he.put hd (by simp[Rel])) (Nxt.refl hs) h);unfold execOp;simp only[ho];refine qS ?_;rw[hx];exact hr
 | mstr s d e x ho hs' he' hd' =>
  have key:∀n cs xs,zGd cs=some xs→xs.length=n→n≠0→Rel H L (.sl n cs) (a.eval x)→(convert s d (a.eval x)).run P w=.ok (.string (strOfNums xs)) w:=by
   intro n cs xs hl hn hn0 hx;simp only[Rel]at hx;obtain⟨ad,cap,hv,_,_,hx⟩:=hx;rcases hx with ⟨h0,_⟩ | ⟨b,o',us,rfl,hr,_,hat⟩
   ·exact(hn0 h0).elim
   ·rw[hv];refine run_convert_bytes_arg w s e hs' he' b o' n cap xs hn (fun i hi=>?_) d hd';obtain⟨v,q1,q2⟩:=hr.get (zNr hl (i:=i) (by omega));simp only[Rel]at q2;subst q2;have:=hs.pers _ _ _ (hat i _ q1);rw[this]
  simp only[wpO,jAj,jBf]at h;unfold zB0 at h;split at h<;>first | exact h.elim | (rename_i heq1 _; cases heq1; done) | skip
  all_goals
   rename_i n cs heq1 heq2;simp only[jB6,and_true]at heq2;split at h<;>try (exact h.elim)
   rename_i xs hl;obtain⟨⟨g1,g2⟩,h⟩:=h;have hx:=qU he x;rw[heq2]at hx;have hx':Rel H L (.sl n cs) (a.eval x):=by first | exact hx | exact zR8 hx
   refine yV hnd (v:=.string (strOfNums xs)) (w':=w) ?_ (hK _ _ _ _ _ _ (qZ _ _) (he.put hd (by simp[Rel])) (Nxt.refl hs) h);unfold execOp;simp only[ho];exact qS (key n cs xs hl g1 g2 hx')
 | pan x ho =>
  simp only[wpO]at h;split at h
  ·rename_i t v hv;have hx:=qU he x;rw[hv]at hx;simp only[Rel]at hx;refine⟨fun _ _=>trivial,?_⟩;rw[Oper.semAt_eq _ _ _ hnd];have hrun:(execOp a.eval o).run P w=.halt (.panic (.iface t v)) w:=by unfold execOp;simp[ho,hx,Instr.panic,goPanic]
   rw[hrun];exact hQ _ _ _ _ _ (Nxt.refl hs) h
  ·exact h.elim
 | pure k hk hd' =>
  cases k<;>simp only[zDk]at hk<;>try (cases hk; done)
  case len d str x =>
   cases str
   ·simp only[wpO]at h;split at h
    ·rename_i n cs hxe;have hx:=qU he x;rw[hxe]at hx;simp only[Rel]at hx;obtain⟨_,_,_,g1,g2,_⟩:=hx;exact pure True _ (by simp only[zP,hxe]) trivial (h (by omega))
    ·rename_i n cs hxe;have hx:=qU he x;rw[hxe]at hx;simp only[Rel]at hx;obtain⟨_,_,g1,_⟩:=hx;exact pure True _ (by simp only[zP,hxe]) trivial (h g1)
    ·exact pureM h
   ·exact pureM h
  all_goals exact pureM h
theorem zQJ {o:Oper}{t e:TypeId}{n:Nat}{parts:Array (Nat×Operand)}{j:TypeInfo}{z:Value}{ps:List (Nat×Nat×Operand)}(ho:o.op=.buildSlice t n parts)(hu:P.underlying t=some (.slice e))(hj:P.info? e=some j)
 (hz:j.zero=some z)(hn:n*j.size≤4096)(h0:0<j.size)(hok:zAo z.cells.toList=true)(hzs:z.cells.size=j.size)(hps:zD6 (fun i=>some (i*j.size,j.size)) parts.toList=some ps)(he:qJ H L N env a.tmps)
 {cs:List A}(hcs:zBp (((List.replicate n z.cells.toList).flatten).map jJ) (ps.map fun(o,s,x)=>(o,s,ev env x))=some cs) :
 ∃us:List Value,(execOp a.eval o).run P w=.ok (.value (.slice (some ⟨w.heap.size,0,none⟩) n n)) (w.alloc (.cells us.toArray e))∧zY H L cs us∧∀u∈us,one u:=by
 have hzl:z.cells.toList.length=j.size:=by rw[jAy,hzs]
 have hj0:0<j.size:=h0;have hrf:=zDQ z.cells.toList j.size hzl hj0 n;simp only[jDg]at hrf;have harr:((Array.range (n*j.size)).map fun i=>z.cells[i % z.cells.size]!).toList=(List.replicate n z.cells.toList).flatten:=by rw[←hrf]; simp
 have hone:∀u∈(List.replicate n z.cells.toList).flatten,one u:=fun u hu=>by simp only[jDs,jDt]at hu;obtain⟨l,⟨_,rfl⟩,hu⟩:=hu;exact jB.1 hok u hu
 obtain⟨arr,k1,k2,k3⟩:=zHX he (fun i=>some (i*j.size,j.size)) parts.toList ps _ ((Array.range (n*j.size)).map fun i=>z.cells[i % z.cells.size]!) cs hps hcs
  (by rw[harr]; exact zBb _) (by rw[harr]; exact hone)
 refine⟨arr.toList,?_,k2,k3⟩;unfold execOp;simp only[ho];refine qS ?_;have hmap:(parts.map fun(i,x)=>(i,a.eval x)).toList=parts.toList.map fun(i,x)=>(i,a.eval x):=by simp
 have hb:¬(n*j.size > 2 ^ 24):=by omega
 unfold Instr.buildSlice;simp only[Sem.run_bind,run_underlying hu,Result.andThen_ok,yO hj,if_neg hb];by_cases hb0:n*j.size=0
 ·have hz0:((Array.range (n*j.size)).map fun i=>(#[]:Array Value)[i % (#[]:Array Value).size]!)=(Array.range (n*j.size)).map fun i=>z.cells[i % z.cells.size]! := by rw[hb0]; simp
  simp only[if_pos hb0,Sem.run_bind,Sem.run_pure,Result.andThen_ok,hmap];rw[hz0,k1];simp[newRow]
 ·simp only[if_neg hb0,Sem.run_bind,Sem.run_pure,Result.andThen_ok,zeroValue,typeInfo,run_program,hj,hz,hmap];rw[k1];simp[newRow]
theorem zHW:∀{ps:List (Nat×Nat×A)} {zs cs:List A},zBp zs ps=some cs→cs.length=zs.length
 | [],zs,cs,h=>by simp only[zBp,jA1]at h; rw[h]
 | (off,size,x)::rest,zs,cs,h=>by
  simp only[zBp]at h;split at h<;>try (cases h; done)
  split at h<;>try (cases h; done)
  rename_i l _ hb;rw[zHW h];simp only[jA5,jAt,jD6];omega
theorem zZE (hs:RelSt H L σ w){q:Nat}(hq : σ[q]?=some .rsv){cs:List A}{us:List Value}(e:TypeId)(hr:zY H L cs us)(h1:∀u∈us,one u) :
 Nxt H L w H (L.set q (⟨some w.heap.size,0,0,false⟩:LI)) (σ.set q (.box cs)) (w.alloc (.cells us.toArray e)):=by
 have hqlt:q<L.length:=by rw[hs.len]; exact(jA4.1 hq).1
 have hL:L[q]?=some L[q]:=jA2 hqlt;have hob:=hs.obj q _ _ hL hq;simp only[zW]at hob;have hll:LLe L (L.set q (⟨some w.heap.size,0,0,false⟩:LI)):=by
  intro i l hi;by_cases hiq:i=q
  ·subst hiq;rw[hL]at hi;cases hi;exact⟨_,jAq hqlt,.inr (.inr ⟨hob.1,hob.2,rfl⟩)⟩
  ·exact⟨l,by rw[jAf (Ne.symm hiq)]; exact hi,.inl rfl⟩
 have hget:∀{i:Nat} {l:LI},(L.set q (⟨some w.heap.size,0,0,false⟩:LI))[i]?=some l→(i≠q∧L[i]?=some l)∨(i=q∧l=⟨some w.heap.size,0,0,false⟩):=by
  intro i l h;by_cases hiq:i=q
  ·subst hiq;rw[jAq hqlt]at h;exact .inr ⟨rfl,(jB4 h).symm⟩
  ·rw[jAf (Ne.symm hiq)]at h;exact .inl ⟨hiq,h⟩
 refine⟨⟨fun b o v hv=>?_,by simp[hs.len],fun i l o hL' hσ=>?_,fun i j l l' b hi hj hb hb'=>?_,fun i l b hL' hb=>?_⟩,⟨rfl,rfl,rfl,by simp,fun k hk _=>heap_alloc_old w _ (h:=hk),HLe.refl _,fun b o v hv=>.inl hv,jA _,zEg (fun k hk=>heap_alloc_old w _ (h:=hk))⟩,hll,fun b ⟨i,l,hL',hb⟩=>?_⟩
 ·rw[World.cell?_alloc_lt _ _ _ (hs.h_lt hv)];exact hs.pers b o v hv
 ·rcases hget hL' with ⟨hne,hL'⟩ | ⟨rfl,rfl⟩
  ·rw[jAf (Ne.symm hne)]at hσ;exact(hs.obj i l o hL' hσ).carry (fun b hb=>heap_alloc_old w _ (h:=hs.lt i l b hL' hb)) (HLe.refl _) hll (fun _ _ _=>rfl)
  ·rw[jAq (by rw[←hs.len]; exact hqlt)]at hσ;cases hσ;simp only[zW];refine⟨trivial,w.heap.size,us,e,rfl,heap_alloc_new w _,zY.mono (HLe.refl _) hll _ hr,h1,fun o=>?_⟩;cases hH:H w.heap.size o with
   | none=>rfl
   | some v=>have:=hs.h_lt hH; omega
 ·rcases hget hi with ⟨hne,hi'⟩ | ⟨rfl,rfl⟩
  ·rcases hget hj with ⟨hne',hj'⟩ | ⟨rfl,rfl⟩
   ·exact hs.inj i j l l' b hi' hj' hb hb'
   ·have:=hs.lt i l b hi' hb;simp only[jA1]at hb';omega
  ·rcases hget hj with ⟨hne',hj'⟩ | ⟨rfl,rfl⟩
   ·have:=hs.lt j l' b hj' hb';simp only[jA1]at hb;omega
   ·rfl
 ·rcases hget hL' with ⟨hne,hL'⟩ | ⟨rfl,rfl⟩
  ·have:=hs.lt i l b hL' hb;simp;omega
  ·simp only[jA1]at hb;simp;omega
 ·rcases hget hL' with ⟨hne,hL'⟩ | ⟨rfl,rfl⟩
  ·exact .inl ⟨i,l,hL',hb⟩
  ·simp only[jA1]at hb;exact .inr (by omega)
theorem zDH {ro:Option Nat}{o:Oper}{k:KOp}(hc:zA0 P o=some k.erase)(hd:∀x,o.dst=some x→x<N)(he:qJ H L N env a.tmps)(hs:RelSt H L σ w){Qp:Value→Env→St→Prop}{K:Env→St→Prop}
 (h:wpO P Qp K k env σ){Kc:Act→World→Prop}{Qc:Exit→Act→World→Prop}
 (hK:∀env' σ' H' L' a' w',a'.defers=a.defers→qJ H' L' N env' a'.tmps→Nxt H L w H' L' σ' w'→K env' σ'→Kc a' w')
 (hQ:∀v σ' H' L' w',Nxt H L w H' L' σ' w'→Qp v env σ'→Qc (.panic [{v,recovered:=false}]) a w'):o.wpIn (Wr ro) 0 P a w Kc Qc:=by
 by_cases hb:∃d e sz n z ps,k=.brow d e sz n z ps
 ·obtain⟨d,e,sz,n,z,ps,rfl⟩:=hb;simp only[KOp.erase]at hc;have hnd:=zAZ hc;have hdst:=zA5 hc;simp only[KOp.dst]at hdst;subst hdst;simp only[wpO]at h;split at h
  ·rename_i cs hcs;generalize hkk:KOp.bslice o.dst e sz n z ps=kk at hc;cases zA6 hc<;>try (cases hkk; done)
   case bslice t e' n' parts j z' ps' ho hu hj hz hn h0 hok hzs hps =>
    simp only[KOp.bslice.injEq,true_and]at hkk;obtain⟨rfl,rfl,rfl,rfl,rfl⟩:=hkk;obtain⟨us,hrun,hr,h1⟩:=zQJ (P:=P) (w:=w) ho hu hj hz hn h0 hok hzs hps he hcs;have hnn:n≤4096:=jBp (Nat.le_mul_of_pos_right n h0) hn;have hcl:cs.length=n*j.size:=by
     rw[zHW hcs];have hzl:z'.cells.toList.length=j.size:=by rw[jAy,hzs]
     simp[hzl]
    have hnx:=zL5 hs e (n:=n) (sz:=j.size) (by simp only[maxLen]; omega) hcl hr h1;refine yV hnd hrun (hK _ _ _ _ _ _ (qZ _ _) ((he.mono (HLe.refl _) hnx.lle).put hd ?_) hnx h);simp only[Rel];exact⟨rfl,⟨some w.heap.size,n,n,true⟩,by rw[←hs.len]; simp,rfl,jA _,fun _=>rfl⟩
   case pure hk hd=>subst hkk; simp[zDk]at hk
  ·exact h.elim
 by_cases hbr:∃d q zs,k=.alr d q zs
 ·obtain⟨d,q,zs,rfl⟩:=hbr;simp only[KOp.erase]at hc;have hnd:=zAZ hc;have hdst:=zA5 hc;simp only[KOp.dst]at hdst;subst hdst;simp only[wpO]at h;split at h
  ·rename_i hq;generalize hkk:KOp.alloc o.dst zs=kk at hc;cases zA6 hc<;>try (cases hkk; done)
   case alloc e i z ho hi hz hok =>
    simp only[KOp.alloc.injEq,true_and]at hkk;subst hkk;have hnx:=zZE hs hq e (zBb z.cells.toList) (fun u hu=>jB.1 hok u hu);refine yV hnd (v:=.pointer (some ⟨w.heap.size,0,none⟩)) ?_ (hK _ _ _ _ _ _ (qZ _ _) ((he.mono (HLe.refl _) hnx.lle).put hd ?_) hnx h)
    ·unfold execOp;simp only[ho];refine qS ?_;simp[Instr.alloc,zeroValue,typeInfo,hi,hz,newVar,newRow]
    ·simp only[Rel];exact⟨⟨some w.heap.size,0,0,false⟩,w.heap.size,by rw[jAq (by rw[hs.len]; exact(jA4.1 hq).1)],rfl,rfl,rfl⟩
   case pure hk hd=>subst hkk; simp[zDk]at hk
  ·exact h.elim
 by_cases hbz:∃d ng x,k=.isz d ng x
 ·obtain⟨d,ng,x,rfl⟩:=hbz;simp only[KOp.erase]at hc;have hnd:=zAZ hc;obtain⟨t,y,t',ho,hn,rfl⟩:=zMx hc;simp only[wpO]at h;have hx:=qU he x;have fin:∀(n:Nat) (ad:Option Addr) (cap:Nat),a.eval x=.slice ad n cap→(n≠0→ad.isNone=false)→K (env.put o.dst (.lit (.bool ng))) σ∧(n=0→K (env.put o.dst (.lit (.bool !ng))) σ)→o.wpIn (Wr ro) 0 P a w Kc Qc:=by
   intro n ad cap hv hb h;obtain⟨v,hrun,hr⟩:=zNe (H:=H) (L:=L) (w:=w) ho hn hv;refine yV hnd hrun (hK _ _ _ _ _ _ (qZ _ _) (he.put hd hr) (Nxt.refl hs) ?_);cases hi:ad.isNone with
   | false=>simpa using h.1
   | true =>
    have:=h.2 (Decidable.byContradiction fun h0=>by have:=hb h0; rw[hi]at this; cases this)
    simpa using this
  obtain⟨v1,v2,v3⟩:=zZw hs hx;split at h
  ·rename_i hxe;have hv:=v1 hxe;obtain⟨v,hrun,hr⟩:=zNe (H:=H) (L:=L) (w:=w) ho hn hv;refine yV hnd hrun (hK _ _ _ _ _ _ (qZ _ _) (he.put hd hr) (Nxt.refl hs) ?_)
   simpa using h
  ·rename_i n cs hxe;obtain⟨ad,cap,hv,hb⟩:=v2 _ _ hxe;exact fin n ad cap hv hb h
  ·rename_i l n hxe;split at h
   ·rename_i fz e sz m cs hσ;obtain⟨rfl,h⟩:=h;obtain⟨ad,cap,hv,hb⟩:=v3 _ _ _ _ _ _ hxe hσ;exact fin n ad cap hv hb h
   ·exact h.elim
  ·exact h.elim
 by_cases hbw:∃d x sz lo hi,k=.rslc d x sz lo hi
 ·obtain⟨d,x,sz,lo,hi,rfl⟩:=hbw;simp only[KOp.erase]at hc;have hnd:=zAZ hc;obtain⟨t,e,i,ho,hu,hi',rfl,rfl⟩:=zMy hc;simp only[wpO]at h;cases hp:zP env σ (.rslc o.dst x i.size lo hi)with
  | none=>rw[hp]at h; exact h.elim
  | some q =>
   obtain⟨p,r⟩:=q;rw[hp]at h;obtain⟨v,hrun,hr⟩:=zRn ho hu hi' he hs hp h.1;exact yV hnd hrun (hK _ _ _ _ _ _ (qZ _ _) (he.put hd hr) (Nxt.refl hs) h.2)
 ·have hke:k.erase=k:=by cases k<;>first | rfl | exact(hb ⟨_,_,_,_,_,_,rfl⟩).elim | exact(hbr ⟨_,_,_,rfl⟩).elim | exact(hbw ⟨_,_,_,_,_,rfl⟩).elim | exact(hbz ⟨_,_,_,rfl⟩).elim
  rw[hke]at hc;exact zRV hc hd he hs h hK hQ
end
end Go.Abs
namespace Go.Abs
inductive Ex where
 | norm
 | exit (id:Nat)
 | ret
 | pan (v:Value)
def Ex.exit?:Ex→Exit
 | .norm=>.normal
 | .exit id=>.exit id
 | .ret=>.ret
 | .pan v=>.panic [{v,recovered:=false}]
noncomputable def wpG (P:Program) (Qp:Value→Env→St→Prop) (K:Env→St→Prop) (g:KG) (env:Env) (σ : St):Prop :=
 match g.guard with
 | none=>wpO P Qp K g.op env σ
 | some (s,want)=>match env s with
  | .lit (.bool b)=>zF5 (b==want) (wpO P Qp K g.op) (zGq g.op.dst K) env σ
  | .lit (.tuple _)=>zGq g.op.dst K env σ
  | _=>False
noncomputable def zCF (P:Program) (Qp:Value→Env→St→Prop) (K:Env→St→Prop):List KG→Env→St→Prop
 | [],env,σ=>K env σ
 | g::rest,env,σ=>wpG P Qp (zCF P Qp K rest) g env σ
section
variable {P:Program}{H:Mem}{L:List LI} {σ : St}{w:World}{N:Nat}{env:Env}{a:Act}
def zR1 (D:Nat):Deferred:={target:=.collected D,args:=#[]}
def Mk (w w':World)(dfs ds:List Deferred):Prop:=∃Ds:List Nat,ds=Ds.map zR1++dfs∧Ds.Nodup∧∀D∈Ds,w.heap.size≤D∧w'.heap[D]?=some (.deferred (some []))
theorem Mk.refl (w w':World)(ds:List Deferred):Mk w w' ds ds:=⟨[],rfl,by simp,by simp⟩
theorem Mk.step {w w1 w2:World}{dfs ds:List Deferred}(h:Mk w w1 dfs ds)(hk:∀(k:Nat) d,w1.heap[k]?=some (.deferred d)→w2.heap[k]?=some (.deferred d)):Mk w w2 dfs ds:=by obtain⟨Ds,h1,h2,h3⟩:=h;exact⟨Ds,h1,h2,fun D hD=>⟨(h3 D hD).1,hk _ _ (h3 D hD).2⟩⟩
theorem Mk.trans {w w1 w2:World}{dfs ds es:List Deferred}(h:Mk w w1 dfs ds)(hs:w.heap.size≤w1.heap.size)(hk:∀(k:Nat) d,w1.heap[k]?=some (.deferred d)→w2.heap[k]?=some (.deferred d))(h':Mk w1 w2 ds es):Mk w w2 dfs es:=by
 obtain⟨Ds,h1,h2,h3⟩:=h;obtain⟨Es,k1,k2,k3⟩:=h';refine⟨Es++Ds,by rw[k1,h1,jB1,jAv],?_,fun D hD=>?_⟩
 ·rw[jCy];refine⟨k2,h2,fun x hx y hy e=>?_⟩;subst e;have:=(k3 x hx).1;have:=(jD2.1 (h3 x hy).2).1;omega
 ·rcases jA8.1 hD with hD | hD
  ·exact⟨jBp hs (k3 D hD).1,(k3 D hD).2⟩
  ·exact⟨(h3 D hD).1,hk _ _ (h3 D hD).2⟩
def zHj (H:Mem)(L:List LI)(w:World)(N:Nat)(Q:Ex→Env→St→Prop)(dfs:List Deferred):Exit→Act→World→Prop:=fun e a' w' =>
 ∃x env' σ' H' L',e=x.exit?∧Mk w w' dfs a'.defers∧qJ H' L' N env' a'.tmps∧Nxt H L w H' L' σ' w'∧Q x env' σ'
theorem zHj.next {H':Mem}{L':List LI} {σ':St}{w':World}{Q:Ex→Env→St→Prop}{dfs ds:List Deferred}(hn:Nxt H L w H' L' σ' w')(hm:Mk w w' dfs ds){e:Exit}{b:Act}{v:World}(h:zHj H' L' w' N Q ds e b v):zHj H L w N Q dfs e b v:=by obtain⟨x,env'',σ'',H'',L'',h1,h2,h3,h4,h5⟩:=h;exact⟨x,env'',σ'',H'',L'',h1,hm.trans hn.step.size h4.step.dfr h2,h3,hn.trans h4,h5⟩
theorem zD3 {ops:Array Oper}{o:Oper}{j:Nat}{want:Bool}{s:Nat}(hg:o.guard=some (j,want))(hs:(ops[j]?).bind (·.dst)=some s)(hN:s<a.tmps.size) :
 (∀b,a.tmps.getD s undef=.bool b→Region.wanted o (yielded ops a.tmps)=decide (b=want))∧(∀t,a.tmps.getD s undef=.tuple t→Region.wanted o (yielded ops a.tmps)=false):=by
 have hget:a.tmps[s]?=some (a.tmps.getD s undef):=by simp[hN]
 constructor
 ·intro b hb;simp only[Region.wanted,hg,yielded,hs,Option.bind_some,hget,hb];cases b<;>cases want<;>rfl
 ·intro t ht;simp only[Region.wanted,hg,yielded,hs,Option.bind_some,hget,ht];cases want<;>rfl
theorem zAa {ops:Array Oper}{o:Oper}{g:KG}(h:zDJ P N ops o=some g) :
 zA0 P o=some g.op∧(∀x,o.dst=some x→x<N)∧((o.guard=none∧g.guard=none)∨∃j want s,o.guard=some (j,want)∧(ops[j]?).bind (·.dst)=some s∧g.guard=some (s,want)):=by
 unfold zDJ at h;split at h<;>try (cases h; done)
 rename_i k hk;split at h<;>try (cases h; done)
 rename_i hd;have hd':∀x,o.dst=some x→x<N:=fun x hx=>by simpa [qBz,hx] using hd
 split at h
 ·rename_i hg; cases h; exact⟨hk,hd',.inl ⟨hg,rfl⟩⟩
 ·rename_i j want hg;split at h<;>try (cases h; done)
  rename_i s hs;cases h;exact⟨hk,hd',.inr ⟨j,want,s,hg,hs,rfl⟩⟩
theorem zFb {ops:Array Oper}{j s:Nat}(hs:(ops[j]?).bind (·.dst)=some s)(hall:∀o∈ops.toList,∀x,o.dst=some x→x<N):s<N:=by
 cases ho:ops[j]? with
 | none=>rw[ho]at hs; cases hs
 | some o =>
  rw[ho]at hs;exact hall o (by rw[Array.mem_toList_iff]; exact Array.mem_of_getElem? ho) s hs
def zJ1 (P:Program)(N:Nat)(ops:Array Oper):List Oper→List KG→Prop
 | [],gs=>gs=[]
 | o::l,gs=>∃g rest,gs=g::rest∧zDJ P N ops o=some g.erase∧zJ1 P N ops l rest
theorem zKK {ops:Array Oper}:∀{l:List Oper} {gs:List KG},zCi P N ops l=some (gs.map KG.erase)→zJ1 P N ops l gs
 | [],gs,h=>by
  simp only[zCi,jA1]at h;cases gs with
  | nil=>rfl
  | cons g gs=>simp at h
 | o::l,gs,h=>by
  simp only[zCi]at h;split at h<;>try (cases h; done)
  rename_i g gs' hg hgs;cases gs with
  | nil=>simp at h
  | cons g' gs'' =>
   simp only[jAj,jA1,jB6]at h;obtain⟨rfl,rfl⟩:=h;exact⟨g',gs'',rfl,hg,zKK hgs⟩
theorem zGy {ro:Option Nat}{ops:Array Oper}(hall:∀o∈ops.toList,∀x,o.dst=some x→x<N){Q:Ex→Env→St→Prop}{dfs:List Deferred}{Qc:Exit→Act→World→Prop} :
 ∀(l:List Oper) (gs:List KG) {H:Mem} {L:List LI} {σ : St} {w:World} {env:Env} {a:Act},zJ1 P N ops l gs→qJ H L N env a.tmps→RelSt H L σ w→a.defers=dfs →
  zCF P (fun v=>Q (.pan v)) (Q .norm) gs env σ→(∀e b v,zHj H L w N Q dfs e b v→Qc e b v)→wpListIn (Wr ro) 0 P ops Qc l a w
 | [],gs,H,L,σ,w,env,a,hc,he,hs,hd,h,hQ=>by simp only[zJ1]at hc;subst hc;exact hQ _ _ _ ⟨.norm,env,σ,H,L,rfl,hd▸Mk.refl _ _ _,he,Nxt.refl hs,h⟩
 | o::l,gs,H,L,σ,w,env,a,hc,he,hs,hd,h,hQ=>by
  simp only[zJ1]at hc;obtain⟨g,gs',rfl,hg,hgs⟩:=hc;obtain⟨hk,hdst,hgd⟩:=zAa hg;have hkd:=zA5 hk;have hke:g.erase.op.dst=g.op.dst:=by show g.op.erase.dst=g.op.dst;cases g.op<;>rfl
  rw[hke]at hkd;simp only[zCF]at h;have exec:wpO P (fun v=>Q (.pan v)) (zCF P (fun v=>Q (.pan v)) (Q .norm) gs') g.op env σ→o.wpIn (Wr ro) 0 P a w (wpListIn (Wr ro) 0 P ops Qc l) Qc:=by
   intro h;refine zDH hk hdst he hs h (fun env' σ' H' L' a' w' h1 h2 h3 h4=>?_) (fun v σ' H' L' w' h1 h2=>?_)
   ·exact zGy hall l gs' hgs h2 h3.st (h1.trans hd) h4 fun e b v hp=>hQ e b v (hp.next h3 (Mk.refl _ _ _))
   ·exact hQ _ _ _ ⟨.pan v,env,σ',H',L',rfl,hd▸Mk.refl _ _ _,he.mono h1.step.hle h1.lle,h1,h2⟩
  have skip:zCF P (fun v=>Q (.pan v)) (Q .norm) gs' (env.put g.op.dst (.lit undef)) σ→wpListIn (Wr ro) 0 P ops Qc l (a.put o.dst undef) w:=by intro h;refine zGy hall l gs' hgs ?_ hs ((qZ _ _).trans hd) h hQ;rw[hkd];exact he.put hdst (by simp[Rel])
  unfold wpListIn;have hge:g.erase.guard=g.guard:=rfl;rw[hge]at hgd;rcases hgd with ⟨ho,hgn⟩ | ⟨j,want,s,ho,hsl,hgn⟩
  ·simp only[wpG,hgn]at h;have hw:Region.wanted o (yielded ops a.tmps)=true:=by simp[Region.wanted,ho]
   rw[if_pos hw];exact exec h
  ·simp only[wpG,hgn]at h;have hsN:=zFb hsl hall;obtain⟨w1,w2⟩:=zD3 (a:=a) ho hsl (jBv hsN he.1);have hrel:=he.2 s;split at h
   ·rename_i b hb;rw[hb]at hrel;simp only[Rel]at hrel;rw[w1 b hrel];by_cases hbw:b=want
    ·simp only[hbw,decide_true,if_true];exact exec (h.1 (by simp[hbw]))
    ·simp only[hbw,decide_false,jAc,if_false];exact⟨fun _ _=>trivial,skip (h.2 (by simp[hbw]))⟩
   ·rename_i t ht;rw[ht]at hrel;simp only[Rel]at hrel;rw[w2 t hrel];simp only[jAc,if_false];exact⟨fun _ _=>trivial,skip h⟩
   ·exact h.elim
end
end Go.Abs
