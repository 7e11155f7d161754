/-
  Keys of maps that are made of integers: they are compared cell by cell, they may be keys, and they stay.
  The operations on maps: what they run to, and that they keep the abstract state.
-/
import Derived.Test.YthglhccibdlccaaGreatDoorX6
import Derived.WideKeyRuns
import Derived.Maps.RangeRun
import Derived.Carry
set_option linter.unusedVariables false
set_option linter.unusedSimpArgs false
namespace Go.Abs
def zKv (P:Program)(t:TypeId)(xs:List Int):Value:=match P.underlying t with
 | some (.struct _)=>.agg (xs.map zFJ).toArray
 | _=>zFJ (xs.headD 0)
section
variable {P:Program}{w:World}
theorem zJV {t:TypeId}{d n:Nat}(h:zCN P d t=some n)(hi:(P.info? t).map (·.size)=some n){pre xs:List Int}(hx:n≤xs.length) :
 (part t ((pre++xs).map zFJ).toArray pre.length).run P w=.ok (zKv P t (xs.take n)) w:=by
 cases d with
 | zero=>simp[zCN]at h
 | succ d =>
 unfold zCN at h;unfold part zKv;split at h
 ·rename_i hu;cases h;rw[Sem.run_bind,zDc hu,Result.andThen_ok,hu];simp only[zG7,Bool.false_eq_true,if_false];cases xs with
  | nil=>simp at hx
  | cons x xs=>simp
 ·rename_i fs hu;obtain⟨i,hii,hsz⟩:=Option.map_eq_some_iff.1 hi;rw[Sem.run_bind,zDc hu,Result.andThen_ok,hu];simp only[zG7,if_true,Sem.run_bind,jZ hii,Result.andThen_ok,hsz,Sem.run_pure]
  congr 2
  apply Array.ext';simp[Array.toList_extract,List.extract,List.drop_append,List.map_take]
 ·cases h
theorem eqI:∀(d D n:Nat) (t:TypeId) (xs ys:List Int),d≤D→zCN P d t=some n→xs.length=n→ys.length=n→(Op.equalIn D t (zKv P t xs) (zKv P t ys)).run P w=.ok (decide (xs=ys)) w
 | 0,_,_,_,_,_,_,h,_,_=>by simp[zCN]at h
 | d+1,0,_,_,_,_,hD,_,_,_=>by omega
 | d+1,D+1,n,t,xs,ys,hD,h,hx,hy=>by
  unfold zCN at h;split at h
  ·rename_i hu;cases h;unfold zKv;rw[hu]
   match xs,hx,ys,hy with
   | [x],_,[y],_ =>
    simp only[List.headD_cons,zFJ];rw[run_equalIn_int w D t .i64 .i64 x y hu]
    congr 1
    by_cases hxy:x=y<;>simp[hxy]
  ·rename_i fs hu;split at h
   ·cases h
   rename_i hst;unfold zKv;rw[hu];have hfo:P.fieldsOf t=fs:=by simp[Program.fieldsOf,hu]
   rw[run_equalIn_struct w D t _ _ (by rw[hfo]; exact hu) (by simpa using hst),hfo];have go:∀(fs:List Field) (pre pre' xs ys:List Int),pre.length=pre'.length→zDQ P (zCN P d) pre.length fs=some n→pre.length+xs.length=n→pre.length+ys.length=n →
    (Op.eqFields D ((pre++xs).map zFJ).toArray ((pre'++ys).map zFJ).toArray fs).run P w=.ok (decide (xs=ys)) w:=by
    intro fs;induction fs with
    | nil =>
     intro pre pre' xs ys hp hf hx hy;simp only[zDQ,Option.some.injEq]at hf;have e1:xs=[]:=List.length_eq_zero_iff.1 (by omega);have e2:ys=[]:=List.length_eq_zero_iff.1 (by omega);simp[Op.eqFields,e1,e2]
    | cons f fs ih =>
     intro pre pre' xs ys hp hf hx hy;unfold zDQ at hf;split at hf<;>try (cases hf; done)
     rename_i hof;obtain⟨hof,hnm⟩:=hof;split at hf<;>try (cases hf; done)
     rename_i k hk;split at hf<;>try (cases hf; done)
     rename_i hsz;have hkn:pre.length+k≤n:=by
      have mono:∀(fs:List Field) (o n:Nat),zDQ P (zCN P d) o fs=some n→o≤n:=by
       intro fs;induction fs with
       | nil=>intro o n h; simp only[zDQ,Option.some.injEq]at h; omega
       | cons f fs ih =>
        intro o n h;unfold zDQ at h;split at h<;>try (cases h; done)
        split at h<;>try (cases h; done)
        split at h<;>try (cases h; done)
        have:=ih _ _ h;omega
      exact mono _ _ _ hf
     have p1:=zJV (w:=w) (pre:=pre) (xs:=xs) hk hsz (by omega);have p2:=zJV (w:=w) (pre:=pre') (xs:=ys) hk hsz (by omega);rw[←hof]at p1;rw[←hp,←hof]at p2;have hq:=eqI d D k f.type (xs.take k) (ys.take k) (by omega) hk (by simp; omega) (by simp; omega);have:=ih (pre++xs.take k) (pre'++ys.take k) (xs.drop k) (ys.drop k) (by simp; omega) (by simpa [Nat.min_eq_left (show k≤xs.length by omega)] using hf) (by simp; omega) (by simp; omega);simp only[List.append_assoc,List.take_append_drop]at this;simp only[Op.eqFields,hnm,ne_eq,not_false_eq_true,if_true,Sem.run_bind,p1,p2,Result.andThen_ok,hq];have hdec:decide (xs=ys)=(decide (xs.take k=ys.take k)&&decide (xs.drop k=ys.drop k)):=by
      by_cases h:xs=ys
      ·simp[h]
      ·have:¬(xs.take k=ys.take k∧xs.drop k=ys.drop k):=fun⟨a,b⟩=>h (by rw[←List.take_append_drop k xs,a,b,List.take_append_drop])
       simp only[h,decide_false];symm;rw[Bool.and_eq_false_iff];by_cases h1:xs.take k=ys.take k
       ·right; simp only[decide_eq_false_iff_not]; exact fun e=>this ⟨h1,e⟩
       ·left; simp[h1]
     rw[hdec];by_cases h1:xs.take k=ys.take k
     ·simp only[h1,decide_true,Bool.not_true,Bool.false_eq_true,if_false,this,Bool.true_and]
     ·simp[h1]
   exact go fs.toList [] [] xs ys rfl h (by simpa using hx) (by simpa using hy)
  ·cases h
theorem zTW (em:Bool):∀(d D n:Nat) (t:TypeId) (xs:List Int),d≤D→zCN P d t=some n→xs.length=n→(Instr.checkKey em D t (zKv P t xs)).run P w=.ok () w
 | 0,_,_,_,_,_,h,_=>by simp[zCN]at h
 | d+1,0,_,_,_,hD,_,_=>by omega
 | d+1,D+1,n,t,xs,hD,h,hx=>by
  unfold zCN at h;split at h
  ·rename_i hu;cases h;unfold zKv;rw[hu];simp[Instr.checkKey,run_underlying hu,zFJ]
  ·rename_i fs hu;split at h
   ·cases h
   rename_i hst;unfold zKv;rw[hu];simp only[Instr.checkKey,Sem.run_bind,run_underlying hu,Result.andThen_ok];rw[←Array.forIn_toList];have go:∀(fs:List Field) (pre xs:List Int),zDQ P (zCN P d) pre.length fs=some n→pre.length+xs.length=n →
    (forIn (m:=Sem) fs PUnit.unit fun f (_:PUnit)=>(if f.name ≠ "_" then do
     let a ←part f.type ((pre++xs).map zFJ).toArray f.offset
     Instr.checkKey em D f.type a
     pure (ForInStep.yield PUnit.unit)
     else pure (ForInStep.yield PUnit.unit))).run P w=.ok PUnit.unit w:=by
    intro fs;induction fs with
    | nil=>intro pre xs _ _; simp
    | cons f fs ih =>
     intro pre xs hf hx;unfold zDQ at hf;split at hf<;>try (cases hf; done)
     rename_i hof;obtain⟨hof,hnm⟩:=hof;split at hf<;>try (cases hf; done)
     rename_i k hk;split at hf<;>try (cases hf; done)
     rename_i hsz;have hkn:pre.length+k≤n:=by
      have mono:∀(fs:List Field) (o n:Nat),zDQ P (zCN P d) o fs=some n→o≤n:=by
       intro fs;induction fs with
       | nil=>intro o n h; simp only[zDQ,Option.some.injEq]at h; omega
       | cons f fs ih =>
        intro o n h;unfold zDQ at h;split at h<;>try (cases h; done)
        split at h<;>try (cases h; done)
        split at h<;>try (cases h; done)
        have:=ih _ _ h;omega
      exact mono _ _ _ hf
     have p1:=zJV (w:=w) (pre:=pre) (xs:=xs) hk hsz (by omega);rw[←hof]at p1;have hq:=zTW em d D k f.type (xs.take k) (by omega) hk (by simp; omega);have:=ih (pre++xs.take k) (xs.drop k) (by simpa [Nat.min_eq_left (show k≤xs.length by omega)] using hf) (by simp; omega);simp only[List.append_assoc,List.take_append_drop]at this;simp only[List.forIn_cons,hnm,ne_eq,not_false_eq_true,if_true,Sem.run_bind,p1,Result.andThen_ok,hq,Sem.run_pure];exact this
   have h':=go fs.toList [] xs h (by simpa using hx);simp at h' ⊢;rw[h'];rfl
  ·cases h
end
end Go.Abs
namespace Go.Abs
section
variable {P:Program}{H:Mem}{L:List LI} {σ : St}{w:World}{N:Nat}{env:Env}{a:Act}
theorem zLx:∀{cs:List A} {ks:List Int} {vs:List Value},zFR cs=some ks→zV H L cs vs→vs=ks.map zFJ
 | [],ks,vs,h,hr=>by simp only[zFR,Option.some.injEq]at h; subst h; rw[jK hr]; rfl
 | c::cs,ks,vs,h,hr=>by
  unfold zFR at h;split at h<;>try (cases h; done)
  ·rename_i heq; cases heq
  rename_i n l heq;cases heq;simp only[Option.map_eq_some_iff]at h;obtain⟨ks',hk,rfl⟩:=h;obtain⟨u,us,rfl,h1,h2⟩:=zY hr;simp only[Rel]at h1;rw[h1,zLx hk h2];rfl
theorem zJ7 {nk:Nat}{x:A}{ks:List Int}{v:Value}(h:zGV nk x=some ks)(hr:Rel H L x v):v=zCt ks∧ks.length=nk:=by
 unfold zGV at h;split at h<;>try (cases h; done)
 split at h<;>try (cases h; done)
 rename_i ks' hk;split at h<;>try (cases h; done)
 rename_i hn;cases h;simp only[Rel]at hr;obtain⟨vs,rfl,h1,_⟩:=hr;exact⟨by rw[zLx hk h1]; rfl,hn⟩
theorem zOl (ks:List Int):Rel H L (zJ8 ks) (zCt ks):=by
 simp only[zJ8,zCt,Rel];refine⟨ks.map zFJ,rfl,?_,fun u hu=>?_⟩
 ·induction ks with
  | nil=>exact jL
  | cons k ks ih=>exact qS (by simp[Rel,zFJ]) ih
 ·obtain⟨n,_,rfl⟩:=List.mem_map.1 hu;rfl
theorem zHt {k:TypeId}{nk:Nat}(h:zGW P k=some nk):(match P.underlying k with | some (.array _ _) | some (.struct _)=>true | _=>false)=true∧zCN P 20 k=some nk∧∀ks,zKv P k ks=zCt ks:=by
 unfold zGW at h;split at h<;>try (cases h; done)
 rename_i fs hu;refine⟨by rw[hu],h,fun ks=>?_⟩;unfold zKv;rw[hu];rfl
theorem zGP {k:TypeId}{nk:Nat}(hk:zGW P k=some nk){ks:List Int}(hks:ks.length=nk):∀(es:List (List Int×A)) (l:List MapEntry) (i:Nat),zAb H L es l→(∀p∈es,p.1.length=nk) →
 (zAx ks es=none∧(Instr.findAsking k (zCt ks) l i).run P w=.ok none w∧(∀v,zCW ks v es=es++[(ks,v)])∧zH9 ks es=es) ∨
 ∃(j:Nat) (p:List Int×A) (e:MapEntry),es[j]?=some p∧p.1=ks∧zAx ks es=some p.2∧l[j]?=some e∧Rel H L p.2 e.val∧e.key=zCt ks∧(Instr.findAsking k (zCt ks) l i).run P w=.ok (some (i+j,e.val)) w∧(∀v,zCW ks v es=es.set j (ks,v))∧zH9 ks es=es.eraseIdx j
 | [],l,i,h,_=>by rw[show l=[] from h];exact .inl ⟨rfl,by simp[Instr.findAsking],fun v=>rfl,rfl⟩
 | p::es,l,i,h,hn=>by
  obtain⟨e,l',rfl,h1,h2,h3⟩:=h;obtain⟨_,hi,hv⟩:=zHt hk;have heq:=eqI (P:=P) (w:=w) 20 10000 nk k ks p.1 (by decide) hi hks (hn p (List.mem_cons_self ..));rw[hv,hv,←h1]at heq;have heq:(Op.equal k (zCt ks) e.key).run P w=.ok (decide (ks=p.1)) w:=heq;by_cases hp:p.1=ks
  ·refine .inr ⟨0,p,e,rfl,hp,by simp[zAx,hp],rfl,h2,by rw[h1,hp],?_,fun v=>by simp[zCW,hp],by simp[zH9,hp]⟩;simp[Instr.findAsking,heq,hp]
  ·have hp':¬ks=p.1:=fun e=>hp e.symm
   rcases zGP hk hks es l' (i+1) h3 (fun q hq=>hn q (List.mem_cons_of_mem _ hq))with ⟨g1,g2,g3,g4⟩ | ⟨j,q,e',g1,g2,g3,g4,g5,g6,g7,g8,g9⟩
   ·refine .inl ⟨by simp[zAx,hp,g1],?_,fun v=>by simp[zCW,hp,g3],by simp[zH9,hp,g4]⟩;simp[Instr.findAsking,heq,hp',g2]
   ·refine .inr ⟨j+1,q,e',by simpa using g1,g2,by simp[zAx,hp,g3],by simpa using g4,g5,g6,?_,fun v=>by simp[zCW,hp,g8],by simp[zH9,hp,g9]⟩;simp only[Instr.findAsking,Sem.run_bind,heq,Result.andThen_ok,hp',decide_false,Bool.false_eq_true,if_false,g7]
    congr 3
    omega
theorem zCZ {k:TypeId}{nk:Nat}(hk:zGW P k=some nk){ks:List Int}(hks:ks.length=nk)(em:Bool):(Instr.checkKey em 10000 k (zCt ks)).run P w=.ok () w:=by
 obtain⟨_,hi,hv⟩:=zHt hk;have:=zTW (P:=P) (w:=w) em 20 10000 nk k ks (by decide) hi hks
 rwa [hv]at this
theorem zM0 (ks:List Int):Instr.sameBits 10000 (zCt ks) (zCt ks)=true:=by
 simp only[zCt,Instr.sameBits,beq_self_eq_true,Bool.true_and,List.all_eq_true];intro p hp;obtain⟨x,y⟩:=p;have hxy:x=y∧∃n,x=zFJ n:=by
  have:∀(l:List Value),(∀v∈l,∃n,v=zFJ n)→∀q∈l.zip l,q.1=q.2∧∃n,q.1=zFJ n:=by
   intro l;induction l with
   | nil=>intro _ q hq; simp at hq
   | cons v l ih =>
    intro h q hq;simp only[List.zip_cons_cons,List.mem_cons]at hq;rcases hq with rfl | hq
    ·exact⟨rfl,h v (List.mem_cons_self ..)⟩
    ·exact ih (fun v hv=>h v (List.mem_cons_of_mem _ hv)) q hq
  exact this _ (fun v hv=>by simp only[List.mem_map]at hv;obtain⟨n,_,rfl⟩:=hv;exact⟨n,rfl⟩) _ hp
 obtain⟨rfl,n,rfl⟩:=hxy;simp[zFJ,Instr.sameBits]
theorem zWS {t k e:TypeId}{nk:Nat}(ht:P.underlying t=some (.map k e))(hk:zGW P k=some nk){i:TypeInfo}(hi:P.info? e=some i){z:Value}(hz:i.zero=some z){ks:List Int}(hks:ks.length=nk){es:List (List Int×A)}{ents:Array MapEntry}{ck b:Nat}
 (hb:w.heap[b]?=some (.map ents ck))(hr:zAb H L es ents.toList)(hn:∀p∈es,p.1.length=nk)(ok:Bool) :
 ∃v,(Instr.lookup t (.map (some b)) (zCt ks) ok).run P w=.ok v w∧Rel H L (zEX z ok (zAx ks es)) v:=by
 obtain⟨hw,_,_⟩:=zHt hk;have hzr:(zeroValue e).run P w=.ok z w:=by simp[zeroValue,typeInfo,hi,hz]
 have hg:(getObj b).run P w=.ok (.map ents ck) w:=by simp[getObj,Sem.run,hb]
 rcases zGP (w:=w) hk hks es ents.toList 0 hr hn with ⟨g1,g2,_,_⟩ | ⟨j,p,en,g1,g2,g3,g4,g5,g6,g7,_,_⟩
 ·refine⟨if ok then .tuple #[z,.bool false] else z,?_,?_⟩
  ·simp only[Instr.lookup,Sem.run_bind,run_underlying ht,Result.andThen_ok,hg,Sem.run_pure,zCZ hk hks,run_findKey_eq w hw,g2,hzr]
  ·cases ok
   ·simp only[zEX,g1,Option.getD_none];exact zFi z
   ·simp only[zEX,g1,if_true,Option.getD_none,Option.isSome_none,Rel];exact⟨[z,.bool false],rfl,qS (zFi z) (qS (by simp[Rel]) jL)⟩
 ·refine⟨if ok then .tuple #[en.val,.bool true] else en.val,?_,?_⟩
  ·simp only[Instr.lookup,Sem.run_bind,run_underlying ht,Result.andThen_ok,hg,Sem.run_pure,zCZ hk hks,run_findKey_eq w hw,g7]
  ·cases ok
   ·simp only[zEX,g3,Option.getD_some];exact g5
   ·simp only[zEX,g3,if_true,Option.getD_some,Option.isSome_some,Rel];exact⟨[en.val,.bool true],rfl,qS g5 (qS (by simp[Rel]) jL)⟩
theorem zJT (hs:RelSt H L σ w)(ob:AObj)(o:Obj)(ho:zS H (L++[(⟨some w.heap.size,0,0,false⟩:LI)]) (w.alloc o) ⟨some w.heap.size,0,0,false⟩ ob) :
 Nxt H L w H (L++[(⟨some w.heap.size,0,0,false⟩:LI)]) (σ++[ob]) (w.alloc o):=by
 have hll:=LLe.append L [(⟨some w.heap.size,0,0,false⟩:LI)];refine⟨⟨fun b o v hv=>?_,by simp[hs.len],fun i l o hL hσ=>?_,fun i j l l' b hi hj hb hb'=>?_,fun i l b hL hb=>?_⟩,
  ⟨rfl,rfl,rfl,by simp,fun k hk _=>heap_alloc_old w _ (h:=hk),HLe.refl _,fun b o v hv=>.inl hv,Nat.le_refl _,zDz (fun k hk=>heap_alloc_old w _ (h:=hk))⟩,hll,fun b ⟨i,l,hL,hb⟩=>?_⟩
 ·rw[World.cell?_alloc_lt _ _ _ (hs.h_lt hv)];exact hs.pers b o v hv
 ·rcases jB hL with hL' | ⟨rfl,rfl⟩
  ·have hi:i<L.length:=(List.getElem?_eq_some_iff.1 hL').1;rw[List.getElem?_append_left (by rw[←hs.len]; exact hi)]at hσ;exact(hs.obj i l o hL' hσ).carry (fun b hb=>heap_alloc_old w _ (h:=hs.lt i l b hL' hb)) (HLe.refl _) hll (fun _ _ _=>rfl)
  ·rw[hs.len]at hσ;rw[List.getElem?_append_right (Nat.le_refl _)]at hσ;simp only[Nat.sub_self,List.getElem?_cons_zero,Option.some.injEq]at hσ;subst hσ;exact ho
 ·rcases jB hi with hi' | ⟨rfl,rfl⟩
  ·rcases jB hj with hj' | ⟨rfl,rfl⟩
   ·exact hs.inj i j l l' b hi' hj' hb hb'
   ·cases hb'; have:=hs.lt i l _ hi' hb; omega
  ·cases hb;rcases jB hj with hj' | ⟨rfl,rfl⟩
   ·have:=hs.lt j l' _ hj' hb'; omega
   ·rfl
 ·rcases jB hL with hL' | ⟨rfl,rfl⟩
  ·have:=hs.lt i l b hL' hb; simp; omega
  ·cases hb; simp
 ·rcases jB hL with hL' | ⟨rfl,rfl⟩
  ·exact .inl ⟨i,l,hL',hb⟩
  ·cases hb; exact .inr (Nat.le_refl _)
theorem zDi (hs:RelSt H L σ w){l b:Nat}{li:LI}{o0 o:Obj}{ob:AObj}(hl:L[l]?=some li)(hb:li.block=some b)(h0:w.heap[b]?=some o0)(hc:∀c e f,o0≠.cells c e f)(hv:∀a t,o0≠.view a t)(hp:∀c e,o0≠.pending c e)(hn:∀a x,o0≠.number a x)(hd:∀d,o0≠.deferred d)
 (ho:zS H L (w.putObj b o) li ob):Nxt H L w H L (σ.set l ob) (w.putObj b o):=by
 have hnone:∀o,H b o=none:=fun o=>by
  cases hH:H b o with
  | none=>rfl
  | some v =>
   have:=hs.pers b o v hH;simp only[World.cell?,h0]at this;cases o0<;>simp_all
 exact zF6 hs hl hb rfl rfl rfl rfl (fun d=>by rw[h0]; exact fun e=>hd d (Option.some.inj e)) (by simp) (fun k hk=>World.putObj_heap_other hk) (HLe.refl _) (fun _ _ _ h=>.inl h) (fun o' v hv=>by rw[hnone]at hv; cases hv) ho
theorem zE8 {r:Nat}{es:Array MapEntry}{ck:Nat}(o:Obj)(h:w.heap[r]?=some (.map es ck)):(setObj r o).run P w=.ok () (w.putObj r o):=by simp[setObj,Sem.run,h,World.putObj]
theorem zJH {α : Type}(a:Array α)(j:Nat)(f : α→α)(x : α)(h:a[j]?=some x):a.modify j f=a.setIfInBounds j (f x):=by
 apply Array.ext';rw[Array.toList_modify,Array.toList_setIfInBounds];apply List.ext_getElem?;intro i;rw[List.getElem?_modify,List.getElem?_set];rw[←Array.getElem?_toList]at h;by_cases hi:j=i
 ·subst hi;have:=(List.getElem?_eq_some_iff.1 h).1;rw[Array.length_toList]at this;have hx:a[j]=x:=by rw[Array.getElem?_toList,Array.getElem?_eq_getElem this]at h; exact Option.some.inj h
  simp[this,hx,h]
 ·simp[hi]
theorem zAb.setAt:∀{es:List (List Int×A)} {l:List MapEntry} {j:Nat} {e:MapEntry} {ks:List Int} {a:A},zAb H L es l→e.key=zCt ks→Rel H L a e.val→zAb H L (es.set j (ks,a)) (l.set j e)
 | [],l,j,e,ks,a,h,_,_=>by rw[show l=[] from h]; exact rfl
 | p::es,_,0,e,ks,a,⟨e0,l',rfl,h1,h2,h3⟩,hk,hr=>⟨e,l',rfl,hk,hr,h3⟩
 | p::es,_,j+1,e,ks,a,⟨e0,l',rfl,h1,h2,h3⟩,hk,hr=>⟨e0,_,rfl,h1,h2,zAb.setAt h3 hk hr⟩
theorem zAb.snoc:∀{es:List (List Int×A)} {l:List MapEntry} {e:MapEntry} {ks:List Int} {a:A},zAb H L es l→e.key=zCt ks→Rel H L a e.val→zAb H L (es++[(ks,a)]) (l++[e])
 | [],l,e,ks,a,h,hk,hr=>by rw[show l=[] from h]; exact⟨e,[],rfl,hk,hr,rfl⟩
 | p::es,_,e,ks,a,⟨e0,l',rfl,h1,h2,h3⟩,hk,hr=>⟨e0,_,rfl,h1,h2,zAb.snoc h3 hk hr⟩
theorem zAb.eraseAt:∀{es:List (List Int×A)} {l:List MapEntry} {j:Nat},zAb H L es l→zAb H L (es.eraseIdx j) (l.eraseIdx j)
 | [],l,j,h=>by rw[show l=[] from h]; exact rfl
 | p::es,_,0,⟨e0,l',rfl,h1,h2,h3⟩=>by simpa using h3
 | p::es,_,j+1,⟨e0,l',rfl,h1,h2,h3⟩=>⟨e0,_,rfl,h1,h2,zAb.eraseAt h3⟩
theorem zIg {t k e:TypeId}{nk:Nat}(ht:P.underlying t=some (.map k e))(hk:zGW P k=some nk)(hs:RelSt H L σ w){l:Nat}{fr:Bool}{ks:List Int}(hks:ks.length=nk){es:List (List Int×A)}{m v:Value}{x:A}
 (hm:Rel H L (.map l) m)(hσ : σ[l]?=some (.mp fr nk es))(hv:Rel H L x v) :
 ∃w',(Instr.mapUpdate t m (zCt ks) v).run P w=.ok () w'∧Nxt H L w H L (σ.set l (.mp fr nk (zCW ks x es))) w':=by
 obtain⟨hw,_,_⟩:=zHt hk;simp only[Rel]at hm;obtain⟨li,b,hL,hb,hrow,rfl⟩:=hm;have hob:=hs.obj l li _ hL hσ;simp only[zS]at hob;obtain⟨_,b',ents,ck,e1,h2,hr,hbn,hn⟩:=hob;rw[hb]at e1;cases e1;have hg:(getObj b).run P w=.ok (.map ents ck) w:=by simp[getObj,Sem.run,h2]
 have hlt:=hs.lt l li b hL hb;have hsame:∀o,(w.putObj b o).heap[b]?=some o:=fun o=>World.putObj_heap_same hlt
 rcases zGP (w:=w) hk hks es ents.toList 0 hr hn with ⟨g1,g2,g3,_⟩ | ⟨j,p,en,g1,g2,g3,g4,g5,g6,g7,g8,_⟩
 ·refine⟨w.putObj b (.map (ents.push ⟨zCt ks,v,ck⟩) (ck+1)),?_,?_⟩
  ·simp only[Instr.mapUpdate,Sem.run_bind,run_underlying ht,Result.andThen_ok,hg,zCZ hk hks,run_findKey_eq w hw,g2,zE8 _ h2]
  ·rw[g3];refine zDi hs hL hb h2 (by simp) (by simp) (by simp) (by simp) (by simp) ?_;simp only[zS];refine⟨hrow,b,_,_,hb,hsame _,by rw[Array.toList_push]; exact zAb.snoc hr rfl hv,fun hf=>?_,fun q hq=>?_⟩
   ·obtain⟨c1,c2⟩:=hbn hf;refine⟨by simp[c1],fun i e he=>?_⟩;rw[Array.toList_push]at he;rcases jB he with he | ⟨rfl,rfl⟩
    ·exact c2 i e he
    ·exact c1
   ·rcases List.mem_append.1 hq with hq | hq
    ·exact hn q hq
    ·simp at hq; rw[hq]; exact hks
 ·have hj:ents[j]?=some en:=by rw[←Array.getElem?_toList]; exact g4
  have hmod:ents.modify j (fun e=>{e with key:=zCt ks,val:=v})=ents.setIfInBounds j {en with key:=zCt ks,val:=v}:=zJH ents j _ en hj;refine⟨w.putObj b (.map (ents.setIfInBounds j {en with key:=zCt ks,val:=v}) ck),?_,?_⟩
  ·simp only[Instr.mapUpdate,Sem.run_bind,run_underlying ht,Result.andThen_ok,hg,zCZ hk hks,run_findKey_eq w hw,g7,Nat.zero_add,hj,Option.map_some,Option.getD_some,g6,Instr.keyThatStays,zM0,if_true,Sem.run_pure,hmod,zE8 _ h2]
  ·rw[g8];refine zDi hs hL hb h2 (by simp) (by simp) (by simp) (by simp) (by simp) ?_;simp only[zS];refine⟨hrow,b,_,_,hb,hsame _,by rw[Array.toList_setIfInBounds]; exact zAb.setAt hr rfl hv,fun hf=>?_,fun q hq=>?_⟩
   ·obtain⟨c1,c2⟩:=hbn hf;refine⟨by simp[c1],fun i e he=>?_⟩;rw[Array.toList_setIfInBounds,List.getElem?_set]at he;split at he
    ·rename_i hji;subst hji;split at he
     ·cases he;exact c2 _ en g4
     ·cases he
    ·exact c2 i e he
   ·rcases List.mem_or_eq_of_mem_set hq with hq | rfl
    ·exact hn q hq
    ·exact hks
theorem qAL {t k e:TypeId}{nk:Nat}(ht:P.underlying t=some (.map k e))(hk:zGW P k=some nk)(hs:RelSt H L σ w){l:Nat}{fr:Bool}{ks:List Int}(hks:ks.length=nk){es:List (List Int×A)}{m:Value}
 (hm:Rel H L (.map l) m)(hσ : σ[l]?=some (.mp fr nk es))(ats:Array TypeId)(hat:ats[0]?=some t)(ty:TypeId) :
 ∃w',(Builtin.delete_ ats ty #[m,zCt ks]).run P w=.ok (.tuple #[]) w'∧Nxt H L w H L (σ.set l (.mp false nk (zH9 ks es))) w':=by
 obtain⟨hw,_,_⟩:=zHt hk;simp only[Rel]at hm;obtain⟨li,b,hL,hb,hrow,rfl⟩:=hm;have hob:=hs.obj l li _ hL hσ;simp only[zS]at hob;obtain⟨_,b',ents,ck,e1,h2,hr,hbn,hn⟩:=hob;rw[hb]at e1;cases e1;have hg:(getObj b).run P w=.ok (.map ents ck) w:=by simp[getObj,Sem.run,h2]
 have hlt:=hs.lt l li b hL hb;have hsame:∀o,(w.putObj b o).heap[b]?=some o:=fun o=>World.putObj_heap_same hlt
 rcases zGP (w:=w) hk hks es ents.toList 0 hr hn with ⟨g1,g2,_,g4⟩ | ⟨j,p,en,g1,g2,g3,g4,g5,g6,g7,_,g9⟩
 ·refine⟨w.putObj b (.map ents ck),?_,?_⟩
  ·simp only[Builtin.delete_,hat,List.getElem?_toArray,List.getElem?_cons_zero,List.getElem?_cons_succ,Sem.run_bind,run_underlying ht,Result.andThen_ok,hg,zCZ hk hks,run_findKey_eq w hw,g2,zE8 _ h2];rfl
  ·rw[g4];refine zDi hs hL hb h2 (by simp) (by simp) (by simp) (by simp) (by simp) ?_;simp only[zS];exact⟨hrow,b,_,_,hb,hsame _,hr,fun hf=>(by cases hf),hn⟩
 ·refine⟨w.putObj b (.map (ents.eraseIdxIfInBounds j) ck),?_,?_⟩
  ·simp only[Builtin.delete_,hat,List.getElem?_toArray,List.getElem?_cons_zero,List.getElem?_cons_succ,Sem.run_bind,run_underlying ht,Result.andThen_ok,hg,zCZ hk hks,run_findKey_eq w hw,g7,Nat.zero_add,zE8 _ h2];rfl
  ·rw[g9];refine zDi hs hL hb h2 (by simp) (by simp) (by simp) (by simp) (by simp) ?_;simp only[zS];have hsub:(ents.eraseIdxIfInBounds j).toList=ents.toList.eraseIdx j:=by
    unfold Array.eraseIdxIfInBounds;split
    ·simp
    ·rw[List.eraseIdx_of_length_le (by simp; omega)]
   exact⟨hrow,b,_,_,hb,hsame _,by rw[hsub]; exact zAb.eraseAt hr,fun hf=>(by cases hf),fun q hq=>hn q (List.mem_of_mem_eraseIdx hq)⟩
theorem qHp (hs:RelSt H L σ w)(nk:Nat):Nxt H L w H (L++[(⟨some w.heap.size,0,0,false⟩:LI)]) (σ++[AObj.mp true nk []]) (w.alloc (.map #[] 0)):=by refine zJT hs _ _ ?_;simp only[zS];exact⟨trivial,w.heap.size,#[],0,rfl,heap_alloc_new w _,rfl,fun _=>⟨rfl,fun i e he=>by simp at he⟩,by simp⟩
theorem qBJ {t k e:TypeId}(ht:P.underlying t=some (.map k e))(hs:RelSt H L σ w){l nk:Nat}{es:List (List Int×A)}{m:Value}(hm:Rel H L (.map l) m)(hσ : σ[l]?=some (.mp true nk es)) :
 ∃w',(Instr.range t m).run P w=.ok (.pointer (some ⟨w.heap.size,0,none⟩)) w'∧Nxt H L w H (L++[(⟨some w.heap.size,0,0,false⟩:LI)]) (σ++[AObj.it l es.length []]) w':=by
 simp only[Rel]at hm;obtain⟨li,b,hL,hb,hrow,rfl⟩:=hm;have hob:=hs.obj l li _ hL hσ;simp only[zS]at hob;obtain⟨_,b',ents,ck,e1,h2,hr,hbn,hn⟩:=hob;rw[hb]at e1;cases e1;obtain⟨c1,c2⟩:=hbn rfl;have hck:ck=es.length:=by rw[c1,hr.length]
 refine⟨w.alloc (.mapIter (some b) ck #[] ck),?_,?_⟩
 ·have hg:(getObj b).run P w=.ok (.map ents ck) w:=by simp[getObj,Sem.run,h2]
  simp only[Instr.range,Sem.run_bind,run_underlying ht,Result.andThen_ok,hg,Sem.run_pure,run_newObj];rfl
 ·refine zJT hs _ _ ?_;simp only[zS];refine⟨trivial,w.heap.size,b,li,rfl,?_,hb,hrow,?_⟩
  ·rw[List.getElem?_append_left (List.getElem?_eq_some_iff.1 hL).1]; exact hL
  ·rw[heap_alloc_new,hck]
theorem zNB {ents:Array MapEntry}{met:List Nat}{e:MapEntry}:e∈(leftOf ents met.toArray).toList↔e∈ents.toList∧e.born∉met:=by unfold leftOf;simp
theorem zNW (hs:RelSt H L σ w):Nxt H L w H L σ w.drew :=
 ⟨hs.heap_eq rfl,⟨rfl,rfl,rfl,Nat.le_refl _,fun _ _ _=>rfl,HLe.refl _,fun _ _ _ h=>.inl h,Nat.le_succ _,fun _ _ h=>h⟩,LLe.refl _,fun _ h=>.inl h⟩
theorem zXj (ty:TypeId)(hs:RelSt H L σ w){j l nk n:Nat}{met:List Nat}{es:List (List Int×A)}{it:Value}(hi:Rel H L (.ptr j 0) it)(hσ : σ[j]?=some (.it l n met))(hσl : σ[l]?=some (.mp true nk es))(hnn:n=es.length) :
 ((∀i,i<n→i∈met)∧(Instr.next it false ty).run P w=.ok (.tuple #[.bool false]) w) ∨
 ∃(i:Nat) (p:List Int×A) (v:Value) (w':World),i∉met∧es[i]?=some p∧(Instr.next it false ty).run P w=.ok (.tuple #[.bool true,zCt p.1,v]) w'∧Rel H L p.2 v∧Nxt H L w H L (σ.set j (.it l n (met++[i]))) w':=by
 simp only[Rel]at hi;obtain⟨li,b,hL,hb,hrow,rfl⟩:=hi;have hob:=hs.obj j li _ hL hσ;simp only[zS]at hob;obtain⟨_,b',mb,lm,e1,e2,e3,e4,hit⟩:=hob;rw[hb]at e1;cases e1;have hom:=hs.obj l lm _ e2 hσl;simp only[zS]at hom;obtain⟨_,mb',ents,ck,g1,g2,hr,hbn,hn⟩:=hom;rw[e3]at g1;cases g1;obtain⟨c1,c2⟩:=hbn rfl;have hck:ck=n:=by rw[c1,hr.length,hnn]
 have hborn:∀x∈ents.toList,x.born<n:=fun x hx=>by obtain⟨i,hi,rfl⟩:=List.mem_iff_getElem.1 hx;have:=c2 i _ (List.getElem?_eq_getElem hi);rw[this,←hck,c1];exact hi
 rcases run_next_at (P:=P) w ty b mb n n met.toArray ents ck hit g2 hborn (Nat.le_refl _)with ⟨k1,k2⟩ | ⟨e,he,w1,k1,k2⟩
 ·refine .inl ⟨fun i hi=>?_,k2⟩;have hie:i<ents.toList.length:=by rw[hr.length]; omega
  have hbi:=c2 i _ (List.getElem?_eq_getElem hie);by_cases hmi:i∈met
  ·exact hmi
  ·have:ents.toList[i]∈(leftOf ents met.toArray).toList:=zNB.2 ⟨List.getElem_mem hie,by rw[hbi]; exact hmi⟩;have h0:leftOf ents met.toArray = #[]:=Array.eq_empty_of_size_eq_zero k1;rw[h0]at this;simp at this
 ·obtain⟨he1,he2⟩:=zNB.1 he;obtain⟨i,hi,rfl⟩:=List.mem_iff_getElem.1 he1;have hbi:=c2 i _ (List.getElem?_eq_getElem hi);have hie:i<es.length:=by rw[←hr.length]; exact hi
  obtain⟨e',q1,q2,q3⟩:=hr.get (List.getElem?_eq_getElem hie);rw[List.getElem?_eq_getElem hi]at q1;cases q1;refine .inr ⟨i,es[i],_,_,by rw[←hbi]; exact he2,List.getElem?_eq_getElem hie,by rw[←q2]; exact k2,q3,?_⟩;have hnx1:Nxt H L w H L σ w1:=by
   rcases k1 with rfl | rfl
   ·exact Nxt.refl hs
   ·exact zNW hs
  have hh:w1.heap=w.heap:=by rcases k1 with rfl | rfl<;>rfl
  have hit1:w1.heap[b]?=some (.mapIter (some mb) n met.toArray n):=by rw[hh]; exact hit
  have hlt:b<w1.heap.size:=by rw[hh]; exact hs.lt j li b hL hb
  refine hnx1.trans ?_;refine zDi hnx1.st hL hb hit1 (by simp) (by simp) (by simp) (by simp) (by simp) ?_;simp only[zS];refine⟨hrow,b,mb,lm,hb,e2,e3,e4,?_⟩;rw[World.putObj_heap_same hlt,hbi,hck];simp
theorem qAO (hs:RelSt H L σ w){j l nk n i:Nat}{met:List Nat}{es:List (List Int×A)}{it:Value}(hi:Rel H L (.ptr j 0) it)(hσ : σ[j]?=some (.it l n met))(hσl : σ[l]?=some (.mp true nk es))(hnn:n=es.length)(hmet:met.getLast?=some i){p:List Int×A}(hp:es[i]?=some p) :
 ∃v,(Instr.entry it).run P w=.ok (.tuple #[zCt p.1,v]) w∧Rel H L p.2 v:=by
 simp only[Rel]at hi;obtain⟨li,b,hL,hb,hrow,rfl⟩:=hi;have hob:=hs.obj j li _ hL hσ;simp only[zS]at hob;obtain⟨_,b',mb,lm,e1,e2,e3,e4,hit⟩:=hob;rw[hb]at e1;cases e1;have hom:=hs.obj l lm _ e2 hσl;simp only[zS]at hom;obtain⟨_,mb',ents,ck,g1,g2,hr,hbn,hn⟩:=hom;rw[e3]at g1;cases g1;obtain⟨c1,c2⟩:=hbn rfl;have hck:ck=n:=by rw[c1,hr.length,hnn]
 obtain⟨e,q1,q2,q3⟩:=hr.get hp;have hbi:=c2 i e q1;obtain⟨ini,hini⟩:∃ini,met=ini++[i]:=by rw[List.getLast?_eq_some_iff]at hmet;exact hmet
 have hnod:(ents.toList.map (·.born)).Nodup:=by rw[List.nodup_iff_pairwise_ne,List.pairwise_iff_getElem];intro x y hx hy hxy;simp only[List.length_map]at hx hy;simp only[List.getElem_map,c2 x _ (List.getElem?_eq_getElem hx),c2 y _ (List.getElem?_eq_getElem hy)];omega
 refine⟨e.val,?_,q3⟩;rw[←q2];refine run_entry_at w b mb n ini.toArray ents ck e ?_ g2 (List.mem_of_getElem? q1) hnod;rw[hit,hini,hbi,hck];simp
end
end Go.Abs
