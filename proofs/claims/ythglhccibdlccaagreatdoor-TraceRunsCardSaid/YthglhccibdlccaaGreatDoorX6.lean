/-
  append to nil and to a full slice; what every operation does; its soundness.
  Keys of maps that are made of integers: they are compared cell by cell, they may be keys, and they stay.
  The operations on maps: what they run to, and that they keep the abstract state.
-/
import Derived.Test.YthglhccibdlccaaGreatDoorX5
import Derived.RangeFuncRecord
import Derived.WideKeyRuns
import Derived.Maps.RangeRun
import Derived.Carry
set_option linter.unusedVariables false
set_option linter.unusedSimpArgs false
namespace Go.Abs
section
variable {P:Program}{H:Mem}{L:List LI} {σ : St}{w:World}{N:Nat}{env:Env}{a:Act}
theorem jH {α : Type}{l:List α}{x y : α}{i:Nat}(h:(l++[x])[i]?=some y):l[i]?=some y∨(i=l.length∧y=x):=by
 rcases Nat.lt_or_ge i l.length with hi | hi
 ·rw[List.getElem?_append_left hi]at h; exact .inl h
 ·rw[List.getElem?_append_right hi]at h;have h0:i-l.length=0:=by
   rcases Nat.eq_zero_or_pos (i-l.length)with h0 | h0
   ·exact h0
   ·rw[List.getElem?_eq_none (by simp; omega)]at h; cases h
  rw[h0]at h;simp only[List.getElem?_cons_zero,Option.some.injEq]at h;exact .inr ⟨by omega,h.symm⟩
theorem zC7 (hs:RelSt H L σ w)(e:TypeId)(sz:Nat):Nxt H L w H (L++[(⟨none,0,0,true⟩:LI)]) (σ++[AObj.row false e sz 0 []]) w:=by
 have hll:=LLe.append L [⟨none,0,0,true⟩];refine⟨⟨hs.pers,by simp[hs.len],fun i l o hL hσ=>?_,fun i j x y b hi hj hx hy=>?_,fun i x b hi hx=>?_⟩,Step.refl _ _ _,hll,fun b ⟨i,x,hi,hx⟩=>?_⟩
 ·rcases jH hL with hL' | ⟨rfl,rfl⟩
  ·have hi:i<L.length:=(List.getElem?_eq_some_iff.1 hL').1;rw[List.getElem?_append_left (by rw[←hs.len]; exact hi)]at hσ;exact(hs.obj i l o hL' hσ).carry (fun _ _=>rfl) (HLe.refl _) hll (fun _ _ _=>rfl)
  ·rw[hs.len]at hσ;rw[List.getElem?_append_right (Nat.le_refl _)]at hσ;simp only[Nat.sub_self,List.getElem?_cons_zero,Option.some.injEq]at hσ;subst hσ;simp[zW]
 ·rcases jH hi with hi' | ⟨rfl,rfl⟩
  ·rcases jH hj with hj' | ⟨rfl,rfl⟩
   ·exact hs.inj i j x y b hi' hj' hx hy
   ·cases hy
  ·cases hx
 ·rcases jH hi with hi' | ⟨rfl,rfl⟩
  ·exact hs.lt i x b hi' hx
  ·cases hx
 ·rcases jH hi with hi' | ⟨rfl,rfl⟩
  ·exact .inl ⟨i,x,hi',hx⟩
  ·cases hx
theorem zLr {σ τ : St}{sz:Nat}{x:A}{r:Nat×List A}(h:zBU σ sz x=some r):zBU (σ++τ) sz x=some r:=by
 cases x<;>simp only[zBU]at h⊢<;>try exact h
 rename_i l n;split at h<;>try (cases h; done)
 rename_i hds;rw[List.getElem?_append_left (List.getElem?_eq_some_iff.1 hds).1,hds];exact h
theorem zW0 {t ty e:TypeId}{i:TypeInfo}{z:Value}(ht:P.underlying t=some (.slice e))(hi:P.info? e=some i)(hz:i.zero=some z)(hzc:yY z.cells.toList=true)(hzs:z.cells.size=i.size)(hsz:0<i.size)
 (hs:RelSt H L σ w){y:Value}{ya:A}{m:Nat}{ys:List A}(hy:Rel H L ya y)(hye:zBU σ i.size ya=some (m,ys))(hyl:ys.length=m*i.size)
 (hm:m≤maxLen)(hby:m*i.bytes≤140737488355328) :
 ∃v' w' H' L',(Builtin.append_ #[t,t] ty #[.slice none 0 0,y]).run P w=.ok v' w'∧Nxt H L w H' L' (σ++[AObj.row false e i.size m ys]) w'∧HLe H H'∧Rel H' L' (.row σ.length m) v':=by
 have hn:=zC7 hs e i.size;have hσ : (σ++[AObj.row false e i.size 0 []])[σ.length]?=some (.row false e i.size 0 []):=by simp
 have hx:Rel H (L++[(⟨none,0,0,true⟩:LI)]) (.row σ.length 0) (.slice none 0 0):=by simp only[Rel];exact⟨rfl,⟨none,0,0,true⟩,by rw[←hs.len]; simp,rfl,Nat.le_refl _,fun _=>rfl⟩
 obtain⟨v',w',H',L',h1,h2,h3,h4⟩:=zQK (ty:=ty) ht hi hz hzc hzs hsz hn.st hσ hx (Rel.mono (HLe.refl _) (LLe.append _ _) _ hy) (zLr hye) hyl (by simpa using hm) (by simpa using hby);refine⟨v',w',H',L',h1,?_,h3,by simpa using h4⟩;have:=hn.trans h2;have he:(σ++[AObj.row false e i.size 0 []]).set σ.length (AObj.row false e i.size (0+m) ([]++ys)) = σ++[AObj.row false e i.size m ys]:=by simp
 rw[he]at this;exact this
theorem zTI {t ty e:TypeId}{i:TypeInfo}{z:Value}(ht:P.underlying t=some (.slice e))(hi:P.info? e=some i)(hz:i.zero=some z)(hzs:z.cells.size=i.size)(hsz:0<i.size)
 (hs:RelSt H L σ w){n:Nat}{cs:List A}{s y:Value}(hx:Rel H L (.fsl n cs) s)(hcl:cs.length=n*i.size){ya:A}{m:Nat}{ys:List A}(hy:Rel H L ya y)(hye:zBU σ i.size ya=some (m,ys))(hyl:ys.length=m*i.size)
 (hm0:m≠0)(hm:n+m≤maxLen)(hby:(n+m)*i.bytes≤140737488355328) :
 ∃v' w' H' L',(Builtin.append_ #[t,t] ty #[s,y]).run P w=.ok v' w'∧Nxt H L w H' L' (σ++[AObj.row false e i.size (n+m) (cs++ys)]) w'∧HLe H H'∧Rel H' L' (.row σ.length (n+m)) v':=by
 obtain⟨ad,c,rfl,hels⟩:=zIi hs hy hye hyl hsz;rcases hels with h0 | ⟨yb,yo,us,rfl,g1,g2,g3,g4⟩
 ·exact(hm0 h0).elim
 have hn:=zC7 hs e i.size;have hsm:n+m≤9223372036854775807:=by simp only[maxLen]at hm; omega
 have e1:(L++[(⟨none,0,0,true⟩:LI)])[σ.length]?=some (⟨none,0,0,true⟩:LI):=by rw[←hs.len]; simp
 have fresh:∀(olds:List Value) (old:Nat),zX H L cs olds→(∀u∈olds,one u)→old<n+m →
  (Builtin.append_ #[t,t] ty #[s,.slice (some ⟨yb,yo,none⟩) m c]).run P w=.ok (.slice (some ⟨w.heap.size,0,none⟩) (n+m) (grownCap w (n+m) old e))
   (w.drew.alloc (.cells (olds.toArray++us.toArray++Builtin.zeroCells z.cells (grownCap w (n+m) old e-(n+m))) e)) →
  ∃v' w' H' L',(Builtin.append_ #[t,t] ty #[s,.slice (some ⟨yb,yo,none⟩) m c]).run P w=.ok v' w'∧Nxt H L w H' L' (σ++[AObj.row false e i.size (n+m) (cs++ys)]) w'∧HLe H H'∧Rel H' L' (.row σ.length (n+m)) v':=by
  intro olds old ho1 ho2 ho4 hrun;have ho3:olds.length=n*i.size:=by rw[ho1.length,hcl]
  have hge:=grownCap_ge w (n+m) old e;have hcm:grownCap w (n+m) old e≤maxLen:=grownCap_le_maxLen w (n+m) old e hm;have hpl:(olds++us).length=(n+m)*i.size:=by rw[List.length_append,ho3,g2,Nat.add_mul]
  have hcur:(olds.toArray++us.toArray++Builtin.zeroCells z.cells (grownCap w (n+m) old e-(n+m))).toList.take ((n+m)*i.size)=olds++us:=by simp only[Array.toList_append,List.append_assoc];rw[←List.append_assoc,←hpl];exact List.take_left
  have hheap:(w.drew.alloc (.cells (olds.toArray++us.toArray++Builtin.zeroCells z.cells (grownCap w (n+m) old e-(n+m))) e)).heap[w.heap.size]?=some (.cells (olds.toArray++us.toArray++Builtin.zeroCells z.cells (grownCap w (n+m) old e-(n+m))) e (0,0)):=heap_alloc_new w.drew _;have hnone:∀o,H w.heap.size o=none:=fun o=>by
   cases hH:H w.heap.size o with
   | none=>rfl
   | some v=>have:=hs.h_lt hH; omega
  have hll:=zJ5 (li':=(⟨some w.heap.size,grownCap w (n+m) old e,n+m,true⟩:LI)) e1 rfl rfl (by simp only; omega);have hnx:Nxt H (L++[(⟨none,0,0,true⟩:LI)]) w H ((L++[(⟨none,0,0,true⟩:LI)]).set σ.length (⟨some w.heap.size,grownCap w (n+m) old e,n+m,true⟩:LI))
   ((σ++[AObj.row false e i.size 0 []]).set σ.length (AObj.row false e i.size (n+m) (cs++ys)))
   (w.drew.alloc (.cells (olds.toArray++us.toArray++Builtin.zeroCells z.cells (grownCap w (n+m) old e-(n+m))) e)):=by
   refine zMX hn.st e1 rfl rfl (by simp only; omega) rfl (.inr (Nat.le_refl _)) (by simp) rfl rfl rfl (Nat.le_succ _) (fun d=>by simp) (by simp) (fun k hk _=>heap_alloc_old w.drew _ (h:=hk)) (HLe.refl _) (fun b' o' v hv'=>.inl hv')
    (fun o' v hv'=>by rw[hnone]at hv'; cases hv') ?_
   simp only[zW];refine⟨trivial,trivial,by rw[List.length_append,hcl,hyl,Nat.add_mul],.inr ⟨w.heap.size,_,rfl,hheap,hge,hcm,?_,?_,?_,hnone⟩⟩
   ·simp only[Array.size_append,List.size_toArray,size_zeroCells,hzs,ho3,g2,←Nat.add_mul]
    congr 1
    omega
   ·rw[hcur];exact zX.mono (HLe.refl _) ((LLe.append _ _).trans hll) _ (ho1.append g1)
   ·rw[hcur];intro u hu;rcases List.mem_append.1 hu with hu | hu
    ·exact ho2 u hu
    ·exact g3 u hu
  have he:(σ++[AObj.row false e i.size 0 []]).set σ.length (AObj.row false e i.size (n+m) (cs++ys)) = σ++[AObj.row false e i.size (n+m) (cs++ys)]:=by simp
  rw[he]at hnx;refine⟨_,_,_,_,hrun,hn.trans hnx,HLe.refl _,?_⟩;simp only[Rel];exact⟨rfl,_,List.getElem?_set_self (List.getElem?_eq_some_iff.1 e1).1,rfl,Nat.le_refl _,fun _=>rfl⟩
 simp only[Rel]at hx;obtain⟨sa,rfl,hnm,hcs⟩:=hx;rcases hcs with ⟨rfl,rfl⟩ | ⟨b,o,vs,rfl,k1,k2,k3⟩
 ·cases sa with
  | none =>
   have hr:=run_append_nil (P:=P) w t ty e i z ht hi hz ⟨yb,yo,none⟩ m c us g2 g4 (by omega) (by omega) (by simp only[Nat.zero_add]at hby; omega);refine fresh [] 0 jP (by simp) (by omega) ?_
   simpa using hr
  | some ba =>
   have hr:=run_append_grow (P:=P) w t ty e i z ht hi hz ba 0 0 [] (by simp) (by simp) ⟨yb,yo,none⟩ m c us g2 g4 (by omega) (by omega) (growslice_fits (by omega) hby);exact fresh [] 0 jP (by simp) (by omega) hr
 ·have hr:=run_append_grow (P:=P) w t ty e i z ht hi hz ⟨b,o,none⟩ n n vs (by rw[k1.length,hcl]) (fun j u hu=>by rw[Addr.add_lit]; exact hs.pers _ _ _ (k3 j u hu)) ⟨yb,yo,none⟩ m c us g2 g4 (by omega) (by omega) (growslice_fits (by omega) hby);exact fresh vs n k1 k2 (by omega) hr
inductive Out where
 | ret (r:A)
 | pan (v:Value)
def zG7 (H:Mem)(L:List LI):Out→Ending→Prop
 | .ret r,e=>∃v,e=.returned v∧Rel H L r v
 | .pan v,e=>e=.panicked [{v,recovered:=false}]
def yN (P:Program)(f:FuncId)(args:List A) (σ : St)(Q:Out→St→Prop):Prop :=
 ∀(H:Mem) (L:List LI) (w:World) (vs:List Value),RelSt H L σ w→zX H L args vs →
  Calls P f vs.toArray w fun e w'=>∃o σ' H' L',zG7 H' L' o e∧Nxt H L w H' L' σ' w'∧Q o σ'
def zIJ (P:Program)(b:Nat)(args:List A) (σ : St)(Q:Out→St→Prop):Prop :=
 ∀(H:Mem) (L:List LI) (w:World) (vs:List Value),RelSt H L σ w→zX H L args vs →
  ∃f tmps x y,(Instr.yield b vs.toArray).run P w=.ok (.round b f tmps x y) w∧RoundIn Fence.wide 0 P b f tmps x y w fun e w'=>∃o σ' H' L',zG7 H' L' o e∧Nxt H L w H' L' σ' w'∧Q o σ'
def Wr (r:Option Nat):Fence:={Fence.wide with round:=r}
def qY (o:Option (Prop×A))(J:A→Prop):Prop:=match o with
 | some (p,r)=>p∧J r
 | none=>False
def zHA (d:Option Nat)(env:Env)(K:Env→St→Prop)(Qp:Value→Env→St→Prop):Out→St→Prop
 | .ret r,σ'=>K (env.put d r) σ'
 | .pan v,σ'=>Qp v env σ'
def zFb (t:Bool)(A B:Env→St→Prop)(env:Env) (σ : St):Prop:=(t=true→A env σ)∧(t=false→B env σ)
def zFK (d:Option Nat)(K:Env→St→Prop)(env:Env) (σ : St):Prop:=K (env.put d (.lit undef)) σ
noncomputable def wpO (P:Program) (Qp:Value→Env→St→Prop) (K:Env→St→Prop):KOp→Env→St→Prop
 | .alloc d zs,env,σ=>K (env.put d (.ptr σ.length 0)) (σ++[.box (zs.map jC)])
 | .box d x,env,σ=>match cellsOf (ev env x)with
  | some cs=>K (env.put d (.ptr σ.length 0)) (σ++[.box cs])
  | none=>False
 | .bslice d _ _ n zero parts,env,σ=>match zAV (zero.map jC) (parts.map fun(o,s,x)=>(o,s,ev env x))with
  | some cs=>K (env.put d (.fsl n cs)) σ
  | none=>False
 | .isz d ng x,env,σ=>match ev env x with
  | .nil=>K (env.put d (.lit (.bool !ng))) σ
  | .sl n _=>K (env.put d (.lit (.bool ng))) σ∧(n=0→K (env.put d (.lit (.bool !ng))) σ)
  | .row l n=>(match σ[l]? with
   | some (.row _ _ _ m _)=>n=m∧K (env.put d (.lit (.bool ng))) σ∧(n=0→K (env.put d (.lit (.bool !ng))) σ)
   | _=>False)
  | _=>False
 | .brow d e sz n zero parts,env,σ=>match zAV (zero.map jC) (parts.map fun(o,s,x)=>(o,s,ev env x))with
  | some cs=>K (env.put d (.row σ.length n)) (σ++[.row false e sz n cs])
  | none=>False
 | .st d x v n,env,σ=>match cellsOf (ev env v)with
  | some cs=>if cs.length=n then (match stA σ cs (ev env x)with
   | some σ'=>K (env.put d (.lit undef)) σ'
   | none=>False) else False
  | none=>False
 | .app d e sz bytes x y,env,σ=>match zBU σ sz (ev env y)with
  | some (m,ys)=>ys.length=m*sz∧(match ev env x with
   | .nil=>(m≤maxLen∧m*bytes≤140737488355328)∧K (env.put d (.row σ.length m)) (σ++[.row false e sz m ys])
   | .row l n=>(match σ[l]? with
    | some (.row fz e' s n' cs)=>if n=n'∧e'=e∧s=sz then (n+m≤maxLen∧(n+m)*bytes≤140737488355328)∧K (env.put d (.row l (n+m))) (σ.set l (.row fz e sz (n+m) (cs++ys))) else False
    | _=>False)
   | .fsl n cs=>cs.length=n*sz∧(m=0→K (env.put d (.fsl n cs)) σ)∧(m≠0→(n+m≤maxLen∧(n+m)*bytes≤140737488355328)∧K (env.put d (.row σ.length (n+m))) (σ++[.row false e sz (n+m) (cs++ys)]))
   | _=>False)
  | none=>False
 | .len d false x,env,σ=>match ev env x with
  | .sl n _=>n≤maxLen→K (env.put d (.lit (.int .i64 n))) σ
  | .fsl n _=>n≤maxLen→K (env.put d (.lit (.int .i64 n))) σ
  | _=>qY (zO env σ (.len d false x)) fun r=>K (env.put d r) σ
 | .call d f args,env,σ=>match ev env f with
  | .clo g first cap=>zA P g=true∧yN P g (first++args.map (ev env)++cap) σ (zHA d env K Qp)
  | .lit (.func (.yield b) ⟨[]⟩ ⟨[]⟩)=>zIJ P b (args.map (ev env)) σ (zHA d env K Qp)
  | _=>False
 | .alr d q zs,env,σ=>(match σ[q]? with
  | some .rsv=>K (env.put d (.ptr q 0)) (σ.set q (.box (zs.map jC)))
  | _=>False)
 | .mop d m xs,env,σ=>zBc m (xs.map (ev env)) (fun r σ'=>K (env.put d r) σ') σ
 | .pan _ x,env,σ=>(match ev env x with
  | .lit (.iface t v)=>Qp (.iface t v) env σ
  | _=>False)
 | k,env,σ=>qY (zO env σ k) fun r=>K (env.put k.dst r) σ
end
end Go.Abs
namespace Go.Abs
def zLa (P:Program)(t:TypeId)(xs:List Int):Value:=match P.underlying t with
 | some (.struct _)=>.agg (xs.map zGu).toArray
 | _=>zGu (xs.headD 0)
section
variable {P:Program}{w:World}
theorem zK9 {t:TypeId}{d n:Nat}(h:zDb P d t=some n)(hi:(P.info? t).map (·.size)=some n){pre xs:List Int}(hx:n≤xs.length) :
 (part t ((pre++xs).map zGu).toArray pre.length).run P w=.ok (zLa P t (xs.take n)) w:=by
 cases d with
 | zero=>simp[zDb]at h
 | succ d =>
 unfold zDb at h;unfold part zLa;split at h
 ·rename_i hu;cases h;rw[Sem.run_bind,zDu hu,Result.andThen_ok,hu];simp only[zHd,Bool.false_eq_true,if_false];cases xs with
  | nil=>simp at hx
  | cons x xs=>simp
 ·rename_i fs hu;obtain⟨i,hii,hsz⟩:=Option.map_eq_some_iff.1 hi;rw[Sem.run_bind,zDu hu,Result.andThen_ok,hu];simp only[zHd,if_true,Sem.run_bind,yE hii,Result.andThen_ok,hsz,Sem.run_pure]
  congr 2
  apply Array.ext';simp[Array.toList_extract,List.extract,List.drop_append,List.map_take]
 ·cases h
theorem eqI:∀(d D n:Nat) (t:TypeId) (xs ys:List Int),d≤D→zDb P d t=some n→xs.length=n→ys.length=n→(Op.equalIn D t (zLa P t xs) (zLa P t ys)).run P w=.ok (decide (xs=ys)) w
 | 0,_,_,_,_,_,_,h,_,_=>by simp[zDb]at h
 | d+1,0,_,_,_,_,hD,_,_,_=>by omega
 | d+1,D+1,n,t,xs,ys,hD,h,hx,hy=>by
  unfold zDb at h;split at h
  ·rename_i hu;cases h;unfold zLa;rw[hu]
   match xs,hx,ys,hy with
   | [x],_,[y],_ =>
    simp only[List.headD_cons,zGu];rw[run_equalIn_int w D t .i64 .i64 x y hu]
    congr 1
    by_cases hxy:x=y<;>simp[hxy]
  ·rename_i fs hu;split at h
   ·cases h
   rename_i hst;unfold zLa;rw[hu];have hfo:P.fieldsOf t=fs:=by simp[Program.fieldsOf,hu]
   rw[run_equalIn_struct w D t _ _ (by rw[hfo]; exact hu) (by simpa using hst),hfo];have go:∀(fs:List Field) (pre pre' xs ys:List Int),pre.length=pre'.length→zEi P (zDb P d) pre.length fs=some n→pre.length+xs.length=n→pre.length+ys.length=n →
    (Op.eqFields D ((pre++xs).map zGu).toArray ((pre'++ys).map zGu).toArray fs).run P w=.ok (decide (xs=ys)) w:=by
    intro fs;induction fs with
    | nil =>
     intro pre pre' xs ys hp hf hx hy;simp only[zEi,Option.some.injEq]at hf;have e1:xs=[]:=List.length_eq_zero_iff.1 (by omega);have e2:ys=[]:=List.length_eq_zero_iff.1 (by omega);simp[Op.eqFields,e1,e2]
    | cons f fs ih =>
     intro pre pre' xs ys hp hf hx hy;unfold zEi at hf;split at hf<;>try (cases hf; done)
     rename_i hof;obtain⟨hof,hnm⟩:=hof;split at hf<;>try (cases hf; done)
     rename_i k hk;split at hf<;>try (cases hf; done)
     rename_i hsz;have hkn:pre.length+k≤n:=by
      have mono:∀(fs:List Field) (o n:Nat),zEi P (zDb P d) o fs=some n→o≤n:=by
       intro fs;induction fs with
       | nil=>intro o n h; simp only[zEi,Option.some.injEq]at h; omega
       | cons f fs ih =>
        intro o n h;unfold zEi at h;split at h<;>try (cases h; done)
        split at h<;>try (cases h; done)
        split at h<;>try (cases h; done)
        have:=ih _ _ h;omega
      exact mono _ _ _ hf
     have p1:=zK9 (w:=w) (pre:=pre) (xs:=xs) hk hsz (by omega);have p2:=zK9 (w:=w) (pre:=pre') (xs:=ys) hk hsz (by omega);rw[←hof]at p1;rw[←hp,←hof]at p2;have hq:=eqI d D k f.type (xs.take k) (ys.take k) (by omega) hk (by simp; omega) (by simp; omega);have:=ih (pre++xs.take k) (pre'++ys.take k) (xs.drop k) (ys.drop k) (by simp; omega) (by simpa [Nat.min_eq_left (show k≤xs.length by omega)] using hf) (by simp; omega) (by simp; omega);simp only[List.append_assoc,List.take_append_drop]at this;simp only[Op.eqFields,hnm,ne_eq,not_false_eq_true,if_true,Sem.run_bind,p1,p2,Result.andThen_ok,hq];have hdec:decide (xs=ys)=(decide (xs.take k=ys.take k)&&decide (xs.drop k=ys.drop k)):=by
      by_cases h:xs=ys
      ·simp[h]
      ·have:¬(xs.take k=ys.take k∧xs.drop k=ys.drop k):=fun⟨a,b⟩=>h (by rw[←List.take_append_drop k xs,a,b,List.take_append_drop])
       simp only[h,decide_false];symm;rw[Bool.and_eq_false_iff];by_cases h1:xs.take k=ys.take k
       ·right; simp only[decide_eq_false_iff_not]; exact fun e=>this ⟨h1,e⟩
       ·left; simp[h1]
     rw[hdec];by_cases h1:xs.take k=ys.take k
     ·simp only[h1,decide_true,Bool.not_true,Bool.false_eq_true,if_false,this,Bool.true_and]
     ·simp[h1]
   exact go fs.toList [] [] xs ys rfl h (by simpa using hx) (by simpa using hy)
  ·cases h
theorem zUq (em:Bool):∀(d D n:Nat) (t:TypeId) (xs:List Int),d≤D→zDb P d t=some n→xs.length=n→(Instr.checkKey em D t (zLa P t xs)).run P w=.ok () w
 | 0,_,_,_,_,_,h,_=>by simp[zDb]at h
 | d+1,0,_,_,_,hD,_,_=>by omega
 | d+1,D+1,n,t,xs,hD,h,hx=>by
  unfold zDb at h;split at h
  ·rename_i hu;cases h;unfold zLa;rw[hu];simp[Instr.checkKey,run_underlying hu,zGu]
  ·rename_i fs hu;split at h
   ·cases h
   rename_i hst;unfold zLa;rw[hu];simp only[Instr.checkKey,Sem.run_bind,run_underlying hu,Result.andThen_ok];rw[←Array.forIn_toList];have go:∀(fs:List Field) (pre xs:List Int),zEi P (zDb P d) pre.length fs=some n→pre.length+xs.length=n →
    (forIn (m:=Sem) fs PUnit.unit fun f (_:PUnit)=>(if f.name ≠ "_" then do
     let a ←part f.type ((pre++xs).map zGu).toArray f.offset
     Instr.checkKey em D f.type a
     pure (ForInStep.yield PUnit.unit)
     else pure (ForInStep.yield PUnit.unit))).run P w=.ok PUnit.unit w:=by
    intro fs;induction fs with
    | nil=>intro pre xs _ _; simp
    | cons f fs ih =>
     intro pre xs hf hx;unfold zEi at hf;split at hf<;>try (cases hf; done)
     rename_i hof;obtain⟨hof,hnm⟩:=hof;split at hf<;>try (cases hf; done)
     rename_i k hk;split at hf<;>try (cases hf; done)
     rename_i hsz;have hkn:pre.length+k≤n:=by
      have mono:∀(fs:List Field) (o n:Nat),zEi P (zDb P d) o fs=some n→o≤n:=by
       intro fs;induction fs with
       | nil=>intro o n h; simp only[zEi,Option.some.injEq]at h; omega
       | cons f fs ih =>
        intro o n h;unfold zEi at h;split at h<;>try (cases h; done)
        split at h<;>try (cases h; done)
        split at h<;>try (cases h; done)
        have:=ih _ _ h;omega
      exact mono _ _ _ hf
     have p1:=zK9 (w:=w) (pre:=pre) (xs:=xs) hk hsz (by omega);rw[←hof]at p1;have hq:=zUq em d D k f.type (xs.take k) (by omega) hk (by simp; omega);have:=ih (pre++xs.take k) (xs.drop k) (by simpa [Nat.min_eq_left (show k≤xs.length by omega)] using hf) (by simp; omega);simp only[List.append_assoc,List.take_append_drop]at this;simp only[List.forIn_cons,hnm,ne_eq,not_false_eq_true,if_true,Sem.run_bind,p1,Result.andThen_ok,hq,Sem.run_pure];exact this
   have h':=go fs.toList [] xs h (by simpa using hx);simp at h' ⊢;rw[h'];rfl
  ·cases h
end
end Go.Abs
namespace Go.Abs
section
variable {P:Program}{H:Mem}{L:List LI} {σ : St}{w:World}{N:Nat}{env:Env}{a:Act}
theorem zMc:∀{cs:List A} {ks:List Int} {vs:List Value},zG3 cs=some ks→zX H L cs vs→vs=ks.map zGu
 | [],ks,vs,h,hr=>by simp only[zG3,Option.some.injEq]at h; subst h; rw[jI hr]; rfl
 | c::cs,ks,vs,h,hr=>by
  unfold zG3 at h;split at h<;>try (cases h; done)
  ·rename_i heq; cases heq
  rename_i n l heq;cases heq;simp only[Option.map_eq_some_iff]at h;obtain⟨ks',hk,rfl⟩:=h;obtain⟨u,us,rfl,h1,h2⟩:=qA hr;simp only[Rel]at h1;rw[h1,zMc hk h2];rfl
theorem zKn {nk:Nat}{x:A}{ks:List Int}{v:Value}(h:zH2 nk x=some ks)(hr:Rel H L x v):v=zC6 ks∧ks.length=nk:=by
 unfold zH2 at h;split at h<;>try (cases h; done)
 split at h<;>try (cases h; done)
 rename_i ks' hk;split at h<;>try (cases h; done)
 rename_i hn;cases h;simp only[Rel]at hr;obtain⟨vs,rfl,h1,_⟩:=hr;exact⟨by rw[zMc hk h1]; rfl,hn⟩
theorem zOD (ks:List Int):Rel H L (zKo ks) (zC6 ks):=by
 simp only[zKo,zC6,Rel];refine⟨ks.map zGu,rfl,?_,fun u hu=>?_⟩
 ·induction ks with
  | nil=>exact jP
  | cons k ks ih=>exact qS (by simp[Rel,zGu]) ih
 ·obtain⟨n,_,rfl⟩:=List.mem_map.1 hu;rfl
theorem zHP {k:TypeId}{nk:Nat}(h:zH3 P k=some nk):(match P.underlying k with | some (.array _ _) | some (.struct _)=>true | _=>false)=true∧zDb P 20 k=some nk∧∀ks,zLa P k ks=zC6 ks:=by
 unfold zH3 at h;split at h<;>try (cases h; done)
 rename_i fs hu;refine⟨by rw[hu],h,fun ks=>?_⟩;unfold zLa;rw[hu];rfl
theorem zHv {k:TypeId}{nk:Nat}(hk:zH3 P k=some nk){ks:List Int}(hks:ks.length=nk):∀(es:List (List Int×A)) (l:List MapEntry) (i:Nat),zAg H L es l→(∀p∈es,p.1.length=nk) →
 (zA1 ks es=none∧(Instr.findAsking k (zC6 ks) l i).run P w=.ok none w∧(∀v,zDm ks v es=es++[(ks,v)])∧zIe ks es=es) ∨
 ∃(j:Nat) (p:List Int×A) (e:MapEntry),es[j]?=some p∧p.1=ks∧zA1 ks es=some p.2∧l[j]?=some e∧Rel H L p.2 e.val∧e.key=zC6 ks∧(Instr.findAsking k (zC6 ks) l i).run P w=.ok (some (i+j,e.val)) w∧(∀v,zDm ks v es=es.set j (ks,v))∧zIe ks es=es.eraseIdx j
 | [],l,i,h,_=>by rw[show l=[] from h];exact .inl ⟨rfl,by simp[Instr.findAsking],fun v=>rfl,rfl⟩
 | p::es,l,i,h,hn=>by
  obtain⟨e,l',rfl,h1,h2,h3⟩:=h;obtain⟨_,hi,hv⟩:=zHP hk;have heq:=eqI (P:=P) (w:=w) 20 10000 nk k ks p.1 (by decide) hi hks (hn p (List.mem_cons_self ..));rw[hv,hv,←h1]at heq;have heq:(Op.equal k (zC6 ks) e.key).run P w=.ok (decide (ks=p.1)) w:=heq;by_cases hp:p.1=ks
  ·refine .inr ⟨0,p,e,rfl,hp,by simp[zA1,hp],rfl,h2,by rw[h1,hp],?_,fun v=>by simp[zDm,hp],by simp[zIe,hp]⟩;simp[Instr.findAsking,heq,hp]
  ·have hp':¬ks=p.1:=fun e=>hp e.symm
   rcases zHv hk hks es l' (i+1) h3 (fun q hq=>hn q (List.mem_cons_of_mem _ hq))with ⟨g1,g2,g3,g4⟩ | ⟨j,q,e',g1,g2,g3,g4,g5,g6,g7,g8,g9⟩
   ·refine .inl ⟨by simp[zA1,hp,g1],?_,fun v=>by simp[zDm,hp,g3],by simp[zIe,hp,g4]⟩;simp[Instr.findAsking,heq,hp',g2]
   ·refine .inr ⟨j+1,q,e',by simpa using g1,g2,by simp[zA1,hp,g3],by simpa using g4,g5,g6,?_,fun v=>by simp[zDm,hp,g8],by simp[zIe,hp,g9]⟩;simp only[Instr.findAsking,Sem.run_bind,heq,Result.andThen_ok,hp',decide_false,Bool.false_eq_true,if_false,g7]
    congr 3
    omega
theorem zDr {k:TypeId}{nk:Nat}(hk:zH3 P k=some nk){ks:List Int}(hks:ks.length=nk)(em:Bool):(Instr.checkKey em 10000 k (zC6 ks)).run P w=.ok () w:=by
 obtain⟨_,hi,hv⟩:=zHP hk;have:=zUq (P:=P) (w:=w) em 20 10000 nk k ks (by decide) hi hks
 rwa [hv]at this
theorem zNf (ks:List Int):Instr.sameBits 10000 (zC6 ks) (zC6 ks)=true:=by
 simp only[zC6,Instr.sameBits,beq_self_eq_true,Bool.true_and,List.all_eq_true];intro p hp;obtain⟨x,y⟩:=p;have hxy:x=y∧∃n,x=zGu n:=by
  have:∀(l:List Value),(∀v∈l,∃n,v=zGu n)→∀q∈l.zip l,q.1=q.2∧∃n,q.1=zGu n:=by
   intro l;induction l with
   | nil=>intro _ q hq; simp at hq
   | cons v l ih =>
    intro h q hq;simp only[List.zip_cons_cons,List.mem_cons]at hq;rcases hq with rfl | hq
    ·exact⟨rfl,h v (List.mem_cons_self ..)⟩
    ·exact ih (fun v hv=>h v (List.mem_cons_of_mem _ hv)) q hq
  exact this _ (fun v hv=>by simp only[List.mem_map]at hv;obtain⟨n,_,rfl⟩:=hv;exact⟨n,rfl⟩) _ hp
 obtain⟨rfl,n,rfl⟩:=hxy;simp[zGu,Instr.sameBits]
theorem zX6 {t k e:TypeId}{nk:Nat}(ht:P.underlying t=some (.map k e))(hk:zH3 P k=some nk){i:TypeInfo}(hi:P.info? e=some i){z:Value}(hz:i.zero=some z){ks:List Int}(hks:ks.length=nk){es:List (List Int×A)}{ents:Array MapEntry}{ck b:Nat}
 (hb:w.heap[b]?=some (.map ents ck))(hr:zAg H L es ents.toList)(hn:∀p∈es,p.1.length=nk)(ok:Bool) :
 ∃v,(Instr.lookup t (.map (some b)) (zC6 ks) ok).run P w=.ok v w∧Rel H L (zF1 z ok (zA1 ks es)) v:=by
 obtain⟨hw,_,_⟩:=zHP hk;have hzr:(zeroValue e).run P w=.ok z w:=by simp[zeroValue,typeInfo,hi,hz]
 have hg:(getObj b).run P w=.ok (.map ents ck) w:=by simp[getObj,Sem.run,hb]
 rcases zHv (w:=w) hk hks es ents.toList 0 hr hn with ⟨g1,g2,_,_⟩ | ⟨j,p,en,g1,g2,g3,g4,g5,g6,g7,_,_⟩
 ·refine⟨if ok then .tuple #[z,.bool false] else z,?_,?_⟩
  ·simp only[Instr.lookup,Sem.run_bind,run_underlying ht,Result.andThen_ok,hg,Sem.run_pure,zDr hk hks,run_findKey_eq w hw,g2,hzr]
  ·cases ok
   ·simp only[zF1,g1,Option.getD_none];exact zFE z
   ·simp only[zF1,g1,if_true,Option.getD_none,Option.isSome_none,Rel];exact⟨[z,.bool false],rfl,qS (zFE z) (qS (by simp[Rel]) jP)⟩
 ·refine⟨if ok then .tuple #[en.val,.bool true] else en.val,?_,?_⟩
  ·simp only[Instr.lookup,Sem.run_bind,run_underlying ht,Result.andThen_ok,hg,Sem.run_pure,zDr hk hks,run_findKey_eq w hw,g7]
  ·cases ok
   ·simp only[zF1,g3,Option.getD_some];exact g5
   ·simp only[zF1,g3,if_true,Option.getD_some,Option.isSome_some,Rel];exact⟨[en.val,.bool true],rfl,qS g5 (qS (by simp[Rel]) jP)⟩
theorem zK5 (hs:RelSt H L σ w)(ob:AObj)(o:Obj)(ho:zW H (L++[(⟨some w.heap.size,0,0,false⟩:LI)]) (w.alloc o) ⟨some w.heap.size,0,0,false⟩ ob) :
 Nxt H L w H (L++[(⟨some w.heap.size,0,0,false⟩:LI)]) (σ++[ob]) (w.alloc o):=by
 have hll:=LLe.append L [(⟨some w.heap.size,0,0,false⟩:LI)];refine⟨⟨fun b o v hv=>?_,by simp[hs.len],fun i l o hL hσ=>?_,fun i j l l' b hi hj hb hb'=>?_,fun i l b hL hb=>?_⟩,
  ⟨rfl,rfl,rfl,by simp,fun k hk _=>heap_alloc_old w _ (h:=hk),HLe.refl _,fun b o v hv=>.inl hv,Nat.le_refl _,zDH (fun k hk=>heap_alloc_old w _ (h:=hk))⟩,hll,fun b ⟨i,l,hL,hb⟩=>?_⟩
 ·rw[World.cell?_alloc_lt _ _ _ (hs.h_lt hv)];exact hs.pers b o v hv
 ·rcases jH hL with hL' | ⟨rfl,rfl⟩
  ·have hi:i<L.length:=(List.getElem?_eq_some_iff.1 hL').1;rw[List.getElem?_append_left (by rw[←hs.len]; exact hi)]at hσ;exact(hs.obj i l o hL' hσ).carry (fun b hb=>heap_alloc_old w _ (h:=hs.lt i l b hL' hb)) (HLe.refl _) hll (fun _ _ _=>rfl)
  ·rw[hs.len]at hσ;rw[List.getElem?_append_right (Nat.le_refl _)]at hσ;simp only[Nat.sub_self,List.getElem?_cons_zero,Option.some.injEq]at hσ;subst hσ;exact ho
 ·rcases jH hi with hi' | ⟨rfl,rfl⟩
  ·rcases jH hj with hj' | ⟨rfl,rfl⟩
   ·exact hs.inj i j l l' b hi' hj' hb hb'
   ·cases hb'; have:=hs.lt i l _ hi' hb; omega
  ·cases hb;rcases jH hj with hj' | ⟨rfl,rfl⟩
   ·have:=hs.lt j l' _ hj' hb'; omega
   ·rfl
 ·rcases jH hL with hL' | ⟨rfl,rfl⟩
  ·have:=hs.lt i l b hL' hb; simp; omega
  ·cases hb; simp
 ·rcases jH hL with hL' | ⟨rfl,rfl⟩
  ·exact .inl ⟨i,l,hL',hb⟩
  ·cases hb; exact .inr (Nat.le_refl _)
theorem zD1 (hs:RelSt H L σ w){l b:Nat}{li:LI}{o0 o:Obj}{ob:AObj}(hl:L[l]?=some li)(hb:li.block=some b)(h0:w.heap[b]?=some o0)(hc:∀c e f,o0≠.cells c e f)(hv:∀a t,o0≠.view a t)(hp:∀c e,o0≠.pending c e)(hn:∀a x,o0≠.number a x)(hd:∀d,o0≠.deferred d)
 (ho:zW H L (w.putObj b o) li ob):Nxt H L w H L (σ.set l ob) (w.putObj b o):=by
 have hnone:∀o,H b o=none:=fun o=>by
  cases hH:H b o with
  | none=>rfl
  | some v =>
   have:=hs.pers b o v hH;simp only[World.cell?,h0]at this;cases o0<;>simp_all
 exact zGk hs hl hb rfl rfl rfl rfl (fun d=>by rw[h0]; exact fun e=>hd d (Option.some.inj e)) (by simp) (fun k hk=>World.putObj_heap_other hk) (HLe.refl _) (fun _ _ _ h=>.inl h) (fun o' v hv=>by rw[hnone]at hv; cases hv) ho
theorem zEW {r:Nat}{es:Array MapEntry}{ck:Nat}(o:Obj)(h:w.heap[r]?=some (.map es ck)):(setObj r o).run P w=.ok () (w.putObj r o):=by simp[setObj,Sem.run,h,World.putObj]
theorem zKv {α : Type}(a:Array α)(j:Nat)(f : α→α)(x : α)(h:a[j]?=some x):a.modify j f=a.setIfInBounds j (f x):=by
 apply Array.ext';rw[Array.toList_modify,Array.toList_setIfInBounds];apply List.ext_getElem?;intro i;rw[List.getElem?_modify,List.getElem?_set];rw[←Array.getElem?_toList]at h;by_cases hi:j=i
 ·subst hi;have:=(List.getElem?_eq_some_iff.1 h).1;rw[Array.length_toList]at this;have hx:a[j]=x:=by rw[Array.getElem?_toList,Array.getElem?_eq_getElem this]at h; exact Option.some.inj h
  simp[this,hx,h]
 ·simp[hi]
theorem zAg.setAt:∀{es:List (List Int×A)} {l:List MapEntry} {j:Nat} {e:MapEntry} {ks:List Int} {a:A},zAg H L es l→e.key=zC6 ks→Rel H L a e.val→zAg H L (es.set j (ks,a)) (l.set j e)
 | [],l,j,e,ks,a,h,_,_=>by rw[show l=[] from h]; exact rfl
 | p::es,_,0,e,ks,a,⟨e0,l',rfl,h1,h2,h3⟩,hk,hr=>⟨e,l',rfl,hk,hr,h3⟩
 | p::es,_,j+1,e,ks,a,⟨e0,l',rfl,h1,h2,h3⟩,hk,hr=>⟨e0,_,rfl,h1,h2,zAg.setAt h3 hk hr⟩
theorem zAg.snoc:∀{es:List (List Int×A)} {l:List MapEntry} {e:MapEntry} {ks:List Int} {a:A},zAg H L es l→e.key=zC6 ks→Rel H L a e.val→zAg H L (es++[(ks,a)]) (l++[e])
 | [],l,e,ks,a,h,hk,hr=>by rw[show l=[] from h]; exact⟨e,[],rfl,hk,hr,rfl⟩
 | p::es,_,e,ks,a,⟨e0,l',rfl,h1,h2,h3⟩,hk,hr=>⟨e0,_,rfl,h1,h2,zAg.snoc h3 hk hr⟩
theorem zAg.eraseAt:∀{es:List (List Int×A)} {l:List MapEntry} {j:Nat},zAg H L es l→zAg H L (es.eraseIdx j) (l.eraseIdx j)
 | [],l,j,h=>by rw[show l=[] from h]; exact rfl
 | p::es,_,0,⟨e0,l',rfl,h1,h2,h3⟩=>by simpa using h3
 | p::es,_,j+1,⟨e0,l',rfl,h1,h2,h3⟩=>⟨e0,_,rfl,h1,h2,zAg.eraseAt h3⟩
theorem zFI {t k e:TypeId}{nk:Nat}(ht:P.underlying t=some (.map k e))(hk:zH3 P k=some nk)(hs:RelSt H L σ w){l:Nat}{fr:Bool}{ks:List Int}(hks:ks.length=nk){es:List (List Int×A)}{m v:Value}{x:A}
 (hm:Rel H L (.map l) m)(hσ : σ[l]?=some (.mp fr nk es))(hv:Rel H L x v) :
 ∃w',(Instr.mapUpdate t m (zC6 ks) v).run P w=.ok () w'∧Nxt H L w H L (σ.set l (.mp fr nk (zDm ks x es))) w':=by
 obtain⟨hw,_,_⟩:=zHP hk;simp only[Rel]at hm;obtain⟨li,b,hL,hb,hrow,rfl⟩:=hm;have hob:=hs.obj l li _ hL hσ;simp only[zW]at hob;obtain⟨_,b',ents,ck,e1,h2,hr,hbn,hn⟩:=hob;rw[hb]at e1;cases e1;have hg:(getObj b).run P w=.ok (.map ents ck) w:=by simp[getObj,Sem.run,h2]
 have hlt:=hs.lt l li b hL hb;have hsame:∀o,(w.putObj b o).heap[b]?=some o:=fun o=>World.putObj_heap_same hlt
 rcases zHv (w:=w) hk hks es ents.toList 0 hr hn with ⟨g1,g2,g3,_⟩ | ⟨j,p,en,g1,g2,g3,g4,g5,g6,g7,g8,_⟩
 ·refine⟨w.putObj b (.map (ents.push ⟨zC6 ks,v,ck⟩) (ck+1)),?_,?_⟩
  ·simp only[Instr.mapUpdate,Sem.run_bind,run_underlying ht,Result.andThen_ok,hg,zDr hk hks,run_findKey_eq w hw,g2,zEW _ h2]
  ·rw[g3];refine zD1 hs hL hb h2 (by simp) (by simp) (by simp) (by simp) (by simp) ?_;simp only[zW];refine⟨hrow,b,_,_,hb,hsame _,by rw[Array.toList_push]; exact zAg.snoc hr rfl hv,fun hf=>?_,fun q hq=>?_⟩
   ·obtain⟨c1,c2⟩:=hbn hf;refine⟨by simp[c1],fun i e he=>?_⟩;rw[Array.toList_push]at he;rcases jH he with he | ⟨rfl,rfl⟩
    ·exact c2 i e he
    ·exact c1
   ·rcases List.mem_append.1 hq with hq | hq
    ·exact hn q hq
    ·simp at hq; rw[hq]; exact hks
 ·have hj:ents[j]?=some en:=by rw[←Array.getElem?_toList]; exact g4
  have hmod:ents.modify j (fun e=>{e with key:=zC6 ks,val:=v})=ents.setIfInBounds j {en with key:=zC6 ks,val:=v}:=zKv ents j _ en hj;refine⟨w.putObj b (.map (ents.setIfInBounds j {en with key:=zC6 ks,val:=v}) ck),?_,?_⟩
  ·simp only[Instr.mapUpdate,Sem.run_bind,run_underlying ht,Result.andThen_ok,hg,zDr hk hks,run_findKey_eq w hw,g7,Nat.zero_add,hj,Option.map_some,Option.getD_some,g6,Instr.keyThatStays,zNf,if_true,Sem.run_pure,hmod,zEW _ h2]
  ·rw[g8];refine zD1 hs hL hb h2 (by simp) (by simp) (by simp) (by simp) (by simp) ?_;simp only[zW];refine⟨hrow,b,_,_,hb,hsame _,by rw[Array.toList_setIfInBounds]; exact zAg.setAt hr rfl hv,fun hf=>?_,fun q hq=>?_⟩
   ·obtain⟨c1,c2⟩:=hbn hf;refine⟨by simp[c1],fun i e he=>?_⟩;rw[Array.toList_setIfInBounds,List.getElem?_set]at he;split at he
    ·rename_i hji;subst hji;split at he
     ·cases he;exact c2 _ en g4
     ·cases he
    ·exact c2 i e he
   ·rcases List.mem_or_eq_of_mem_set hq with hq | rfl
    ·exact hn q hq
    ·exact hks
theorem qBy {t k e:TypeId}{nk:Nat}(ht:P.underlying t=some (.map k e))(hk:zH3 P k=some nk)(hs:RelSt H L σ w){l:Nat}{fr:Bool}{ks:List Int}(hks:ks.length=nk){es:List (List Int×A)}{m:Value}
 (hm:Rel H L (.map l) m)(hσ : σ[l]?=some (.mp fr nk es))(ats:Array TypeId)(hat:ats[0]?=some t)(ty:TypeId) :
 ∃w',(Builtin.delete_ ats ty #[m,zC6 ks]).run P w=.ok (.tuple #[]) w'∧Nxt H L w H L (σ.set l (.mp false nk (zIe ks es))) w':=by
 obtain⟨hw,_,_⟩:=zHP hk;simp only[Rel]at hm;obtain⟨li,b,hL,hb,hrow,rfl⟩:=hm;have hob:=hs.obj l li _ hL hσ;simp only[zW]at hob;obtain⟨_,b',ents,ck,e1,h2,hr,hbn,hn⟩:=hob;rw[hb]at e1;cases e1;have hg:(getObj b).run P w=.ok (.map ents ck) w:=by simp[getObj,Sem.run,h2]
 have hlt:=hs.lt l li b hL hb;have hsame:∀o,(w.putObj b o).heap[b]?=some o:=fun o=>World.putObj_heap_same hlt
 rcases zHv (w:=w) hk hks es ents.toList 0 hr hn with ⟨g1,g2,_,g4⟩ | ⟨j,p,en,g1,g2,g3,g4,g5,g6,g7,_,g9⟩
 ·refine⟨w.putObj b (.map ents ck),?_,?_⟩
  ·simp only[Builtin.delete_,hat,List.getElem?_toArray,List.getElem?_cons_zero,List.getElem?_cons_succ,Sem.run_bind,run_underlying ht,Result.andThen_ok,hg,zDr hk hks,run_findKey_eq w hw,g2,zEW _ h2];rfl
  ·rw[g4];refine zD1 hs hL hb h2 (by simp) (by simp) (by simp) (by simp) (by simp) ?_;simp only[zW];exact⟨hrow,b,_,_,hb,hsame _,hr,fun hf=>(by cases hf),hn⟩
 ·refine⟨w.putObj b (.map (ents.eraseIdxIfInBounds j) ck),?_,?_⟩
  ·simp only[Builtin.delete_,hat,List.getElem?_toArray,List.getElem?_cons_zero,List.getElem?_cons_succ,Sem.run_bind,run_underlying ht,Result.andThen_ok,hg,zDr hk hks,run_findKey_eq w hw,g7,Nat.zero_add,zEW _ h2];rfl
  ·rw[g9];refine zD1 hs hL hb h2 (by simp) (by simp) (by simp) (by simp) (by simp) ?_;simp only[zW];have hsub:(ents.eraseIdxIfInBounds j).toList=ents.toList.eraseIdx j:=by
    unfold Array.eraseIdxIfInBounds;split
    ·simp
    ·rw[List.eraseIdx_of_length_le (by simp; omega)]
   exact⟨hrow,b,_,_,hb,hsame _,by rw[hsub]; exact zAg.eraseAt hr,fun hf=>(by cases hf),fun q hq=>hn q (List.mem_of_mem_eraseIdx hq)⟩
theorem qIe (hs:RelSt H L σ w)(nk:Nat):Nxt H L w H (L++[(⟨some w.heap.size,0,0,false⟩:LI)]) (σ++[AObj.mp true nk []]) (w.alloc (.map #[] 0)):=by refine zK5 hs _ _ ?_;simp only[zW];exact⟨trivial,w.heap.size,#[],0,rfl,heap_alloc_new w _,rfl,fun _=>⟨rfl,fun i e he=>by simp at he⟩,by simp⟩
theorem qCx {t k e:TypeId}(ht:P.underlying t=some (.map k e))(hs:RelSt H L σ w){l nk:Nat}{es:List (List Int×A)}{m:Value}(hm:Rel H L (.map l) m)(hσ : σ[l]?=some (.mp true nk es)) :
 ∃w',(Instr.range t m).run P w=.ok (.pointer (some ⟨w.heap.size,0,none⟩)) w'∧Nxt H L w H (L++[(⟨some w.heap.size,0,0,false⟩:LI)]) (σ++[AObj.it l es.length []]) w':=by
 simp only[Rel]at hm;obtain⟨li,b,hL,hb,hrow,rfl⟩:=hm;have hob:=hs.obj l li _ hL hσ;simp only[zW]at hob;obtain⟨_,b',ents,ck,e1,h2,hr,hbn,hn⟩:=hob;rw[hb]at e1;cases e1;obtain⟨c1,c2⟩:=hbn rfl;have hck:ck=es.length:=by rw[c1,hr.length]
 refine⟨w.alloc (.mapIter (some b) ck #[] ck),?_,?_⟩
 ·have hg:(getObj b).run P w=.ok (.map ents ck) w:=by simp[getObj,Sem.run,h2]
  simp only[Instr.range,Sem.run_bind,run_underlying ht,Result.andThen_ok,hg,Sem.run_pure,run_newObj];rfl
 ·refine zK5 hs _ _ ?_;simp only[zW];refine⟨trivial,w.heap.size,b,li,rfl,?_,hb,hrow,?_⟩
  ·rw[List.getElem?_append_left (List.getElem?_eq_some_iff.1 hL).1]; exact hL
  ·rw[heap_alloc_new,hck]
theorem zOj {ents:Array MapEntry}{met:List Nat}{e:MapEntry}:e∈(leftOf ents met.toArray).toList↔e∈ents.toList∧e.born∉met:=by unfold leftOf;simp
theorem zOz (hs:RelSt H L σ w):Nxt H L w H L σ w.drew :=
 ⟨hs.heap_eq rfl,⟨rfl,rfl,rfl,Nat.le_refl _,fun _ _ _=>rfl,HLe.refl _,fun _ _ _ h=>.inl h,Nat.le_succ _,fun _ _ h=>h⟩,LLe.refl _,fun _ h=>.inl h⟩
theorem zXQ (ty:TypeId)(hs:RelSt H L σ w){j l nk n:Nat}{met:List Nat}{es:List (List Int×A)}{it:Value}(hi:Rel H L (.ptr j 0) it)(hσ : σ[j]?=some (.it l n met))(hσl : σ[l]?=some (.mp true nk es))(hnn:n=es.length) :
 ((∀i,i<n→i∈met)∧(Instr.next it false ty).run P w=.ok (.tuple #[.bool false]) w) ∨
 ∃(i:Nat) (p:List Int×A) (v:Value) (w':World),i∉met∧es[i]?=some p∧(Instr.next it false ty).run P w=.ok (.tuple #[.bool true,zC6 p.1,v]) w'∧Rel H L p.2 v∧Nxt H L w H L (σ.set j (.it l n (met++[i]))) w':=by
 simp only[Rel]at hi;obtain⟨li,b,hL,hb,hrow,rfl⟩:=hi;have hob:=hs.obj j li _ hL hσ;simp only[zW]at hob;obtain⟨_,b',mb,lm,e1,e2,e3,e4,hit⟩:=hob;rw[hb]at e1;cases e1;have hom:=hs.obj l lm _ e2 hσl;simp only[zW]at hom;obtain⟨_,mb',ents,ck,g1,g2,hr,hbn,hn⟩:=hom;rw[e3]at g1;cases g1;obtain⟨c1,c2⟩:=hbn rfl;have hck:ck=n:=by rw[c1,hr.length,hnn]
 have hborn:∀x∈ents.toList,x.born<n:=fun x hx=>by obtain⟨i,hi,rfl⟩:=List.mem_iff_getElem.1 hx;have:=c2 i _ (List.getElem?_eq_getElem hi);rw[this,←hck,c1];exact hi
 rcases run_next_at (P:=P) w ty b mb n n met.toArray ents ck hit g2 hborn (Nat.le_refl _)with ⟨k1,k2⟩ | ⟨e,he,w1,k1,k2⟩
 ·refine .inl ⟨fun i hi=>?_,k2⟩;have hie:i<ents.toList.length:=by rw[hr.length]; omega
  have hbi:=c2 i _ (List.getElem?_eq_getElem hie);by_cases hmi:i∈met
  ·exact hmi
  ·have:ents.toList[i]∈(leftOf ents met.toArray).toList:=zOj.2 ⟨List.getElem_mem hie,by rw[hbi]; exact hmi⟩;have h0:leftOf ents met.toArray = #[]:=Array.eq_empty_of_size_eq_zero k1;rw[h0]at this;simp at this
 ·obtain⟨he1,he2⟩:=zOj.1 he;obtain⟨i,hi,rfl⟩:=List.mem_iff_getElem.1 he1;have hbi:=c2 i _ (List.getElem?_eq_getElem hi);have hie:i<es.length:=by rw[←hr.length]; exact hi
  obtain⟨e',q1,q2,q3⟩:=hr.get (List.getElem?_eq_getElem hie);rw[List.getElem?_eq_getElem hi]at q1;cases q1;refine .inr ⟨i,es[i],_,_,by rw[←hbi]; exact he2,List.getElem?_eq_getElem hie,by rw[←q2]; exact k2,q3,?_⟩;have hnx1:Nxt H L w H L σ w1:=by
   rcases k1 with rfl | rfl
   ·exact Nxt.refl hs
   ·exact zOz hs
  have hh:w1.heap=w.heap:=by rcases k1 with rfl | rfl<;>rfl
  have hit1:w1.heap[b]?=some (.mapIter (some mb) n met.toArray n):=by rw[hh]; exact hit
  have hlt:b<w1.heap.size:=by rw[hh]; exact hs.lt j li b hL hb
  refine hnx1.trans ?_;refine zD1 hnx1.st hL hb hit1 (by simp) (by simp) (by simp) (by simp) (by simp) ?_;simp only[zW];refine⟨hrow,b,mb,lm,hb,e2,e3,e4,?_⟩;rw[World.putObj_heap_same hlt,hbi,hck];simp
theorem qB1 (hs:RelSt H L σ w){j l nk n i:Nat}{met:List Nat}{es:List (List Int×A)}{it:Value}(hi:Rel H L (.ptr j 0) it)(hσ : σ[j]?=some (.it l n met))(hσl : σ[l]?=some (.mp true nk es))(hnn:n=es.length)(hmet:met.getLast?=some i){p:List Int×A}(hp:es[i]?=some p) :
 ∃v,(Instr.entry it).run P w=.ok (.tuple #[zC6 p.1,v]) w∧Rel H L p.2 v:=by
 simp only[Rel]at hi;obtain⟨li,b,hL,hb,hrow,rfl⟩:=hi;have hob:=hs.obj j li _ hL hσ;simp only[zW]at hob;obtain⟨_,b',mb,lm,e1,e2,e3,e4,hit⟩:=hob;rw[hb]at e1;cases e1;have hom:=hs.obj l lm _ e2 hσl;simp only[zW]at hom;obtain⟨_,mb',ents,ck,g1,g2,hr,hbn,hn⟩:=hom;rw[e3]at g1;cases g1;obtain⟨c1,c2⟩:=hbn rfl;have hck:ck=n:=by rw[c1,hr.length,hnn]
 obtain⟨e,q1,q2,q3⟩:=hr.get hp;have hbi:=c2 i e q1;obtain⟨ini,hini⟩:∃ini,met=ini++[i]:=by rw[List.getLast?_eq_some_iff]at hmet;exact hmet
 have hnod:(ents.toList.map (·.born)).Nodup:=by rw[List.nodup_iff_pairwise_ne,List.pairwise_iff_getElem];intro x y hx hy hxy;simp only[List.length_map]at hx hy;simp only[List.getElem_map,c2 x _ (List.getElem?_eq_getElem hx),c2 y _ (List.getElem?_eq_getElem hy)];omega
 refine⟨e.val,?_,q3⟩;rw[←q2];refine run_entry_at w b mb n ini.toArray ents ck e ?_ g2 (List.mem_of_getElem? q1) hnod;rw[hit,hini,hbi,hck];simp
end
end Go.Abs
