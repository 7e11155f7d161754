/-
  Weakening a state; calls of functions that only compute.
  Functions that only compute: their contracts, and how a call meets them.
-/
import Derived.Test.YthglhccibdlccaaGreatDoorX10
set_option linter.unusedVariables false
set_option linter.unusedSimpArgs false
namespace Go.Abs
section
variable {P:Program}{H:Mem}{L L':List LI}
mutual
def nrm0:A→A
 | .nil=>.sl 0 []
 | .fsl n cs=>.sl n (jG cs)
 | .sl n cs=>.sl n (jG cs)
 | .agg cs=>.agg (jG cs)
 | .tup cs=>.tup (jG cs)
 | .rptr cs=>.rptr (jG cs)
 | .clo f fs cs=>.clo f (jG fs) (jG cs)
 | .any=>.any
 | .lit v=>.lit v
 | .ptr l o=>.ptr l o
 | .row l n=>.row l n
 | .rwp l n o=>.rwp l n o
 | .map l=>.map l
 | .win l n o k c=>.win l n o k c
def jG:List A→List A
 | []=>[]
 | c::cs=>nrm0 c::jG cs
end
mutual
theorem Rel.nrm0:∀(a:A) {v:Value},Rel H L a v→Rel H L (nrm0 a) v
 | .nil,v,h=>by simp only[Rel,Abs.nrm0]at h⊢;exact⟨none,0,h,Nat.le_refl _,Nat.zero_le _,.inl (by simp)⟩
 | .fsl n cs,v,h=>by
  simp only[Rel,Abs.nrm0]at h⊢;obtain⟨a,rfl,h1,h3⟩:=h;refine⟨a,n,rfl,Nat.le_refl _,h1,?_⟩;rcases h3 with ⟨h3,rfl⟩ | ⟨b,o,us,rfl,h4,h5,h6⟩
  ·exact .inl ⟨h3,by simp[jG]⟩
  ·exact .inr ⟨b,o,us,rfl,zX.nrm0 cs h4,h5,h6⟩
 | .sl n cs,v,h=>by
  simp only[Rel,Abs.nrm0]at h⊢;obtain⟨a,cap,rfl,h1,h2,h3⟩:=h;refine⟨a,cap,rfl,h1,h2,?_⟩;rcases h3 with ⟨h3,rfl⟩ | ⟨b,o,us,rfl,h4,h5,h6⟩
  ·exact .inl ⟨h3,by simp[jG]⟩
  ·exact .inr ⟨b,o,us,rfl,zX.nrm0 cs h4,h5,h6⟩
 | .agg cs,v,h=>by simp only[Rel,Abs.nrm0]at h⊢;obtain⟨vs,rfl,h1,h2⟩:=h;exact⟨vs,rfl,zX.nrm0 cs h1,h2⟩
 | .tup cs,v,h=>by simp only[Rel,Abs.nrm0]at h⊢;obtain⟨vs,rfl,h1⟩:=h;exact⟨vs,rfl,zX.nrm0 cs h1⟩
 | .rptr cs,v,h=>by simp only[Rel,Abs.nrm0]at h⊢;obtain⟨b,o,us,rfl,h4,h5,h6⟩:=h;exact⟨b,o,us,rfl,zX.nrm0 cs h4,h5,h6⟩
 | .clo f first cap,v,h=>by simp only[Rel,Abs.nrm0]at h⊢;obtain⟨fs,cs,rfl,h1,h2⟩:=h;exact⟨fs,cs,rfl,zX.nrm0 first h1,zX.nrm0 cap h2⟩
 | .any,_,h=>h
 | .lit _,_,h=>h
 | .ptr _ _,_,h=>h
 | .row _ _,_,h=>h
 | .rwp _ _ _,_,h=>h
 | .map _,_,h=>h
 | .win _ _ _ _ _,_,h=>h
theorem zX.nrm0:∀(cs:List A) {vs:List Value},zX H L cs vs→zX H L (jG cs) vs
 | [],vs,h=>by simpa [zX,jG] using h
 | c::cs,vs,h=>by simp only[zX,jG]at h⊢;obtain⟨u,us,rfl,h1,h2⟩:=h;exact⟨u,us,rfl,Rel.nrm0 c h1,zX.nrm0 cs h2⟩
end
mutual
def nrm (σ : St):A→A
 | .row l n=>match σ[l]? with
  | some (.row _ _ _ m cs)=>if n=m then .sl n (jG cs) else .row l n
  | _=>.row l n
 | .nil=>.sl 0 []
 | .fsl n cs=>.sl n (zIz σ cs)
 | .sl n cs=>.sl n (zIz σ cs)
 | .agg cs=>.agg (zIz σ cs)
 | .tup cs=>.tup (zIz σ cs)
 | .rptr cs=>.rptr (zIz σ cs)
 | .clo f fs cs=>.clo f (zIz σ fs) (zIz σ cs)
 | .any=>.any
 | .lit v=>.lit v
 | .ptr l o=>.ptr l o
 | .rwp l n o=>.rwp l n o
 | .map l=>.map l
 | .win l n o k c=>.win l n o k c
def zIz (σ : St):List A→List A
 | []=>[]
 | c::cs=>nrm σ c::zIz σ cs
end
def zPg (H:Mem)(L:List LI) (σ : St)(w:World):Prop :=
 ∀(i:Nat) li fz e sz n cs,L[i]?=some li→σ[i]?=some (.row fz e sz n cs)→∀b,li.block=some b→∃cur,w.heap[b]?=some (.cells cur e (0,0))∧n≤li.cap∧li.cap≤maxLen ∧
  zX H L cs (cur.toList.take (n*sz))∧(∀u∈cur.toList.take (n*sz),one u)∧At H b 0 (cur.toList.take (n*sz))
mutual
theorem Rel.nrm {σ : St}{w:World}(hs:∀(i:Nat) l fz e sz n cs,L[i]?=some l→σ[i]?=some (.row fz e sz n cs)→l.len=n∧cs.length=n*sz∧(l.block=none→n=0))(hf:zPg H L σ w) :
 ∀(a:A) {v:Value},Rel H L a v→Rel H L (nrm σ a) v
 | .row l n,v,h=>by
  simp only[Abs.nrm];split
  ·rename_i fz e sz m cs hσ;split
   ·rename_i hn;subst hn;simp only[Rel]at h⊢;obtain⟨_,li,e1,e2,e3,hv⟩:=h;obtain⟨g1,g2,g3⟩:=hs l li fz e sz n cs e1 hσ;have hv:=hv g1.symm;cases hb:li.block with
    | none =>
     have h0:=g3 hb;subst h0;rw[hb]at hv;have hcs:cs=[]:=List.eq_nil_of_length_eq_zero (by simpa using g2);exact⟨none,0,hv,Nat.le_refl _,Nat.zero_le _,.inl ⟨rfl,by simp[hcs,jG]⟩⟩
    | some b =>
     rw[hb]at hv;obtain⟨cur,_,k2,k3,k4,k5,k6⟩:=hf l li fz e sz n cs e1 hσ b hb;exact⟨_,_,hv,k2,k3,.inr ⟨b,0,_,rfl,zX.nrm0 cs k4,k5,k6⟩⟩
   ·exact h
  ·exact h
 | .nil,v,h=>by simp only[Rel,Abs.nrm]at h⊢;exact⟨none,0,h,Nat.le_refl _,Nat.zero_le _,.inl (by simp)⟩
 | .fsl n cs,v,h=>by
  simp only[Rel,Abs.nrm]at h⊢;obtain⟨a,rfl,h1,h3⟩:=h;refine⟨a,n,rfl,Nat.le_refl _,h1,?_⟩;rcases h3 with ⟨h3,rfl⟩ | ⟨b,o,us,rfl,h4,h5,h6⟩
  ·exact .inl ⟨h3,by simp[zIz]⟩
  ·exact .inr ⟨b,o,us,rfl,zX.nrm hs hf cs h4,h5,h6⟩
 | .sl n cs,v,h=>by
  simp only[Rel,Abs.nrm]at h⊢;obtain⟨a,cap,rfl,h1,h2,h3⟩:=h;refine⟨a,cap,rfl,h1,h2,?_⟩;rcases h3 with ⟨h3,rfl⟩ | ⟨b,o,us,rfl,h4,h5,h6⟩
  ·exact .inl ⟨h3,by simp[zIz]⟩
  ·exact .inr ⟨b,o,us,rfl,zX.nrm hs hf cs h4,h5,h6⟩
 | .agg cs,v,h=>by simp only[Rel,Abs.nrm]at h⊢;obtain⟨vs,rfl,h1,h2⟩:=h;exact⟨vs,rfl,zX.nrm hs hf cs h1,h2⟩
 | .tup cs,v,h=>by simp only[Rel,Abs.nrm]at h⊢;obtain⟨vs,rfl,h1⟩:=h;exact⟨vs,rfl,zX.nrm hs hf cs h1⟩
 | .rptr cs,v,h=>by simp only[Rel,Abs.nrm]at h⊢;obtain⟨b,o,us,rfl,h4,h5,h6⟩:=h;exact⟨b,o,us,rfl,zX.nrm hs hf cs h4,h5,h6⟩
 | .clo f first cap,v,h=>by simp only[Rel,Abs.nrm]at h⊢;obtain⟨fs,cs,rfl,h1,h2⟩:=h;exact⟨fs,cs,rfl,zX.nrm hs hf first h1,zX.nrm hs hf cap h2⟩
 | .any,_,h=>h
 | .lit _,_,h=>h
 | .ptr _ _,_,h=>h
 | .rwp _ _ _,_,h=>h
 | .map _,_,h=>h
 | .win _ _ _ _ _,_,h=>h
theorem zX.nrm {σ : St}{w:World}(hs:∀(i:Nat) l fz e sz n cs,L[i]?=some l→σ[i]?=some (.row fz e sz n cs)→l.len=n∧cs.length=n*sz∧(l.block=none→n=0))(hf:zPg H L σ w) :
 ∀(cs:List A) {vs:List Value},zX H L cs vs→zX H L (zIz σ cs) vs
 | [],vs,h=>by simpa [zX,zIz] using h
 | c::cs,vs,h=>by simp only[zX,zIz]at h⊢;obtain⟨u,us,rfl,h1,h2⟩:=h;exact⟨u,us,rfl,Rel.nrm hs hf c h1,zX.nrm hs hf cs h2⟩
end
end
end Go.Abs
namespace Go.Abs
section
variable {P:Program}{H:Mem}{L:List LI} {σ : St}{w:World}
def zVi (L:List LI) (σ : St)(b o:Nat):Prop:=∃(i:Nat) (li:LI) (fz:Bool) (e:TypeId) (sz n:Nat) (cs:List A),L[i]?=some li∧σ[i]?=some (AObj.row fz e sz n cs)∧li.block=some b∧o<n*sz
open Classical in
noncomputable def zLt (H:Mem) (L:List LI) (σ : St) (w:World):Mem:=⟨fun b o=>match H b o with
 | some v=>some v
 | none=>if zVi L σ b o then w.cell? ⟨b,o,none⟩ else none,fun b o v h=>by simp only[H.2 b o v h]⟩
open Classical in
theorem zGL (H:Mem)(L:List LI) (σ : St)(w:World)(b o:Nat):zLt H L σ w b o=match H b o with
 | some v=>some v
 | none=>if zVi L σ b o then w.cell? ⟨b,o,none⟩ else none:=rfl
theorem zML:HLe H (zLt H L σ w):=fun b o v h=>by rw[zGL,h]
theorem zNW {b o:Nat}{v:Value}(h:zLt H L σ w b o=some v):H b o=some v∨(zVi L σ b o∧w.cell? ⟨b,o,none⟩=some v):=by
 rw[zGL]at h;split at h
 ·rename_i u hu; cases h; exact .inl hu
 ·split at h
  ·rename_i hr; exact .inr ⟨hr,h⟩
  ·cases h
theorem zS1 (hs:RelSt H L σ w):∀b o v,zLt H L σ w b o=some v→w.cell? ⟨b,o,none⟩=some v:=fun b o v h =>
 (zNW h).elim (hs.pers b o v) fun h=>h.2
theorem zNV (hs:RelSt H L σ w):zPg (zLt H L σ w) L σ w:=by
 intro i li fz e sz n cs hL hσ b hb;have hob:=hs.obj i li _ hL hσ;simp only[zW]at hob;obtain⟨_,hln,hcl,hob⟩:=hob;rcases hob with ⟨h0,_⟩ | ⟨b',cur,hb',hh,k1,k2,k3,k4,k5,k6⟩
 ·rw[hb]at h0; cases h0
 ·rw[hb]at hb';cases hb';refine⟨cur,hh,k1,k2,zX.mono zML (LLe.refl _) _ k4,k5,fun j u hu=>?_⟩;have hj:j<n*sz:=by
   rw[List.getElem?_take]at hu;split at hu
   ·assumption
   ·cases hu
  have hc:w.cell? ⟨b,j,none⟩=some u:=by
   rw[cell_of_row w b j cur e (0,0) hh];rw[List.getElem?_take,if_pos hj]at hu
   simpa using hu
  simp only[Nat.zero_add];rw[zGL];split
  ·rename_i v hv;have:=hs.pers b j v hv;rw[hc]at this;exact this.symm
  ·rw[if_pos ⟨i,li,fz,e,sz,n,cs,hL,hσ,hb,hj⟩];exact hc
theorem zVO (hs:RelSt H L σ w):∀(i:Nat) l fz e sz n cs,L[i]?=some l→σ[i]?=some (.row fz e sz n cs)→l.len=n∧cs.length=n*sz∧(l.block=none→n=0):=by
 intro i l fz e sz n cs hL hσ;have hob:=hs.obj i l _ hL hσ;simp only[zW]at hob;refine⟨hob.2.1,hob.2.2.1,fun hb=>?_⟩;rcases hob.2.2.2 with ⟨_,h0⟩ | ⟨b,cur,hb',_⟩
 ·exact h0
 ·rw[hb]at hb'; cases hb'
def qFW (P:Program)(f:FuncId)(args:List A)(r:A):Prop :=
 yN P f args [] fun o σ'=>∃r',o=.ret r'∧nrm σ' r'=r∧r.bnd 0=true
theorem yN.mono {f:FuncId}{args:List A}{Q Q':Out→St→Prop}(h:yN P f args σ Q)(hq:∀o σ',Q o σ'→Q' o σ'):yN P f args σ Q':=fun H L w vs h1 h2 =>
 (h H L w vs h1 h2).mono fun _ _ ⟨o,σ',H',L',g1,g2,g3⟩=>⟨o,σ',H',L',g1,g2,hq _ _ g3⟩
theorem yN.args {f:FuncId}{args args':List A}{Q:Out→St→Prop}(h:yN P f args' σ Q)(he:jG args=args'):yN P f args σ Q:=fun H L w vs h1 h2 =>
 h H L w vs h1 (he▸zX.nrm0 args h2)
theorem RelSt.forget (hs:RelSt H L σ w):RelSt H [] [] w :=
 ⟨hs.pers,rfl,fun i l o h=>by simp at h,fun i j l l' b h=>by simp at h,fun i l b h=>by simp at h⟩
theorem qFW.call {f:FuncId}{args:List A}{r:A}(h:qFW P f args r)(hb:zCU 0 args=true):yN P f args σ fun o σ'=>o=.ret r∧σ' = σ:=by
 intro H L w vs hs ha;refine(h H [] w vs hs.forget (zX.levels (k:=0) (fun l hl=>by omega) args hb ha)).mono fun e w' hh=>?_
 obtain⟨o,σ',H',L',g1,g2,r',rfl,hr,hrb⟩:=hh;obtain⟨v,rfl,hv⟩:=g1;have hO:∀b,¬zO4 ([]:List LI) b:=fun b ⟨i,l,hi,_⟩=>by simp at hi
 have hnew:∀b,zO4 L' b→w.heap.size≤b:=fun b hb=>(g2.own b hb).elim (fun h=>(hO b h).elim) id
 have hle:HLe H (zLt H' L' σ' w'):=g2.step.hle.trans zML;have hkeep:∀k,k<w.heap.size→w'.heap[k]?=w.heap[k]?:=fun k hk=>g2.step.keep k hk (hO k)
 have hold:∀b o v,zLt H' L' σ' w' b o=some v→H b o=some v∨w.heap.size≤b:=by
  intro b o v hv;rcases zNW hv with h1 | ⟨⟨i,li,_,_,_,_,_,hL,_,hb,_⟩,_⟩
  ·rcases g2.step.hnew b o v h1 with h2 | h2 | h2
   ·exact .inl h2
   ·exact(hO b h2).elim
   ·exact .inr h2
  ·exact .inr (hnew b ⟨i,li,hL,hb⟩)
 have hrel:Rel (zLt H' L' σ' w') L' r v:=by
  have:=Rel.nrm (zVO g2.st) (zNV g2.st) r' (Rel.mono zML (LLe.refl _) r' hv)
  rwa [hr]at this
 refine⟨.ret r,σ,zLt H' L' σ' w',L,⟨v,rfl,Rel.levels (k:=0) (fun l hl=>by omega) r hrb hrel⟩,⟨⟨zS1 g2.st,hs.len,fun i l o hL hσ=>?_,hs.inj,fun i l b hL hb=>?_⟩,
  ⟨g2.step.os,g2.step.tape,g2.step.output,g2.step.size,fun k hk _=>hkeep k hk,hle,fun b o v hv=>(hold b o v hv).imp id .inr,g2.step.drawn,g2.step.dfr⟩,LLe.refl _,fun b hb=>.inl hb⟩,rfl,rfl⟩
 ·refine(hs.obj i l o hL hσ).carry (fun b hb=>hkeep b (hs.lt i l b hL hb)) hle (LLe.refl _) (fun b hb o'=>?_);have hlt:=hs.lt i l b hL hb;cases h1:H b o' with
  | some v=>exact hle _ _ _ h1
  | none =>
   cases h2:zLt H' L' σ' w' b o' with
   | none=>rfl
   | some v =>
    rcases hold b o' v h2 with h3 | h3
    ·rw[h1]at h3; cases h3
    ·omega
 ·exact Nat.lt_of_lt_of_le (hs.lt i l b hL hb) g2.step.size
theorem zBz.sub {n0:Nat}{env env':Env}(h:∀t,env' t=env t∨env' t=nrm0 (env t)):zBz n0 env' σ env σ:=by
 intro H0 L0 w0 H L w N tmps _ h1 h2;refine⟨H,L,h1,h2.1,fun t=>?_⟩;rcases h t with h | h
 ·rw[h]; exact h2.2 t
 ·rw[h]; exact Rel.nrm0 _ (h2.2 t)
end
end Go.Abs
