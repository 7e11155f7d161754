/-
  Regions whose order is the text's.
-/
import Derived.Test.YthglhccibdlccaaGreatDoorX7
import Derived.TacticsIn
import Derived.OrdersIn
set_option linter.unusedVariables false
set_option linter.unusedSimpArgs false
namespace Go.Abs
inductive Ex where
 | norm
 | exit (id:Nat)
 | ret
 | pan (v:Value)
def Ex.exit?:Ex→Exit
 | .norm=>.normal
 | .exit id=>.exit id
 | .ret=>.ret
 | .pan v=>.panic [{v,recovered:=false}]
noncomputable def wpG (P:Program) (Qp:Value→Env→St→Prop) (K:Env→St→Prop) (g:KG) (env:Env) (σ : St):Prop :=
 match g.guard with
 | none=>wpO P Qp K g.op env σ
 | some (s,want)=>match env s with
  | .lit (.bool b)=>zFb (b==want) (wpO P Qp K g.op) (zFK g.op.dst K) env σ
  | .lit (.tuple _)=>zFK g.op.dst K env σ
  | _=>False
noncomputable def zCx (P:Program) (Qp:Value→Env→St→Prop) (K:Env→St→Prop):List KG→Env→St→Prop
 | [],env,σ=>K env σ
 | g::rest,env,σ=>wpG P Qp (zCx P Qp K rest) g env σ
section
variable {P:Program}{H:Mem}{L:List LI} {σ : St}{w:World}{N:Nat}{env:Env}{a:Act}
def zPX (D:Nat):Deferred:={target:=.collected D,args:=#[]}
def Mk (w w':World)(dfs ds:List Deferred):Prop:=∃Ds:List Nat,ds=Ds.map zPX++dfs∧Ds.Nodup∧∀D∈Ds,w.heap.size≤D∧w'.heap[D]?=some (.deferred (some []))
theorem Mk.refl (w w':World)(ds:List Deferred):Mk w w' ds ds:=⟨[],rfl,by simp,by simp⟩
theorem Mk.step {w w1 w2:World}{dfs ds:List Deferred}(h:Mk w w1 dfs ds)(hk:∀(k:Nat) d,w1.heap[k]?=some (.deferred d)→w2.heap[k]?=some (.deferred d)):Mk w w2 dfs ds:=by obtain⟨Ds,h1,h2,h3⟩:=h;exact⟨Ds,h1,h2,fun D hD=>⟨(h3 D hD).1,hk _ _ (h3 D hD).2⟩⟩
theorem Mk.trans {w w1 w2:World}{dfs ds es:List Deferred}(h:Mk w w1 dfs ds)(hs:w.heap.size≤w1.heap.size)(hk:∀(k:Nat) d,w1.heap[k]?=some (.deferred d)→w2.heap[k]?=some (.deferred d))(h':Mk w1 w2 ds es):Mk w w2 dfs es:=by
 obtain⟨Ds,h1,h2,h3⟩:=h;obtain⟨Es,k1,k2,k3⟩:=h';refine⟨Es++Ds,by rw[k1,h1,List.map_append,List.append_assoc],?_,fun D hD=>?_⟩
 ·rw[List.nodup_append];refine⟨k2,h2,fun x hx y hy e=>?_⟩;subst e;have:=(k3 x hx).1;have:=(Array.getElem?_eq_some_iff.1 (h3 x hy).2).1;omega
 ·rcases List.mem_append.1 hD with hD | hD
  ·exact⟨Nat.le_trans hs (k3 D hD).1,(k3 D hD).2⟩
  ·exact⟨(h3 D hD).1,hk _ _ (h3 D hD).2⟩
def zG8 (H:Mem)(L:List LI)(w:World)(N:Nat)(Q:Ex→Env→St→Prop)(dfs:List Deferred):Exit→Act→World→Prop:=fun e a' w' =>
 ∃x env' σ' H' L',e=x.exit?∧Mk w w' dfs a'.defers∧qI H' L' N env' a'.tmps∧Nxt H L w H' L' σ' w'∧Q x env' σ'
theorem zG8.next {H':Mem}{L':List LI} {σ':St}{w':World}{Q:Ex→Env→St→Prop}{dfs ds:List Deferred}(hn:Nxt H L w H' L' σ' w')(hm:Mk w w' dfs ds){e:Exit}{b:Act}{v:World}(h:zG8 H' L' w' N Q ds e b v):zG8 H L w N Q dfs e b v:=by obtain⟨x,env'',σ'',H'',L'',h1,h2,h3,h4,h5⟩:=h;exact⟨x,env'',σ'',H'',L'',h1,hm.trans hn.step.size h4.step.dfr h2,h3,hn.trans h4,h5⟩
theorem zDi {ops:Array Oper}{o:Oper}{j:Nat}{want:Bool}{s:Nat}(hg:o.guard=some (j,want))(hs:(ops[j]?).bind (·.dst)=some s)(hN:s<a.tmps.size) :
 (∀b,a.tmps.getD s undef=.bool b→Region.wanted o (yielded ops a.tmps)=decide (b=want))∧(∀t,a.tmps.getD s undef=.tuple t→Region.wanted o (yielded ops a.tmps)=false):=by
 have hget:a.tmps[s]?=some (a.tmps.getD s undef):=by simp[hN]
 constructor
 ·intro b hb;simp only[Region.wanted,hg,yielded,hs,Option.bind_some,hget,hb];cases b<;>cases want<;>rfl
 ·intro t ht;simp only[Region.wanted,hg,yielded,hs,Option.bind_some,hget,ht];cases want<;>rfl
theorem yQ {ops:Array Oper}{o:Oper}{g:KG}(h:zDy P N ops o=some g) :
 zAj P o=some g.op∧(∀x,o.dst=some x→x<N)∧((o.guard=none∧g.guard=none)∨∃j want s,o.guard=some (j,want)∧(ops[j]?).bind (·.dst)=some s∧g.guard=some (s,want)):=by
 unfold zDy at h;split at h<;>try (cases h; done)
 rename_i k hk;split at h<;>try (cases h; done)
 rename_i hd;have hd':∀x,o.dst=some x→x<N:=fun x hx=>by simpa [zZD,hx] using hd
 split at h
 ·rename_i hg; cases h; exact⟨hk,hd',.inl ⟨hg,rfl⟩⟩
 ·rename_i j want hg;split at h<;>try (cases h; done)
  rename_i s hs;cases h;exact⟨hk,hd',.inr ⟨j,want,s,hg,hs,rfl⟩⟩
theorem zEB {ops:Array Oper}{j s:Nat}(hs:(ops[j]?).bind (·.dst)=some s)(hall:∀o∈ops.toList,∀x,o.dst=some x→x<N):s<N:=by
 cases ho:ops[j]? with
 | none=>rw[ho]at hs; cases hs
 | some o =>
  rw[ho]at hs;exact hall o (by rw[Array.mem_toList_iff]; exact Array.mem_of_getElem? ho) s hs
def zIK (P:Program)(N:Nat)(ops:Array Oper):List Oper→List KG→Prop
 | [],gs=>gs=[]
 | o::l,gs=>∃g rest,gs=g::rest∧zDy P N ops o=some g.erase∧zIK P N ops l rest
theorem zJR {ops:Array Oper}:∀{l:List Oper} {gs:List KG},zBP P N ops l=some (gs.map KG.erase)→zIK P N ops l gs
 | [],gs,h=>by
  simp only[zBP,Option.some.injEq]at h;cases gs with
  | nil=>rfl
  | cons g gs=>simp at h
 | o::l,gs,h=>by
  simp only[zBP]at h;split at h<;>try (cases h; done)
  rename_i g gs' hg hgs;cases gs with
  | nil=>simp at h
  | cons g' gs'' =>
   simp only[List.map_cons,Option.some.injEq,List.cons.injEq]at h;obtain⟨rfl,rfl⟩:=h;exact⟨g',gs'',rfl,hg,zJR hgs⟩
theorem zFP {ro:Option Nat}{ops:Array Oper}(hall:∀o∈ops.toList,∀x,o.dst=some x→x<N){Q:Ex→Env→St→Prop}{dfs:List Deferred}{Qc:Exit→Act→World→Prop} :
 ∀(l:List Oper) (gs:List KG) {H:Mem} {L:List LI} {σ : St} {w:World} {env:Env} {a:Act},zIK P N ops l gs→qI H L N env a.tmps→RelSt H L σ w→a.defers=dfs →
  zCx P (fun v=>Q (.pan v)) (Q .norm) gs env σ→(∀e b v,zG8 H L w N Q dfs e b v→Qc e b v)→wpListIn (Wr ro) 0 P ops Qc l a w
 | [],gs,H,L,σ,w,env,a,hc,he,hs,hd,h,hQ=>by simp only[zIK]at hc;subst hc;exact hQ _ _ _ ⟨.norm,env,σ,H,L,rfl,hd▸Mk.refl _ _ _,he,Nxt.refl hs,h⟩
 | o::l,gs,H,L,σ,w,env,a,hc,he,hs,hd,h,hQ=>by
  simp only[zIK]at hc;obtain⟨g,gs',rfl,hg,hgs⟩:=hc;obtain⟨hk,hdst,hgd⟩:=yQ hg;have hkd:=zAo hk;have hke:g.erase.op.dst=g.op.dst:=by show g.op.erase.dst=g.op.dst;cases g.op<;>rfl
  rw[hke]at hkd;simp only[zCx]at h;have exec:wpO P (fun v=>Q (.pan v)) (zCx P (fun v=>Q (.pan v)) (Q .norm) gs') g.op env σ→o.wpIn (Wr ro) 0 P a w (wpListIn (Wr ro) 0 P ops Qc l) Qc:=by
   intro h;refine zDw hk hdst he hs h (fun env' σ' H' L' a' w' h1 h2 h3 h4=>?_) (fun v σ' H' L' w' h1 h2=>?_)
   ·exact zFP hall l gs' hgs h2 h3.st (h1.trans hd) h4 fun e b v hp=>hQ e b v (hp.next h3 (Mk.refl _ _ _))
   ·exact hQ _ _ _ ⟨.pan v,env,σ',H',L',rfl,hd▸Mk.refl _ _ _,he.mono h1.step.hle h1.lle,h1,h2⟩
  have skip:zCx P (fun v=>Q (.pan v)) (Q .norm) gs' (env.put g.op.dst (.lit undef)) σ→wpListIn (Wr ro) 0 P ops Qc l (a.put o.dst undef) w:=by intro h;refine zFP hall l gs' hgs ?_ hs ((qW _ _).trans hd) h hQ;rw[hkd];exact he.put hdst (by simp[Rel])
  unfold wpListIn;have hge:g.erase.guard=g.guard:=rfl;rw[hge]at hgd;rcases hgd with ⟨ho,hgn⟩ | ⟨j,want,s,ho,hsl,hgn⟩
  ·simp only[wpG,hgn]at h;have hw:Region.wanted o (yielded ops a.tmps)=true:=by simp[Region.wanted,ho]
   rw[if_pos hw];exact exec h
  ·simp only[wpG,hgn]at h;have hsN:=zEB hsl hall;obtain⟨w1,w2⟩:=zDi (a:=a) ho hsl (Nat.lt_of_lt_of_le hsN he.1);have hrel:=he.2 s;split at h
   ·rename_i b hb;rw[hb]at hrel;simp only[Rel]at hrel;rw[w1 b hrel];by_cases hbw:b=want
    ·simp only[hbw,decide_true,if_true];exact exec (h.1 (by simp[hbw]))
    ·simp only[hbw,decide_false,Bool.false_eq_true,if_false];exact⟨fun _ _=>trivial,skip (h.2 (by simp[hbw]))⟩
   ·rename_i t ht;rw[ht]at hrel;simp only[Rel]at hrel;rw[w2 t hrel];simp only[Bool.false_eq_true,if_false];exact⟨fun _ _=>trivial,skip h⟩
   ·exact h.elim
end
end Go.Abs
