/-
  An evaluator of small code at closed abstract states: code, functions, calls.
  Rules for flags; rows that move to a new level; parts of rows; maps that are not ranged over.
  Paths in a graph: all of them in order, and whether there is one.
  Lists of IDs in increasing order, each once: what the reference's insertion gives, and what a sort and a compaction give.
  The reference's joins of traces.
  Programs as data: types, expressions, definitions, and their cells.
  Functions that panic: contracts and how a call meets them.
  States that begin with a caller's: levels behind it that are kept, and calls on them.
  Breadth first: what a search has met, and what that says.
  slices.Clone, Grow, Concat, SortFunc, Compact at lists of IDs.
  Types, definitions and nodes are compared.
  Regions in order: the deferred calls stay as they are.
-/
import Derived.Test.YtdnelmeboihpkaaGreatDoorX10
import Derived.Test.YtdnelmeboihpkaaGreatDoorX9
set_option linter.unusedVariables false
set_option maxHeartbeats 8000000
set_option maxRecDepth 100000
set_option linter.unusedSimpArgs false
namespace Go.Abs
section
variable {P:Program}{n0:Nat}
abbrev Run:=FuncId→List A→St→Option (A×St)
theorem zWo {env:Env} {σ : St}:zA4 n0 env (σ++[AObj.rsv]) env σ:=by
 intro H0 L0 w0 H L w N tmps h0 h1 h2;have hll:=LLe.append L [(⟨none,0,0,false⟩:LI)];refine⟨H,L++[(⟨none,0,0,false⟩:LI)],h1.trans ?_,h2.mono (HLe.refl _) hll⟩;have hs:=h1.st;refine⟨⟨hs.pers,by simp[hs.len],fun i l o hL hσ=>?_,fun i j x y b hi hj hx hy=>?_,fun i x b hi hx=>?_⟩,Step.refl _ _ _,hll,fun b ⟨i,x,hi,hx⟩=>?_⟩
 ·rcases qZ hL with hL' | ⟨rfl,rfl⟩
  ·have hi:i<L.length:=(jA1.1 hL').1;rw[jAd (by rw[←hs.len]; exact hi)]at hσ;exact(hs.obj i l o hL' hσ).carry (fun _ _=>rfl) (HLe.refl _) hll (fun _ _ _=>rfl)
  ·rw[hs.len]at hσ;rw[jAp (jA _)]at hσ;simp only[jBw,jAx,jA0]at hσ;subst hσ;exact⟨rfl,rfl⟩
 ·rcases qZ hi with hi' | ⟨rfl,rfl⟩
  ·rcases qZ hj with hj' | ⟨rfl,rfl⟩
   ·exact hs.inj i j x y b hi' hj' hx hy
   ·cases hy
  ·cases hx
 ·rcases qZ hi with hi' | ⟨rfl,rfl⟩
  ·exact hs.lt i x b hi' hx
  ·cases hx
 ·rcases qZ hi with hi' | ⟨rfl,rfl⟩
  ·exact .inl ⟨i,x,hi',hx⟩
  ·cases hx
theorem zAe {env:Env}:∀(n:Nat) {σ : St},zA4 n0 env (σ++List.replicate n AObj.rsv) env σ
 | 0,σ=>by simpa using zA4.refl n0 env σ
 | n+1,σ=>by
  have:=(zWo (n0:=n0) (env:=env) (σ:=σ)).trans (zAe n);rw[List.replicate_succ]
  simpa using this
structure Entry where
 k:K
 rs:List RS
 frz:Bool
def qAU (f:Nat):List (Nat×Entry)→Option Entry
 | []=>none
 | p::l=>bif Nat.beq f p.1 then some p.2 else qAU f l
end
end Go.Abs
namespace Go.Abs
section
variable {d:Option Nat}{x v:Operand}{n f:Nat}{g:Bool}{env:Env} {σ : St}
@[simp] theorem qIK (h1:1000≤f)(h2:f<2000):zBc f (.st d x v n) env=zGn (f-1000) (ev env x):=propext (zN5 h1 h2)
@[simp] theorem qIH (h1:2000≤f)(h2:f<4000):zBc f (.ld d x n g) env=zB7 (f-2000) (ev env x):=propext (zGx h1 h2)
@[simp] theorem zXo {c l o:Nat}:zGn c (.ptr l o)=(l<c):=rfl
@[simp] theorem zXn {c l o:Nat}:zB7 c (.ptr l o)=(c≤l):=rfl
@[simp] theorem qI3 (h1:2<f):zDx f σ = σ:=by unfold zDx; rw[if_neg (by omega),if_neg (by omega)]
@[simp] theorem qII {o:KOp}(h1:6<f)(h2:f<1000):zBc f o env=True:=by
 unfold zBc;split
 ·omega
 ·omega
 ·rw[if_neg (by omega),if_neg (by omega),if_neg (by omega)]
end
section
variable {n0:Nat}{env:Env} {σ : St}
theorem zLc {l nk:Nat}{fr:Bool}{es:List (List Int×A)}(hl : σ[l]?=some (.mp fr nk es)):zA4 n0 env (σ.set l (.mp false nk es)) env σ:=by
 intro H0 L0 w0 H L w N tmps h0 h1 h2;have hs:=zIG (o':=.mp false nk es) h1.st hl (fun li hob=>by simp only[zN]at hob ⊢;obtain⟨g0,b,ents,ck,g1,g2,g3,_,g5⟩:=hob;exact⟨g0,b,ents,ck,g1,g2,g3,(fun h=>by cases h),g5⟩)
 exact⟨H,L,⟨hs,h1.step,h1.lle,h1.own⟩,h2⟩
theorem zWq {t l m sz:Nat}{fz:Bool}{e:TypeId}{cs:List A}(ht:env t=.row l m)(hl : σ[l]?=some (.row fz e sz m cs)):zA4 n0 (env.put (some t) (.win l m 0 m sz)) σ env σ:=by
 intro H0 L0 w0 H L w N tmps h0 h1 h2;refine⟨H,L,h1,h2.1,fun x=>?_⟩;simp only[zXC];split
 ·rename_i hx;subst hx;have hr:=h2.2 x;rw[ht]at hr;simp only[Rel]at hr ⊢;obtain⟨g0,li,e1,e2,e3,hv⟩:=hr;refine⟨g0,li,e1,e2,e3,fun hn=>⟨jA _,?_⟩⟩;have hob:=h1.st.obj l li _ e1 hl;simp only[zN]at hob;obtain⟨_,_,_,hob⟩:=hob;rw[hv hn];rcases hob with ⟨hb,hz⟩ | ⟨b,cur,hb,_,k1,k2,_⟩
  ·rw[hb];exact⟨none,0,by rw[hz],by omega,jAs _,.inl rfl⟩
  ·rw[hb];exact⟨_,_,rfl,k1,k2,.inr ⟨b,rfl,rfl,by simp⟩⟩
 ·exact h2.2 x
theorem zVL {H:Mem}{L:List LI}{w:World}(hs:RelSt H L σ w){l:Nat}{o o':AObj}(hl : σ[l]?=some o)(h:∀li,L[l]?=some li→zN H L w li o→zN H L w li o'):RelSt H L (σ.set l o') w:=by
 refine⟨hs.pers,by simp[hs.len],fun i x p hL hp=>?_,hs.inj,hs.lt⟩;by_cases hi:i=l
 ·subst hi;rw[jAi (jA1.1 hl).1]at hp;cases hp;exact h x hL (hs.obj i x o hL hl)
 ·rw[jA8 (Ne.symm hi)]at hp;exact hs.obj i x p hL hp
theorem qBx {H:Mem}{L:List LI}{w:World}(hs:RelSt H L σ w){l n sz:Nat}{li:LI}{e:TypeId}{cs:List A}(hL:L[l]?=some li)(hr:li.isRow=true)(hσ : σ[l]?=some (.row false e sz n cs)) :
 Nxt H L w H (L.set l ⟨none,0,li.len+1,true⟩++[li]) (σ.set l .dead++[AObj.row false e sz n cs]) w:=by
 have hll:=(zDE (li':=(⟨none,0,li.len+1,true⟩:LI)) hL hr rfl (Nat.lt_succ_self _)).trans (LLe.append _ [li]);have hl:l<L.length:=(jA1.1 hL).1;have get:∀(i:Nat) x,(L.set l ⟨none,0,li.len+1,true⟩++[li])[i]?=some x→(i=l∧x.block=none)∨(i≠l∧L[i]?=some x)∨(i=L.length∧x=li):=by
  intro i x hx;rcases qZ hx with hx | ⟨rfl,rfl⟩
  ·by_cases hi:i=l
   ·subst hi;rw[jAi hl]at hx;cases hx;exact .inl ⟨rfl,rfl⟩
   ·rw[jA8 (Ne.symm hi)]at hx;exact .inr (.inl ⟨hi,hx⟩)
  ·exact .inr (.inr ⟨by simp,rfl⟩)
 have hob:=hs.obj l li _ hL hσ;refine⟨⟨hs.pers,by simp[hs.len],fun i x o hx ho=>?_,fun i j x y b' hi hj hx hy=>?_,fun i x b' hi hx=>?_⟩,Step.refl _ _ _,hll,fun b' ⟨i,x,hi,hx⟩=>?_⟩
 ·rcases get i x hx with ⟨rfl,_⟩ | ⟨hi,hx'⟩ | ⟨rfl,rfl⟩
  ·rw[jAd (by rw[jBi,←hs.len]; exact hl),jAi (by rw[←hs.len]; exact hl)]at ho;cases ho;trivial
  ·rw[jAd (by rw[jBi,←hs.len]; exact(jA1.1 hx').1),jA8 (Ne.symm hi)]at ho;exact(hs.obj i x o hx' ho).carry (fun _ _=>rfl) (HLe.refl _) hll (fun _ _ _=>rfl)
  ·rw[hs.len,jAp (by simp)]at ho;simp only[jBi,jBw,jAx,jA0]at ho;subst ho;exact hob.carry (fun _ _=>rfl) (HLe.refl _) hll (fun _ _ _=>rfl)
 ·rcases get i x hi with ⟨_,h0⟩ | ⟨hi1,hi'⟩ | ⟨rfl,rfl⟩
  ·rw[h0]at hx; cases hx
  ·rcases get j y hj with ⟨_,h0⟩ | ⟨hj1,hj'⟩ | ⟨rfl,rfl⟩
   ·rw[h0]at hy; cases hy
   ·exact hs.inj i j x y b' hi' hj' hx hy
   ·exact(hi1 (hs.inj i l x _ b' hi' hL hx hy)).elim
  ·rcases get j y hj with ⟨_,h0⟩ | ⟨hj1,hj'⟩ | ⟨rfl,rfl⟩
   ·rw[h0]at hy; cases hy
   ·exact(hj1 (hs.inj j l y _ b' hj' hL hy hx)).elim
   ·rfl
 ·rcases get i x hi with ⟨_,h0⟩ | ⟨hi1,hi'⟩ | ⟨rfl,rfl⟩
  ·rw[h0]at hx; cases hx
  ·exact hs.lt i x b' hi' hx
  ·exact hs.lt l _ b' hL hx
 ·rcases get i x hi with ⟨_,h0⟩ | ⟨hi1,hi'⟩ | ⟨rfl,rfl⟩
  ·rw[h0]at hx; cases hx
  ·exact .inl ⟨i,x,hi',hx⟩
  ·exact .inl ⟨l,_,hL,hx⟩
theorem zXW {j o l n sz:Nat}{e:TypeId}{ds cs:List A}(hj : σ[j]?=some (.box ds))(ho:ds[o]?=some (.row l n))(hl : σ[l]?=some (.row false e sz n cs)) :
 zA4 n0 env ((σ.set l .dead).set j (.box (ds.set o (.row σ.length n)))++[AObj.row false e sz n cs]) env σ:=by
 intro H0 L0 w0 H L w N tmps h0 h1 h2;have hjl:j≠l:=fun e=>by subst e; rw[hj]at hl; cases hl
 have hjlt:j < σ.length:=(jA1.1 hj).1;have hllt:l < σ.length:=(jA1.1 hl).1;have hLl:L[l]?=some (L[l]'(by rw[h1.st.len]; exact hllt)):=jA2 _;generalize L[l]'(by rw[h1.st.len]; exact hllt)=li at hLl;have hob:=h1.st.obj l li _ hLl hl;have hrow:li.isRow=true:=by simp only[zN]at hob; exact hob.1
 have hn:=qBx h1.st hLl hrow hl;have hj':(σ.set l .dead++[AObj.row false e sz n cs])[j]?=some (.box ds):=by rw[jAd (by rw[jBi]; exact hjlt),jA8 (Ne.symm hjl)];exact hj
 obtain⟨lj,hLj⟩:∃lj,L[j]?=some lj:=⟨_,jA2 (by rw[h1.st.len]; exact hjlt)⟩;have hbj:=h1.st.obj j lj _ hLj hj;simp only[zN]at hbj;obtain⟨_,b0,vs0,e0,p1,p2,p3,_⟩:=hbj;obtain⟨v0,hv0,hr0⟩:=p3.get ho;simp only[Rel]at hr0;obtain⟨q0,li',q1,q2,q3,q4⟩:=hr0;rw[hLl]at q1;cases q1;have hs:=zVL (o':=.box (ds.set o (.row σ.length n))) hn.st hj' (fun lx hlx hob=>by
  have hlj:lx=lj:=by rw[jAd (by rw[jBi,h1.st.len]; exact hjlt),jA8 (Ne.symm hjl),hLj]at hlx;exact(jB1 hlx).symm
  subst hlj;simp only[zN]at hob ⊢;obtain⟨g0,b,vs,e',g1,g2,g3,g4,g5⟩:=hob;rw[p1]at g1;cases g1;rw[p2]at g2;cases g2;refine⟨g0,b0,vs0,e0,p1,p2,?_,g4,g5⟩;have hset:vs0=vs0.set o v0:=by
   apply jC4;intro i;by_cases hi:i=o
   ·subst hi; rw[jAi (jA1.1 hv0).1,hv0]
   ·rw[jA8 (Ne.symm hi)]
  rw[hset];refine g3.set o ?_;simp only[Rel];exact⟨q0,li,by rw[←h1.st.len,jAp (by simp)]; simp,q2,q3,q4⟩)
 rw[List.set_append_left _ _ (by rw[jBi]; exact hjlt)]at hs;have hm:=h1.trans hn;exact⟨H,_,⟨hs,hm.step,hm.lle,hm.own⟩,h2.1,fun x=>Rel.mono (HLe.refl _) hn.lle _ (h2.2 x)⟩
end
end Go.Abs
namespace Go.Proofs.YtdnelmeboihpkaaGreatDoor
structure Edg where
 id:Id
 fro:Id
 to:Id
section
variable (L:List Edg)(to:Id)
def zAs:Nat→Id→List Id→List (List Id)
 | 0,at_,_=>if at_=to then [[]] else []
 | n+1,at_,met=>if at_=to then [[]] else L.flatMap fun e=>if e.fro=at_∧e.to∉met then (zAs n e.to (met++[e.to])).map (e.id::·) else []
inductive Rchs (met:List Id):Id→Prop
 | here:Rchs met to
 | step (e:Edg) (he:e∈L) (hn:e.to∉met) (h:Rchs met e.to):Rchs met e.fro
def zHF (met:List Id):Nat:=(L.filter fun e=>decide (e.to∉met)).length
variable {L to}
theorem zCo {met:List Id}{e:Edg}(he:e∈L)(hn:e.to∉met):zHF L (met++[e.to])<zHF L met:=by
 unfold zHF;have h1:∀M:List Edg,(M.filter fun x=>decide (x.to∉met++[e.to])).length≤(M.filter fun x=>decide (x.to∉met)).length:=by
  intro M;induction M with
  | nil=>simp
  | cons x M ih =>
   rw[List.filter_cons,List.filter_cons];by_cases hx:x.to∈met
   ·simp[hx]; simpa using ih
   ·by_cases hx2:x.to=e.to
    ·simp[hx,hx2,hn];have:=ih;simp at this;omega
    ·simp[hx,hx2]
     simpa using ih
 induction L with
 | nil=>cases he
 | cons x M ih =>
  rw[List.filter_cons,List.filter_cons];rcases jA7.1 he with rfl | he
  ·have:=h1 M;simp[hn];simp at this;omega
  ·have:=ih he;by_cases hx:x.to∈met
   ·simp[hx]; simpa using this
   ·by_cases hx2:x.to=e.to
    ·simp[hx,hx2,hn];simp at this;omega
    ·simp[hx,hx2]
     simpa using this
theorem Rchs.mono {m m':List Id}(hs:∀x∈m',x∈m){x:Id}(h:Rchs L to m x):Rchs L to m' x:=by
 induction h with
 | here=>exact .here
 | step e he hn _ ih=>exact .step e he (fun h=>hn (hs _ h)) ih
theorem Rchs.last {m:List Id}(w:Id){x:Id}(h:Rchs L to m x):Rchs L to (m++[w]) x∨Rchs L to (m++[w]) w:=by
 induction h with
 | here=>exact .inl .here
 | step e he hn _ ih =>
  rcases ih with ih | ih
  ·by_cases hw:e.to=w
   ·exact .inr (hw▸ih)
   ·exact .inl (.step e he (by simp[hn,hw]) ih)
  ·exact .inr ih
theorem Rchs.own {m:List Id}{x:Id}(h:Rchs L to m x):Rchs L to (m++[x]) x:=(h.last x).elim id id
theorem zKf:∀(n:Nat) (at_:Id) (met:List Id),zHF L met≤n→(zAs L to n at_ met≠[]↔Rchs L to met at_)
 | 0,at_,met,hn=>by
  unfold zAs;split
  ·rename_i h; subst h; simpa using Rchs.here
  ·rename_i h;refine⟨fun h=>(h rfl).elim,fun hr=>?_⟩;cases hr with
   | here=>exact(h rfl).elim
   | step e he hm _ =>
    have:=zCo he hm;omega
 | n+1,at_,met,hn=>by
  unfold zAs;split
  ·rename_i h; subst h; simpa using Rchs.here
  ·rename_i h;constructor
   ·intro hne;have hx:∃x,x∈L.flatMap fun e=>if e.fro=at_∧e.to∉met then (zAs L to n e.to (met++[e.to])).map (e.id::·) else []:=List.exists_mem_of_ne_nil _ hne
    obtain⟨x,hx⟩:=hx;rw[List.mem_flatMap]at hx;obtain⟨e,he,hx⟩:=hx;split at hx
    ·rename_i hc;have hlt:=zCo he hc.2;have:=(zKf n e.to (met++[e.to]) (by omega)).1 (fun h0=>by rw[h0]at hx; simp at hx);rw[←hc.1];exact .step e he hc.2 (this.mono (by simp +contextual))
    ·simp at hx
   ·intro hr h0;cases hr with
    | here=>exact h rfl
    | step e he hm hr =>
     have hlt:=zCo he hm;have h1:=(zKf n e.to (met++[e.to]) (by omega)).2 hr.own;have h2:=(List.flatMap_eq_nil_iff.1 h0) e he;rw[if_pos ⟨rfl,hm⟩,List.map_eq_nil_iff]at h2;exact h1 h2
theorem zO0 (m:List Id):zHF L m≤L.length:=jDd _ _
end
end Go.Proofs.YtdnelmeboihpkaaGreatDoor
namespace Go.Proofs.YtdnelmeboihpkaaGreatDoor
open Go.Abs
theorem zGq {x y:Id}:zBu x y=true↔x.a<y.a∨(x.a=y.a∧(x.b<y.b∨(x.b=y.b∧x.c<y.c))):=by
 unfold zBu;split
 ·simp only[decide_eq_true_eq]; omega
 ·split
  ·simp only[decide_eq_true_eq]; omega
  ·simp only[decide_eq_true_eq]; omega
theorem zGr {x y:Id}:zBu x y=false↔¬(x.a<y.a∨(x.a=y.a∧(x.b<y.b∨(x.b=y.b∧x.c<y.c)))):=by rw[←zGq]; simp
theorem zCW (x:Id):zBu x x=false:=by rw[zGr]; omega
theorem zJi {x y z:Id}(h:zBu x y=true)(k:zBu y z=true):zBu x z=true:=by rw[zGq]at *; omega
theorem zDs {x y:Id}(h:zBu x y=false)(k:zBu y x=false):x=y:=by
 rw[zGr]at *
 rw[Id.eq_iff]; omega
theorem zVx {x y:Id}(h:zBu x y=true):x≠y:=fun e=>by subst e; rw[zCW]at h; cases h
theorem zQ9 {x y:Id}(h:zBu x y=true):zBu y x=false:=by rw[zGq]at h; rw[zGr]; omega
theorem zDZ {x y:Id}:zIs x y<0↔zBu x y=true:=by
 rw[zGq];simp only[zIs,orI,zA2]
 repeat' split
 all_goals omega
theorem zDt:Ord zIs where
 irrefl x:=by rw[zDZ,zCW]; simp
 trans x y z h k:=by rw[zDZ]at *; exact zJi h k
 ntrans x y z h k:=by
  rw[zDZ,jCf]at *
  rw[zGr]at *; omega
 anti x y h k:=by
  rw[zDZ,jCf]at *
  exact zDs h k
def SS (l:List Id):Prop:=l.Pairwise fun x y=>zBu x y=true
theorem zEh {x y:Id}:∀{l:List Id},y∈zKs l x↔y∈l∨y=x
 | []=>by simp[zKs]
 | z::l=>by
  simp only[zKs];split
  ·simp only[jA7,zEh (l:=l),or_assoc]
  ·split
   ·rename_i h; subst h;simp only[jA7];constructor
    ·exact fun h=>.inl h
    ·rintro(h | h)
     ·exact h
     ·exact .inl h
   ·simp only[jA7];constructor
    ·rintro(h | h)
     ·exact .inr h
     ·exact .inl h
    ·rintro(h | h)
     ·exact .inr h
     ·exact .inl h
theorem zNf {x:Id}:∀{l:List Id},SS l→SS (zKs l x)
 | [],_=>by simp[zKs,SS]
 | z::l,h=>by
  have h':=jBy.1 h;simp only[zKs];split
  ·rename_i hz;refine jBy.2 ⟨fun y hy=>?_,zNf h'.2⟩;rcases zEh.1 hy with hy | rfl
   ·exact h'.1 y hy
   ·exact hz
  ·rename_i hz;split
   ·exact h
   ·rename_i hne;have hxz:zBu x z=true:=by
     cases hh:zBu x z with
     | true=>rfl
     | false=>exact(hne (zDs (by simpa using hz) hh)).elim
    refine jBy.2 ⟨fun y hy=>?_,h⟩;rcases jA7.1 hy with rfl | hy
    ·exact hxz
    ·exact zJi hxz (h'.1 y hy)
theorem zOw:∀{l acc:List Id},SS acc→SS (l.foldl zKs acc)
 | [],_,h=>h
 | _::l,_,h=>zOw (l:=l) (zNf h)
theorem zLP {y:Id}:∀{l acc:List Id},y∈l.foldl zKs acc↔y∈acc∨y∈l
 | [],_=>by simp
 | x::l,acc=>by simp only[jBz,zLP (l:=l),zEh,jA7,or_assoc]
theorem SS.unique:∀{l l':List Id},SS l→SS l'→(∀x,x∈l↔x∈l')→l=l'
 | [],[],_,_,_=>rfl
 | [],y::l',_,_,h=>by have:=(h y).2 (jAk ..); simp at this
 | x::l,[],_,_,h=>by have:=(h x).1 (jAk ..); simp at this
 | x::l,y::l',h1,h2,h=>by
  have p1:=jBy.1 h1;have p2:=jBy.1 h2;have hxy:x=y:=by
   rcases jA7.1 ((h x).1 (jAk ..))with e | e
   ·exact e
   ·rcases jA7.1 ((h y).2 (jAk ..))with e' | e'
    ·exact e'.symm
    ·have a:=p2.1 x e;have b:=p1.1 y e';rw[zQ9 b]at a; cases a
  subst hxy
  congr 1
  refine SS.unique p1.2 p2.2 fun z=>?_
  constructor
  ·intro hz;rcases jA7.1 ((h z).1 (jAh _ hz))with e | e
   ·have:=p1.1 z hz; subst e; rw[zCW]at this; cases this
   ·exact e
  ·intro hz;rcases jA7.1 ((h z).2 (jAh _ hz))with e | e
   ·have:=p2.1 z hz; subst e; rw[zCW]at this; cases this
   ·exact e
theorem zGw {α : Type}{motive:List α→Prop}(nil:motive [])(snoc:∀l y,motive l→motive (l++[y]))(l:List α):motive l:=by
 have h:∀r:List α,motive r.reverse:=fun r=>by
  induction r with
  | nil=>exact nil
  | cons a r ih=>rw[List.reverse_cons]; exact snoc _ _ ih
 have:=h l.reverse
 rwa [List.reverse_reverse]at this
def zP5 (acc:List Id)(y:Id):List Id:=if acc.getLast?=some y then acc else acc++[y]
def zG9 (l:List Id):List Id:=l.foldl zP5 []
theorem zGO (l:List Id)(y:Id):zG9 (l++[y])=zP5 (zG9 l) y:=by simp[zG9,jCg]
theorem zQc:∀(l:List Id),(zG9 l).getLast?=l.getLast?:=by
 intro l;induction l using zGw with
 | nil=>rfl
 | snoc l y ih =>
  rw[zGO,zP5];split
  ·rename_i h; rw[h]; simp
  ·simp
theorem zLA {x:Id}(l:List Id):x∈zG9 l↔x∈l:=by
 induction l using zGw with
 | nil=>simp[zG9]
 | snoc l y ih =>
  rw[zGO,zP5];split
  ·rename_i h;have hy:y∈zG9 l:=List.mem_of_getLast? h;simp only[ih,jAb,jAn];constructor
   ·exact .inl
   ·rintro(h | rfl)
    ·exact h
    ·exact ih.1 hy |> fun h=>h
  ·simp[ih]
theorem zU0 (l:List Id)(h:l.Pairwise fun x y=>zBu y x=false):SS (zG9 l):=by
 induction l using zGw with
 | nil=>simp[zG9,SS]
 | snoc l y ih =>
  rw[jCq]at h;have hi:=ih h.1;rw[zGO,zP5];split
  ·exact hi
  ·rename_i hne;unfold SS;rw[jCq];refine⟨hi,by simp,fun z hz y' hy'=>?_⟩;simp only[jAn]at hy';subst hy';have hzl:=(zLA l).1 hz;have h1:=h.2.2 z hzl y' (by simp);cases hh:zBu z y' with
   | true=>rfl
   | false =>
    exfalso;have e:=zDs hh h1;subst e;rw[zQc]at hne;have hl:l≠[]:=fun e=>by rw[e]at hzl; simp at hzl
    obtain⟨w,hw⟩:∃w,l.getLast?=some w:=⟨_,List.getLast?_eq_some_getLast hl⟩;have hwl:w∈l:=List.mem_of_getLast? hw;have h2:=h.2.2 w hwl z (by simp);have hwz:w=z∨zBu w z=false:=by
     obtain⟨l',rfl⟩:∃l',l=l'++[w]:=List.getLast?_eq_some_iff.1 hw;rcases jAb.1 hzl with hz' | hz'
     ·have:=h.1;rw[jCq]at this;exact .inr (this.2.2 z hz' w (by simp))
     ·exact .inl (jAn.1 hz').symm
    have:w=z:=by
     rcases hwz with e | e
     ·exact e
     ·exact zDs e h2
    subst this;exact hne hw
def zVT (l:List Id):List Id:=zG9 (zDJ zIs l)
theorem zRe (l:List Id):(zDJ zIs l).Perm l:=List.mergeSort_perm l _
theorem zN3 (l:List Id):(zDJ zIs l).Pairwise fun x y=>zBu y x=false:=by
 have h:=List.pairwise_mergeSort (le:=fun x y=>!decide (zIs y x<0)) (fun a b c h1 h2=>by simp only[jBe,decide_eq_false_iff_not]at *; exact zDt.ntrans c b a h2 h1)
  (fun a b=>by
   simp only[jB3,jBe,decide_eq_false_iff_not];by_cases h:zIs b a<0
   ·exact .inr fun h'=>zDt.irrefl _ (zDt.trans _ _ _ h h')
   ·exact .inl h) l
 exact h.imp fun h=>by simp only[jBe,decide_eq_false_iff_not,zDZ,jCf]at h;exact h
theorem zPy {l:List Id}{x:Id}:x∈zVT l↔x∈l:=by rw[zVT,zLA,(zRe l).mem_iff]
theorem zSc (l:List Id):SS (zVT l):=zU0 _ (zN3 l)
theorem zXO (l:List Id):zVT l=l.foldl zKs [] :=
 SS.unique (zSc l) (zOw (by simp[SS])) fun x=>by rw[zPy,zLP]; simp
@[simp] theorem qGF (d:Id):(zC d).take 3=zC d:=jAj (jA _)
@[simp] theorem qGG (d:Id):(zC d).length=3:=rfl
theorem zKd (d:Id):qF (zC d):=qF.lit (qF.lit (qF.lit qF.nil))
@[simp] theorem qD0 (d:Id):qV (zC d)=zC d:=(zKd d).1
@[simp] theorem qLg (d:Id) {rf g}:vwL rf g (zC d)=zC d:=(zKd d).2 _ _
def qGJ (s:ByteArray):List A:=[.lit (.string s)]
def zA8 (l:List ByteArray):List A:=l.flatMap qGJ
theorem zQh (s:ByteArray):qF (qGJ s):=qF.lit qF.nil
theorem zBm (l:List ByteArray):qF (zA8 l):=zAW zQh l
@[simp] theorem zZu (l:List ByteArray):qV (zA8 l)=zA8 l:=(zBm l).1
@[simp] theorem qEh {rf g}(l:List ByteArray):vwL rf g (zA8 l)=zA8 l:=(zBm l).2 _ _
@[simp] theorem qA0 (l:List ByteArray):(zA8 l).length=l.length:=by rw[zA8,zBC (k:=1) (fun _=>rfl),Nat.mul_one]
@[simp] theorem qA1:zA8 []=[]:=rfl
inductive Typ where
 | mk (k:Int) (id:Id) (kids:List Typ)
def Typ.k:Typ→Int | .mk k _ _=>k
def Typ.id:Typ→Id | .mk _ d _=>d
def Typ.kids:Typ→List Typ | .mk _ _ l=>l
@[simp] theorem Typ.k_mk {k:Int}{i:Id}{l:List Typ}:(Typ.mk k i l).k=k:=rfl
@[simp] theorem Typ.id_mk {k:Int}{i:Id}{l:List Typ}:(Typ.mk k i l).id=i:=rfl
@[simp] theorem Typ.kids_mk {k:Int}{i:Id}{l:List Typ}:(Typ.mk k i l).kids=l:=rfl
mutual
def zIS:Typ→A
 | .mk _ _ l=>.sl l.length (jV l)
def jV:List Typ→List A
 | []=>[]
 | t::l=>.lit (.int .i64 t.k)::.lit (.int .i64 t.id.a)::.lit (.int .i64 t.id.b)::.lit (.int .i64 t.id.c)::zIS t::jV l
end
theorem zUv (t:Typ):zIS t=.sl t.kids.length (jV t.kids):=by cases t; simp only[zIS,Typ.kids]
def zU (t:Typ):List A:=[.lit (.int .i64 t.k),.lit (.int .i64 t.id.a),.lit (.int .i64 t.id.b),.lit (.int .i64 t.id.c),.sl t.kids.length (jV t.kids)]
theorem zDc (l:List Typ):jV l=l.flatMap zU:=by
 induction l with
 | nil=>simp only[jV,List.flatMap_nil]
 | cons t l ih=>simp only[jV,jBc,ih,zUv,zU]; rfl
mutual
theorem zOa:∀t:Typ,nrm0 (zIS t)=zIS t∧∀rf g,vw rf g (zIS t)=zIS t
 | .mk k n l=>by have h:=yL l;simp only[zIS];exact⟨by simp[h.1],fun rf g=>by simp[h.2]⟩
theorem yL:∀l:List Typ,qF (jV l)
 | []=>by simp only[jV]; exact qF.nil
 | v::l=>by have h:=zOa v;have h':=yL l;simp only[jV];exact⟨by simp[h.1,h'.1],fun rf g=>by simp[h.2,h'.2]⟩
end
theorem zKe (t:Typ):qF (zU t):=qF.lit (qF.lit (qF.lit (qF.lit (qF.sl (yL _) qF.nil))))
inductive Exp where
 | mk (id:Id) (k n:Int) (ref:Id) (typ:Typ) (kids:List Exp) (names:List ByteArray)
def Exp.id:Exp→Id | .mk x _ _ _ _ _ _=>x
def Exp.k:Exp→Int | .mk _ x _ _ _ _ _=>x
def Exp.n:Exp→Int | .mk _ _ x _ _ _ _=>x
def Exp.ref:Exp→Id | .mk _ _ _ x _ _ _=>x
def Exp.typ:Exp→Typ | .mk _ _ _ _ x _ _=>x
def Exp.kids:Exp→List Exp | .mk _ _ _ _ _ x _=>x
def Exp.names:Exp→List ByteArray | .mk _ _ _ _ _ _ x=>x
@[simp] theorem Exp.id_mk {a:Id}{b c:Int}{d:Id}{e:Typ}{f:List Exp}{g:List ByteArray}:(Exp.mk a b c d e f g).id=a:=rfl
@[simp] theorem Exp.k_mk {a:Id}{b c:Int}{d:Id}{e:Typ}{f:List Exp}{g:List ByteArray}:(Exp.mk a b c d e f g).k=b:=rfl
@[simp] theorem Exp.n_mk {a:Id}{b c:Int}{d:Id}{e:Typ}{f:List Exp}{g:List ByteArray}:(Exp.mk a b c d e f g).n=c:=rfl
@[simp] theorem Exp.ref_mk {a:Id}{b c:Int}{d:Id}{e:Typ}{f:List Exp}{g:List ByteArray}:(Exp.mk a b c d e f g).ref=d:=rfl
@[simp] theorem Exp.typ_mk {a:Id}{b c:Int}{d:Id}{e:Typ}{f:List Exp}{g:List ByteArray}:(Exp.mk a b c d e f g).typ=e:=rfl
@[simp] theorem Exp.kids_mk {a:Id}{b c:Int}{d:Id}{e:Typ}{f:List Exp}{g:List ByteArray}:(Exp.mk a b c d e f g).kids=f:=rfl
@[simp] theorem Exp.names_mk {a:Id}{b c:Int}{d:Id}{e:Typ}{f:List Exp}{g:List ByteArray}:(Exp.mk a b c d e f g).names=g:=rfl
mutual
def zIR:Exp→A
 | .mk _ _ _ _ _ l _=>.sl l.length (jP l)
def jP:List Exp→List A
 | []=>[]
 | e::l=>[.lit (.int .i64 e.id.a),.lit (.int .i64 e.id.b),.lit (.int .i64 e.id.c),.lit (.int .i64 e.k),.lit (.int .i64 e.n),.lit (.int .i64 e.ref.a),.lit (.int .i64 e.ref.b),.lit (.int .i64 e.ref.c),.lit (.int .i64 e.typ.k),.lit (.int .i64 e.typ.id.a),.lit (.int .i64 e.typ.id.b),.lit (.int .i64 e.typ.id.c),.sl e.typ.kids.length (jV e.typ.kids),zIR e,.sl e.names.length (zA8 e.names)]++jP l
end
theorem zUu (e:Exp):zIR e=.sl e.kids.length (jP e.kids):=by cases e; simp only[zIR,Exp.kids]
def zT (e:Exp):List A:=[.lit (.int .i64 e.id.a),.lit (.int .i64 e.id.b),.lit (.int .i64 e.id.c),.lit (.int .i64 e.k),.lit (.int .i64 e.n),.lit (.int .i64 e.ref.a),.lit (.int .i64 e.ref.b),.lit (.int .i64 e.ref.c),.lit (.int .i64 e.typ.k),.lit (.int .i64 e.typ.id.a),.lit (.int .i64 e.typ.id.b),.lit (.int .i64 e.typ.id.c),.sl e.typ.kids.length (jV e.typ.kids),.sl e.kids.length (jP e.kids),.sl e.names.length (zA8 e.names)]
theorem zC4 (l:List Exp):jP l=l.flatMap zT:=by
 induction l with
 | nil=>simp only[jP,List.flatMap_nil]
 | cons t l ih=>simp only[jP,jBc,ih,zUu,zT]
mutual
theorem zNZ:∀t:Exp,nrm0 (zIR t)=zIR t∧∀rf g,vw rf g (zIR t)=zIR t
 | .mk _ _ _ _ _ l _=>by have h:=zBK l;simp only[zIR];exact⟨by simp[h.1],fun rf g=>by simp[h.2]⟩
theorem zBK:∀l:List Exp,qF (jP l)
 | []=>by simp only[jP]; exact qF.nil
 | v::l=>by have h:=zNZ v;have h':=zBK l;have h1:=yL v.typ.kids;have h2:=zBm v.names;simp only[jP];exact⟨by simp[h.1,h'.1,h1.1,h2.1],fun rf g=>by simp[h.2,h'.2,h1.2,h2.2]⟩
end
theorem zGT (e:Exp):qF (zT e):=by have h:=zBK e.kids;have h1:=yL e.typ.kids;have h2:=zBm e.names;exact⟨by simp[zT,h.1,h1.1,h2.1],fun rf g=>by simp[zT,h.2,h1.2,h2.2]⟩
structure Slt where
 id:Id
 name:ByteArray
 typ:Typ
 most:Int
 place:Int
def yG (s:Slt):List A:=[.lit (.int .i64 s.id.a),.lit (.int .i64 s.id.b),.lit (.int .i64 s.id.c),.lit (.string s.name),.lit (.int .i64 s.typ.k),.lit (.int .i64 s.typ.id.a),.lit (.int .i64 s.typ.id.b),.lit (.int .i64 s.typ.id.c),.sl s.typ.kids.length (jV s.typ.kids),.lit (.int .i64 s.most),.lit (.int .i64 s.place)]
theorem zEC (s:Slt):qF (yG s):=by have h1:=yL s.typ.kids;exact⟨by simp[yG,h1.1],fun rf g=>by simp[yG,h1.2]⟩
def yI (l:List Slt):List A:=l.flatMap yG
theorem zC5 (l:List Slt):yI l=l.flatMap yG:=rfl
structure Dfn where
 id:Id
 kind:Int
 mod:Id
 name:ByteArray
 slots:List Slt
 res:Typ
 body:Exp
 place:Int
 lay:List ByteArray
def zG (d:Dfn):List A:=[.lit (.int .i64 d.id.a),.lit (.int .i64 d.id.b),.lit (.int .i64 d.id.c),.lit (.int .i64 d.kind),.lit (.int .i64 d.mod.a),.lit (.int .i64 d.mod.b),.lit (.int .i64 d.mod.c),.lit (.string d.name),.sl d.slots.length (yI d.slots),.lit (.int .i64 d.res.k),.lit (.int .i64 d.res.id.a),.lit (.int .i64 d.res.id.b),.lit (.int .i64 d.res.id.c),.sl d.res.kids.length (jV d.res.kids),.lit (.int .i64 d.body.id.a),.lit (.int .i64 d.body.id.b),.lit (.int .i64 d.body.id.c),.lit (.int .i64 d.body.k),.lit (.int .i64 d.body.n),.lit (.int .i64 d.body.ref.a),.lit (.int .i64 d.body.ref.b),.lit (.int .i64 d.body.ref.c),.lit (.int .i64 d.body.typ.k),.lit (.int .i64 d.body.typ.id.a),.lit (.int .i64 d.body.typ.id.b),.lit (.int .i64 d.body.typ.id.c),.sl d.body.typ.kids.length (jV d.body.typ.kids),.sl d.body.kids.length (jP d.body.kids),.sl d.body.names.length (zA8 d.body.names),.lit (.int .i64 d.place),.sl d.lay.length (zA8 d.lay)]
theorem zAy (d:Dfn):qF (zG d):=by have h1:=yL d.res.kids;have h2:=yL d.body.typ.kids;have h3:=zBK d.body.kids;have h4:=zBm d.body.names;have h5:=zBm d.lay;have h6:=zAW zEC d.slots;exact⟨by simp[zG,yI,h1.1,h2.1,h3.1,h4.1,h5.1,h6.1],fun rf g=>by simp[zG,yI,h1.2,h2.2,h3.2,h4.2,h5.2,h6.2]⟩
def qB (l:List Dfn):List A:=l.flatMap zG
theorem zC3 (l:List Dfn):qB l=l.flatMap zG:=rfl
structure Md where
 id:Id
 name:ByteArray
 uses:List Id
 defs:List Id
def zF7 (m:Md):List A:=[.lit (.int .i64 m.id.a),.lit (.int .i64 m.id.b),.lit (.int .i64 m.id.c),.lit (.string m.name),.sl m.uses.length (zL m.uses),.sl m.defs.length (zL m.defs)]
theorem zGV (m:Md):qF (zF7 m):=by have h1:=zBl m.uses;have h2:=zBl m.defs;exact⟨by simp[zF7,h1.1,h2.1],fun rf g=>by simp[zF7,h1.2,h2.2]⟩
def qQ (l:List Md):List A:=l.flatMap zF7
theorem zGf (l:List Md):qQ l=l.flatMap zF7:=rfl
structure Prg where
 mods:List Md
 defs:List Dfn
def zM (p:Prg):List A:=[.sl p.mods.length (qQ p.mods),.sl p.defs.length (qB p.defs)]
theorem eP(p:Prg):zM p=[.sl p.mods.length (qQ p.mods),.sl p.defs.length (qB p.defs)]:=rfl
@[simp] theorem zZw (l:List Typ):qV (jV l)=jV l:=(yL l).1
@[simp] theorem qEj {rf g}(l:List Typ):vwL rf g (jV l)=jV l:=(yL l).2 _ _
@[simp] theorem qA7:jV []=[]:=by rw[zDc]; rfl
theorem zD8 (x:Typ)(l:List Typ):jV (x::l)=zU x++jV l:=by rw[zDc,zDc]; rfl
@[simp] theorem qA6 (l:List Typ):(jV l).length=l.length*5:=by rw[zDc,zBC (k:=5) (fun _=>rfl)]
theorem zIT {l:List Typ}{i:Nat}(h:i<l.length):(jV l).drop (i*5)=zU l[i]++jV (l.drop (i+1)):=by rw[zDc,zDc,zDg (k:=5) (fun _=>rfl) h]
@[simp] theorem qGN (d:Typ):(zU d).length=5:=rfl
@[simp] theorem qGM (d:Typ):(zU d).take 5=zU d:=jAj (jA _)
@[simp] theorem qCW (d:Typ)(l:List A):(zU d++l).take 5=zU d:=by rw[jC (by simp)]; exact jAj (by simp)
@[simp] theorem qD3 (d:Typ):qV (zU d)=zU d:=(zKe d).1
@[simp] theorem qLj (d:Typ) {rf g}:vwL rf g (zU d)=zU d:=(zKe d).2 _ _
@[simp] theorem zZp (l:List Exp):qV (jP l)=jP l:=(zBK l).1
@[simp] theorem qEc {rf g}(l:List Exp):vwL rf g (jP l)=jP l:=(zBK l).2 _ _
@[simp] theorem qAt:jP []=[]:=by rw[zC4]; rfl
theorem zW (x:Exp)(l:List Exp):jP (x::l)=zT x++jP l:=by rw[zC4,zC4]; rfl
theorem zLi (l l':List Exp):jP (l++l')=jP l++jP l':=by simp only[zC4,jCe]
@[simp] theorem qAs (l:List Exp):(jP l).length=l.length*15:=by rw[zC4,zBC (k:=15) (fun _=>rfl)]
theorem zBh {l:List Exp}{i:Nat}(h:i<l.length):(jP l).drop (i*15)=zT l[i]++jP (l.drop (i+1)):=by rw[zC4,zC4,zDg (k:=15) (fun _=>rfl) h]
@[simp] theorem qGC (d:Exp):(zT d).length=15:=rfl
@[simp] theorem qGB (d:Exp):(zT d).take 15=zT d:=jAj (jA _)
@[simp] theorem qCQ (d:Exp)(l:List A):(zT d++l).take 15=zT d:=by rw[jC (by simp)]; exact jAj (by simp)
@[simp] theorem qDy (d:Exp):qV (zT d)=zT d:=(zGT d).1
@[simp] theorem qLe (d:Exp) {rf g}:vwL rf g (zT d)=zT d:=(zGT d).2 _ _
theorem zH1 (l:List Slt):qF (yI l):=zAW zEC l
@[simp] theorem zZv (l:List Slt):qV (yI l)=yI l:=(zH1 l).1
@[simp] theorem qEi {rf g}(l:List Slt):vwL rf g (yI l)=yI l:=(zH1 l).2 _ _
@[simp] theorem qA5:yI []=[]:=by rw[zC5]; rfl
theorem zBA (x:Slt)(l:List Slt):yI (x::l)=yG x++yI l:=by rw[zC5,zC5]; rfl
theorem zBR (l l':List Slt):yI (l++l')=yI l++yI l':=by simp only[zC5,jCe]
@[simp] theorem qA4 (l:List Slt):(yI l).length=l.length*11:=by rw[zC5,zBC (k:=11) (fun _=>rfl)]
theorem yC {l:List Slt}{i:Nat}(h:i<l.length):(yI l).drop (i*11)=yG l[i]++yI (l.drop (i+1)):=by rw[zC5,zC5,zDg (k:=11) (fun _=>rfl) h]
@[simp] theorem qGL (d:Slt):(yG d).length=11:=rfl
@[simp] theorem qGK (d:Slt):(yG d).take 11=yG d:=jAj (jA _)
@[simp] theorem qCV (d:Slt)(l:List A):(yG d++l).take 11=yG d:=by rw[jC (by simp)]; exact jAj (by simp)
@[simp] theorem qD2 (d:Slt):qV (yG d)=yG d:=(zEC d).1
@[simp] theorem qLi (d:Slt) {rf g}:vwL rf g (yG d)=yG d:=(zEC d).2 _ _
theorem zE3 (l:List Dfn):qF (qB l):=zAW zAy l
@[simp] theorem zZo (l:List Dfn):qV (qB l)=qB l:=(zE3 l).1
@[simp] theorem qEb {rf g}(l:List Dfn):vwL rf g (qB l)=qB l:=(zE3 l).2 _ _
@[simp] theorem qAr:qB []=[]:=by rw[zC3]; rfl
theorem zFy (x:Dfn)(l:List Dfn):qB (x::l)=zG x++qB l:=by rw[zC3,zC3]; rfl
theorem zG5 (l l':List Dfn):qB (l++l')=qB l++qB l':=by simp only[zC3,jCe]
@[simp] theorem qAq (l:List Dfn):(qB l).length=l.length*31:=by rw[zC3,zBC (k:=31) (fun _=>rfl)]
theorem zA5 {l:List Dfn}{i:Nat}(h:i<l.length):(qB l).drop (i*31)=zG l[i]++qB (l.drop (i+1)):=by rw[zC3,zC3,zDg (k:=31) (fun _=>rfl) h]
@[simp] theorem zUE (d:Dfn):(zG d).length=31:=rfl
@[simp] theorem qGA (d:Dfn):(zG d).take 31=zG d:=jAj (jA _)
@[simp] theorem qCP (d:Dfn)(l:List A):(zG d++l).take 31=zG d:=by rw[jC (by simp)]; exact jAj (by simp)
@[simp] theorem qDx (d:Dfn):qV (zG d)=zG d:=(zAy d).1
@[simp] theorem qLd (d:Dfn) {rf g}:vwL rf g (zG d)=zG d:=(zAy d).2 _ _
theorem zE8 (l:List Md):qF (qQ l):=zAW zGV l
@[simp] theorem zZt (l:List Md):qV (qQ l)=qQ l:=(zE8 l).1
@[simp] theorem qEg {rf g}(l:List Md):vwL rf g (qQ l)=qQ l:=(zE8 l).2 _ _
@[simp] theorem qAz:qQ []=[]:=by rw[zGf]; rfl
theorem zOe (x:Md)(l:List Md):qQ (x::l)=zF7 x++qQ l:=by rw[zGf,zGf]; rfl
@[simp] theorem qAy (l:List Md):(qQ l).length=l.length*6:=by rw[zGf,zBC (k:=6) (fun _=>rfl)]
@[simp] theorem qGI (d:Md):(zF7 d).length=6:=rfl
@[simp] theorem qGH (d:Md):(zF7 d).take 6=zF7 d:=jAj (jA _)
@[simp] theorem qCU (d:Md)(l:List A):(zF7 d++l).take 6=zF7 d:=by rw[jC (by simp)]; exact jAj (by simp)
@[simp] theorem qD1 (d:Md):qV (zF7 d)=zF7 d:=(zGV d).1
@[simp] theorem qLh (d:Md) {rf g}:vwL rf g (zF7 d)=zF7 d:=(zGV d).2 _ _
def Typ.zero:Typ:=.mk 0 Id.zero []
def Exp.zero:Exp:=.mk Id.zero 0 0 Id.zero Typ.zero [] []
def Dfn.zero:Dfn:=⟨Id.zero,0,Id.zero,⟨#[]⟩,[],Typ.zero,Exp.zero,0,[]⟩
end Go.Proofs.YtdnelmeboihpkaaGreatDoor
namespace Go.Abs
def Pan (P:Program)(f:FuncId)(args:List A) (σ0:St)(v:Value):Prop:=yV P f args σ0 fun o _=>o=.pan v
section
variable {P:Program}{n0:Nat}{Qp:Value→Env→St→Prop}{Qd:Value→St→Prop}{K':Env→St→Prop}{env:Env} {σ : St}{d:Option Nat}
theorem Pan.mono {f:FuncId}{args:List A} {σ0:St}{v:Value}(h:Pan P f args σ0 v){Q:Out→St→Prop}(hq:∀τ,Q (.pan v) τ):yV P f args σ0 Q:=fun H L w vs h1 h2=>(h H L w vs h1 h2).mono fun e w' hh=>by obtain⟨o,σ',H',L',g1,g2,rfl⟩:=hh;exact⟨_,σ',H',L',g1,g2,hq σ'⟩
theorem zEp {f:FuncId}{fn:Func}{c:Code}{k:K}{rs:List RS}(hf:P.funcs[f]?=some fn)(hb:fn.body=some c)(hc:zR P fn.ntmps c=some k.erase)(hr:zCv P fn.results.toList=some rs)
 {args:List A} {σ : St}{v:Value}(h:wpF P k rs args σ fun o _=>o=.pan v):Pan P f args σ v:=zFw hf hb hc hr h
theorem zAo {hint:Nat→Option (List (Nat×Nat))}{f:FuncId}{fn:Func}{c:Code}{k:K}{rs:List RS}(hf:P.funcs[f]?=some fn)(hb:fn.body=some c)(hc:qE P fn.ntmps hint c=some k.erase)(hr:zCv P fn.results.toList=some rs)
 {args:List A} {σ : St}{v:Value}(h:wpF P k rs args σ fun o _=>o=.pan v):Pan P f args σ v:=zE1 hf hb hc hr h
theorem zNV {f:FuncId}{args args':List A} {σ0:St}{v:Value}(h:Pan P f args σ0 v)(js:List Nat)(hd:js.Nodup)(ho:yR σ jN (qA js) js σ0)(ha:zBg js args' args){Q:Out→St→Prop}
 (hq:∀τ : St,Q (.pan v) (qN σ js τ)):yV P f args' σ Q :=
 zIq (C:=fun vs w R=>Calls P f vs.toArray w R) (zGN P f) (Q0:=fun o _=>o=.pan v) h js hd ho ha fun o σ1 h0=>by subst h0;exact hq _
theorem zHx {f:FuncId}{args args':List A} {σ0:St}{v:Value}(h:Pan P f args σ0 v)(js:List Nat)(hd:js.Nodup)(ho:yR σ jN (qA js) js σ0)(ha:zBg js args' args)
 (hq:∀τ : St,Qp v env (qN σ js τ)):yV P f args' σ (outK d env K' Qp):=zNV h js hd ho ha fun τ=>by simpa [outK] using hq τ
theorem zCU {f:FuncId}{args args':List A} {σ0:St}{v:Value}(h:Pan P f args σ0 v)(js:List Nat)(hd:js.Nodup)(ho:yR σ jN (qA js) js σ0)(ha:zBg js args' args)
 (hq:∀τ : St,Qd v (qN σ js τ)):zIh P Qd σ d K' f args' env:=zNV h js hd ho ha fun τ=>.inr ⟨v,rfl,hq τ⟩
theorem zBV {f:FuncId}{args args':List A} {σ0 σ1:St}{r:A}(h:Ret P f args σ0 r σ1)(js:List Nat)(hd:js.Nodup)(ho:yR σ jN (qA js) js σ0)(ha:zBg js args' args)
 (hq:K' (env.put d (ren js σ.length r)) (qN σ js (σ1.map (zAQ js σ.length)))):zIh P Qd σ d K' f args' env:=zA7 h js hd ho ha (.inl ⟨_,rfl,hq⟩)
theorem zCA {α : Type}:∀{js:List Nat} {s t:List α} {x:Nat},x<s.length→x∉js→(qN s js t)[x]?=s[x]?
 | [],s,t,x,hx,_=>by simp[qN,jAd hx]
 | j::js,s,[],x,_,_=>by simp[qN]
 | j::js,s,o::os,x,hx,hn=>by simp only[jA7,not_or]at hn;simp only[qN];rw[zCA (by simpa using hx) hn.2,jA8 (Ne.symm hn.1)]
end
end Go.Abs
namespace Go.Abs
mutual
theorem qAb {k:Nat}:∀(a:A),(vw jN (fun _=>none) a=a)→a.bnd k=true
 | .any,_=>by simp
 | .nil,_=>by simp
 | .lit _,_=>by simp
 | .agg cs,h=>by simp at h; simp[zCS cs h]
 | .tup cs,h=>by simp at h; simp[zCS cs h]
 | .sl _ cs,h=>by simp at h; simp[zCS cs h]
 | .fsl _ cs,h=>by simp at h; simp[zCS cs h]
 | .rptr cs,h=>by simp at h; simp[zCS cs h]
 | .ptr l _,h=>by simp at h
 | .row l _,h=>by simp at h
 | .rwp l _ _,h=>by simp at h
 | .win l _ _ _ _,h=>by simp[zS1]at h
 | .map l,h=>by simp at h
 | .clo _ fs cs,h=>by simp at h; simp[zCS fs h.1,zCS cs h.2]
theorem zCS {k:Nat}:∀(cs:List A),(vwL jN (fun _=>none) cs=cs)→zBe k cs=true
 | [],_=>by simp
 | c::cs,h=>by simp at h; simp[qAb c h.1,zCS cs h.2]
end
theorem qF.bnd {cs:List A}(h:qF cs)(k:Nat):zBe k cs=true:=zCS cs (h.2 _ _)
def shL (m:Nat)(ks:List Nat):List Nat:=List.range m++ks.map fun k=>m+k
theorem zNt {m l:Nat}{ks:List Nat}(h:l<m):qA (shL m ks) l=some l:=zHg (zFQ h)
theorem zMs {m k:Nat}:∀ks:List Nat,qA (ks.map fun k=>m+k) (m+k)=qA ks k
 | []=>rfl
 | x::ks=>by
  simp only[jA9,zHh];by_cases h:k=x
  ·simp[h]
  ·rw[if_neg (by omega),if_neg h,zMs ks]
@[simp] theorem zTx {m k:Nat}{ks:List Nat}:qA (shL m ks) (m+k)=(qA ks k).map (m + ·):=by unfold shL;rw[zID (by simp),zMs,List.length_range];cases qA ks k<;>simp[jCn]
@[simp] theorem qB5 {m:Nat}{ks:List Nat}:qA (shL m ks) m=(qA ks 0).map (m + ·):=by
 have:=zTx (m:=m) (k:=0) (ks:=ks)
 simpa using this
theorem zIJ {m:Nat}{ks:List Nat}(h:ks.Nodup):(shL m ks).Nodup:=by
 unfold shL;rw[jCh];refine⟨List.nodup_range,?_,fun a ha b hb=>?_⟩
 ·exact List.Pairwise.map _ (fun a b hab e=>hab (Nat.add_left_cancel e)) h
 ·obtain⟨k,_,rfl⟩:=jAm.1 hb;rw[jCi]at ha;omega
theorem zSd {m c:Nat}{ks:List Nat}(h:∀j,j<c→ks[j]?=some j):∀i,i<m+c→(shL m ks)[i]?=some i:=by
 intro i hi;unfold shL;by_cases hm:i<m
 ·rw[jAd (by simpa using hm),List.getElem?_range hm]
 ·rw[jAp (by simp; omega),List.length_range,jCr,h (i-m) (by omega)];simp; omega
theorem zM1 {σ : St}{rf:Bool→Nat→Nat→A}{g:Nat→Option Nat}:∀{ks js:List Nat} {a b:St},yR σ rf g ks a→yR σ rf g js b→yR σ rf g (ks++js) (a++b)
 | [],_,[],_,_,h=>h
 | k::ks,js,x::a,b,h,h'=>⟨h.1,zM1 h.2 h'⟩
 | [],_,_::_,_,h,_=>h.elim
 | _::_,_,[],_,h,_=>h.elim
theorem zJp {m:Nat}{S own:St}(hS:S.length=m){rf:Bool→Nat→Nat→A}{g:Nat→Option Nat}:∀{ks:List Nat} {a:St},yR own rf g ks a→yR (S++own) rf g (ks.map fun k=>m+k) a
 | [],[],_=>trivial
 | k::ks,x::a,h=>by simp only[jA9,yR];refine⟨?_,zJp hS h.2⟩;rw[yY hS];exact h.1
 | [],_::_,h=>h.elim
 | _::_,[],h=>h.elim
theorem zN0 {m:Nat}{S own own':St}(h:Cl m S){rf:Bool→Nat→Nat→A}{ks:List Nat}(ho:yR own rf (qA (shL m ks)) ks own'):yR (S++own) rf (qA (shL m ks)) (shL m ks) (S++own'):=by refine zM1 ?_ (zJp h.1 ho);have:=zKS (rf:=rf) (g:=qA (shL m ks)) (m:=m) (fun l hl=>zNt hl) (σ:=S++own) 0 S (by rw[h.1]; omega) (fun i o hi=>by rw[jAq,jAd (jA1.1 hi).1]; exact hi) h.2;rw[h.1,←List.range_eq_range']at this;exact this
@[simp] theorem qIS {rf:Bool→Nat→Nat→A}{g:Nat→Option Nat}:vwO rf g .dead=.dead:=rfl
@[simp] theorem qDF {js:List Nat}{n:Nat}:zAQ js n .dead=.dead:=rfl
section
variable {P:Program}{n0:Nat}{Qp:Value→Env→St→Prop}{K':Env→St→Prop}{env:Env}{d:Option Nat}
theorem zM3 {m c:Nat}{S own own':St}(h:Cl m S)(hn:n0=m+c)(ks:List Nat)(fuel:Nat){l:List (Nat×A)}(hk:∀j,j<c→ks[j]?=some j)(hd:ks.Nodup)
 (ho:yR own (seen (S++own) (qA (shL m ks)) fuel) (qA (shL m ks)) ks own')
 (hl:∀p∈l,p.2=vw (seen (S++own) (qA (shL m ks)) fuel) (qA (shL m ks)) (env p.1)∨p.2=nrm0 (vw (seen (S++own) (qA (shL m ks)) fuel) (qA (shL m ks)) (env p.1))):zA4 n0 (qU l) (S++own') env (S++own) :=
 zO (shL m ks) fuel (by subst hn; exact zSd hk) (zIJ hd) (zN0 h ho) hl
theorem zIH {m c n:Nat}{r r':A}{S own own':St}(h:Cl m S)(hn:n=m+c)(ks:List Nat)(fuel:Nat)(hk:∀j,j<c→ks[j]?=some j)(hd:ks.Nodup)
 (ho:yR own (seen (S++own) (qA (shL m ks)) fuel) (qA (shL m ks)) ks own')
 (hr:r=vw (seen (S++own) (qA (shL m ks)) fuel) (qA (shL m ks)) r'∨r=nrm0 (vw (seen (S++own) (qA (shL m ks)) fuel) (qA (shL m ks)) r')):zFq n r (S++own') (.ret r') (S++own) :=
 zH (shL m ks) fuel (by subst hn; exact zSd hk) (zIJ hd) (zN0 h ho) hr
theorem zNO:∀{js ks:List Nat} {n k:Nat},back (js++ks) n (js.length+k)=back ks n k
 | [],ks,n,k=>by simp
 | j::js,ks,n,k=>by
  have e:(j::js).length+k=js.length+k+1:=by simp; omega
  rw[e];simp only[jB0,back];exact zNO
theorem zL1:∀{js ks:List Nat} {n l:Nat},l<js.length→back (js++ks) n l=back js n l
 | [],_,_,l,h=>by simp at h
 | j::js,ks,n,0,h=>rfl
 | j::js,ks,n,l+1,h=>by simp only[jB0,back];exact zL1 (by simpa using h)
@[simp] theorem zUl {m k n:Nat}{ks:List Nat}:back (shL m ks) n (m+k)=back (ks.map fun k=>m+k) n k:=by
 have:=zNO (js:=List.range m) (ks:=ks.map fun k=>m+k) (n:=n) (k:=k)
 rwa [List.length_range]at this
@[simp] theorem qCC {m n:Nat}{ks:List Nat}:back (shL m ks) n m=back (ks.map fun k=>m+k) n 0:=by
 have:=zUl (m:=m) (k:=0) (n:=n) (ks:=ks)
 simpa using this
theorem zNP {m l n:Nat}{ks:List Nat}(h:l<m):back (shL m ks) n l=l:=by unfold shL;rw[zL1 (by simpa using h),zJH h]
theorem zHj {α : Type}:∀{js ks:List Nat} {s a b:List α},a.length=js.length→qN s (js++ks) (a++b)=qN (qN s js a) ks b
 | [],ks,s,[],b,_=>by simp[qN]
 | j::js,ks,s,x::a,b,h=>by simp only[jB0,qN];exact zHj (by simpa using h)
 | [],_,_,_::_,_,h=>by simp at h
 | _::_,_,_,[],_,h=>by simp at h
theorem zHU {m:Nat}{S:St}(hS:S.length=m):∀{ks:List Nat} {own t:St},qN (S++own) (ks.map fun k=>m+k) t=S++qN own ks t
 | [],own,t=>by simp[qN]
 | k::ks,own,[]=>by simp[qN]
 | k::ks,own,x::t=>by simp only[jA9,qN];rw[zAE hS];exact zHU hS
theorem zUr {m:Nat}{S S' own o0 o1:St}(h:Cl m S)(h':Cl m S'){f:FuncId}{args args':List A}{r:A}(hr:Ret P f args (S++o0) r (S'++o1))(ks:List Nat)(hd:ks.Nodup)
 (ho:yR own jN (qA (shL m ks)) ks o0)(ha:zBg (shL m ks) args' args)
 (hq:K' (env.put d (ren (shL m ks) (m+own.length) r)) (S'++qN own ks (o1.map (zAQ (shL m ks) (m+own.length))))):yV P f args' (S++own) (outK d env K' Qp):=by
 refine jJ hr (shL m ks) (zIJ hd) (zN0 h ho) ha ?_;have hlen:(S++own).length=m+own.length:=by rw[jA5,h.1]
 rw[hlen,jCs];have e:S'.map (zAQ (shL m ks) (m+own.length))=S':=by
  conv=>rhs; rw[←List.map_id S']
  exact jBp fun o ho=>by simp only[zAQ,id];exact zN8 (fun l hl=>by rw[zNP hl]) o (h'.2 o ho)
 rw[e];have hput:qN (S++own) (shL m ks) (S'++o1.map (zAQ (shL m ks) (m+own.length)))=S'++qN own ks (o1.map (zAQ (shL m ks) (m+own.length))):=by have h0:=zHl (own:=own) 0 [] rfl (by rw[h.1,h'.1]:S'.length=S.length);rw[h.1,←List.range_eq_range']at h0;simp only[jBj]at h0;unfold shL;rw[zHj (by rw[h'.1,List.length_range]),h0];exact zHU h'.1
 rw[hput];exact hq
end
end Go.Abs
namespace Go.Proofs.YtdnelmeboihpkaaGreatDoor
section
variable (marked:List Id)(x:Id)
def zDM:List Edg→List Id→List Id
 | [],M=>M
 | e::l,M=>zDM l (if e.fro=x∧e.to∉M∧e.to∉marked then M++[e.to] else M)
theorem zL0 (e:Edg):∀(l:List Edg) (M:List Id),zDM marked x (l++[e]) M=(if e.fro=x∧e.to∉zDM marked x l M∧e.to∉marked then zDM marked x l M++[e.to] else zDM marked x l M)
 | [],M=>rfl
 | a::l,M=>by simp only[jB0,zDM]; exact zL0 e l _
theorem zHt:∀(l:List Edg) (M:List Id),∃N,zDM marked x l M=M++N
 | [],M=>⟨[],by simp[zDM]⟩
 | e::l,M=>by
  simp only[zDM];split
  ·obtain⟨N,h⟩:=zHt l (M++[e.to]);exact⟨e.to::N,by rw[h]; simp⟩
  ·exact zHt l M
variable {marked x}
theorem zMG:∀(l:List Edg) {M:List Id},M.Nodup→(zDM marked x l M).Nodup
 | [],_,h=>h
 | e::l,M,h=>by
  simp only[zDM];split
  ·rename_i hc;refine zMG l ?_;rw[jCh];refine⟨h,by simp,fun a ha b hb=>?_⟩;rw[jAn]at hb;subst hb;exact fun e=>hc.2.1 (e▸ha)
  ·exact zMG l h
theorem zNH:∀(l:List Edg) (M:List Id) (e:Edg),e∈l→e.fro=x→e.to∈zDM marked x l M∨e.to∈marked
 | a::l,M,e,he,hx=>by
  simp only[zDM];rcases jA7.1 he with rfl | he
  ·obtain⟨N,h⟩:=zHt marked x l (if e.fro=x∧e.to∉M∧e.to∉marked then M++[e.to] else M);rw[h];by_cases h1:e.to∈M
   ·exact .inl (by split<;>simp[h1])
   ·by_cases h2:e.to∈marked
    ·exact .inr h2
    ·exact .inl (by rw[if_pos ⟨hx,h1,h2⟩]; simp)
  ·exact zNH l _ e he hx
theorem zNI:∀(l:List Edg) (M:List Id) (y:Id),y∈zDM marked x l M→y∈M∨∃e∈l,e.fro=x∧e.to=y∧y∉marked
 | [],M,y,h=>.inl h
 | a::l,M,y,h=>by
  simp only[zDM]at h;rcases zNI l _ y h with h | ⟨e,he,h1,h2,h3⟩
  ·split at h
   ·rename_i hc;rcases jAb.1 h with h | h
    ·exact .inl h
    ·rw[jAn]at h;subst h;exact .inr ⟨a,by simp,hc.1,rfl,hc.2.2⟩
   ·exact .inl h
  ·exact .inr ⟨e,by simp[he],h1,h2,h3⟩
end
structure Bfs (L:List Edg)(to:Id)(marked:List Id)(fro:Id)(M:List Id)(k:Nat):Prop where
 nd:M.Nodup
 first:fro∈M
 from_:∀y∈M,y=fro∨∃e∈L,e.to=y
 back:∀y∈M,Rchs L to marked y→Rchs L to marked fro
 not_:∀j (hj:j<M.length),j<k→M[j]≠to
 closed:∀j (hj:j<M.length),j<k→∀e∈L,e.fro=M[j]→e.to∈M∨e.to∈marked
 le:k≤M.length
theorem Bfs.start (L:List Edg)(to:Id)(marked:List Id)(fro:Id):Bfs L to marked fro [fro] 0 :=
 ⟨by simp,by simp,by simp,by simp,by omega,by omega,by simp⟩
theorem Bfs.len {L:List Edg}{to:Id}{marked:List Id}{fro:Id}{M:List Id}{k:Nat}(h:Bfs L to marked fro M k):M.length≤L.length+1:=by
 have:=h.nd.length_le_of_subset (l₂:=fro::L.map (·.to)) fun y hy=>by
  rcases h.from_ y hy with rfl | ⟨e,he,rfl⟩
  ·simp
  ·simp only[jA7,jAm];exact .inr ⟨e,he,rfl⟩
 simpa using this
theorem Bfs.next {L:List Edg}{to:Id}{marked:List Id}{fro:Id}{M:List Id}{k:Nat}(h:Bfs L to marked fro M k)(hk:k<M.length)(hne:M[k]≠to):Bfs L to marked fro (zDM marked M[k] L M) (k+1):=by
 obtain⟨N,hN⟩:=zHt marked M[k] L M;have hall:=zNH (marked:=marked) (x:=M[k]) L M;have hmem:=zNI (marked:=marked) (x:=M[k]) L M;have hnd:=zMG (marked:=marked) (x:=M[k]) L h.nd;rw[hN]at hall hmem hnd ⊢;refine⟨hnd,jBd _ h.first,fun y hy=>?_,fun y hy hr=>?_,fun j hj hjk=>?_,fun j hj hjk e he hx=>?_,by simp; omega⟩
 ·rcases hmem y hy with hy | ⟨e,he,_,h2,_⟩
  ·exact h.from_ y hy
  ·exact .inr ⟨e,he,h2⟩
 ·rcases hmem y hy with hy | ⟨e,he,h1,h2,h3⟩
  ·exact h.back y hy hr
  ·refine h.back _ (jA3 hk) ?_;rw[←h1];exact .step e he (by rw[h2]; exact h3) (by rw[h2]; exact hr)
 ·rw[jBq (by omega)];by_cases hjk':j=k
  ·subst hjk'; exact hne
  ·exact h.not_ j (by omega) (by omega)
 ·rw[jBq (by omega)]at hx;by_cases hjk':j=k
  ·subst hjk'; exact hall e he hx
  ·rcases h.closed j (by omega) (by omega) e he hx with h' | h'
   ·exact .inl (jBd _ h')
   ·exact .inr h'
theorem Bfs.yes {L:List Edg}{to:Id}{marked:List Id}{fro:Id}{M:List Id}{k:Nat}(h:Bfs L to marked fro M k)(hk:k<M.length)(he:M[k]=to):Rchs L to marked fro :=
 h.back _ (jA3 hk) (he▸.here)
theorem Bfs.no {L:List Edg}{to:Id}{marked:List Id}{fro:Id}{M:List Id}{k:Nat}(h:Bfs L to marked fro M k)(hk:k=M.length):¬Rchs L to marked fro:=by
 intro hr;have key:∀y,Rchs L to marked y→y∈M→to∈M:=by
  intro y hy;induction hy with
  | here=>exact fun h=>h
  | step e he hn _ ih =>
   intro hm;obtain⟨j,hj,e'⟩:=jB4 hm;rcases h.closed j hj (by omega) e he e'.symm with h' | h'
   ·exact ih h'
   ·exact(hn h').elim
 obtain⟨j,hj,e⟩:=jB4 (key fro hr h.first);exact h.not_ j hj (by omega) e
end Go.Proofs.YtdnelmeboihpkaaGreatDoor
namespace Go.Proofs.YtdnelmeboihpkaaGreatDoor
open Go.Abs
def zPG:K:=G [kMn 2] (Z (G [M 3 0,⟨none,.isz (some 4) false (kt 3)⟩] (Y 4 (G [kMn 2] kr) ks)) (G [kd 5 31 3 0 [] [],M 6 0,kP 7 31 3 24 5 6,M 2 7] kr))
theorem zUn:zR Tryz.prog Tryz.f100.ntmps (Tryz.f100.body.getD .skip)=some zPG.erase:=by kernel_rfl
@[simp] theorem qGp:zA Tryz.prog 100=true:=by kernel_rfl
def zE6 (Ls:List (List Id)):List A:=Ls.map fun l=>A.sl l.length (zL l)
theorem zE7:∀(Ls:List (List Id)),qF (zE6 Ls)
 | []=>qF.nil
 | l::Ls=>by
  have h1:=zE7 Ls;have h2:=zBl l;refine⟨?_,fun rf g=>?_⟩
  ·show qV (A.sl l.length (zL l)::zE6 Ls)=_;simp[h1.1];rfl
  ·show vwL rf g (A.sl l.length (zL l)::zE6 Ls)=_;simp[h1.2];rfl
@[simp] theorem zZs (l:List (List Id)):qV (zE6 l)=zE6 l:=(zE7 l).1
@[simp] theorem qEf {rf g}(l:List (List Id)):vwL rf g (zE6 l)=zE6 l:=(zE7 l).2 _ _
@[simp] theorem qAx (l:List (List Id)):(zE6 l).length=l.length:=by simp[zE6]
def zGy {α : Type}(same : α→α→Bool):List α→List α→Bool
 | [],[]=>true
 | x::a,y::b=>same x y&&zGy same a b
 | _,_=>false
theorem zNK {α : Type}{same : α→α→Bool}:∀{a b:List α},a.length≠b.length→zGy same a b=false
 | [],[],h=>(h rfl).elim
 | x::a,y::b,h=>by simp only[zGy,zNK (a:=a) (b:=b) (by simpa using h),Bool.and_false]
 | [],_::_,_=>rfl
 | _::_,[],_=>rfl
theorem zJD {α : Type}{same : α→α→Bool}:∀{a b:List α} (hl:a.length=b.length),zGy same a b=true↔∀(j:Nat) (h:j<a.length),same a[j] (b[j]'(hl▸h))=true
 | [],[],_=>by simp[zGy]
 | x::a,y::b,hl=>by
  simp only[zGy,jA6,zJD (a:=a) (b:=b) (by simpa using hl)];constructor
  ·rintro⟨h1,h2⟩ j h;cases j with
   | zero=>exact h1
   | succ j=>exact h2 j (by simpa using h)
  ·intro h;exact⟨h 0 (by simp),fun j hj=>h (j+1) (by simpa using hj)⟩
 | [],_::_,hl=>by simp at hl
 | _::_,[],hl=>by simp at hl
def qES:K:=G [kMb 6 false] (Z (G [M 10 0,kN 11 10,M 12 1,kN 13 12,kQ 14 11 13 true] (Y 14 (G [kMb 6 false] kr) ks)) (Z (G [M 15 0,kN 16 15,kMi 17 0] (K.block 0 (K.loop (G [kB 18 17 16 .lss] (Z (Y 18 ks (K.exit 0)) (Z (K.block 1 (G [M 19 17,kX 20 15 17 5,J 21 20 5,kZ 8 kz2,M 7 19,S 8 21 5] (G [M 22 1,M 23 7,kX 24 22 23 5,J 25 24 5,kZ 9 kz2,S 9 25 5] (G [M 26 2,J 27 8 5,J 28 9 5,⟨none,.call (some 29) (kt 26) [(kt 27),(kt 28)]⟩,kR 30 29] (Y 30 (G [kMb 6 false] kr) ks))))) (K.ops [kBi 31 17 1 .add,M 17 31]))))))) (G [kMb 6 true] kr)))
theorem qLY:zR Tryz.prog Tryz.f140.ntmps (Tryz.f140.body.getD .skip)=some qES.erase:=by kernel_rfl
@[simp] theorem qMC:zA Tryz.prog 140=true:=by kernel_rfl
theorem zWR (g:FuncId)(hcal:zA Tryz.prog g=true)(same:Typ→Typ→Bool)(a b:List Typ)(h:∀x∈a,∀y∈b,Ret Tryz.prog g [.agg (zU x),.agg (zU y)] [] (bl (same x y)) []) :
 Ret Tryz.prog 140 [.sl a.length (jV a),.sl b.length (jV b),.clo g [] []] [] (bl (zGy same a b)) []:=by
 refine zI Tryz.func140 rfl qLY (rs:=[.slot 6]) (by kernel_rfl) ?_;unfold qES;by_cases hab:a.length=b.length
 ·simp[hab];intro hlb;refine jM (S:=Nat) (fun i=>[(1,.sl b.length (jV b)),(2,.clo g [] []),(15,.sl a.length (jV a)),(16,int a.length),(17,int i)]) (fun s=>[]) (fun i=>i≤a.length∧∀(j:Nat) (h:j<a.length),j<i→same a[j] (b[j]'(hab▸h))=true) (fun i=>a.length-i) 0 (by simp)
   (zO [] 0 (by simp) (by simp) (by simp) (by simp[hab])) ?_
  rintro i ⟨hi,hn⟩;by_cases hia:i<a.length
  ·have hib:i<b.length:=by omega
   have hla:i*5<a.length*5:=by omega
   have hlb':i*5<b.length*5:=by omega
   simp[hia,hib,zIT hia,zIT hib,hcal,zU];refine qD (h a[i] (jA3 hia) b[i] (jA3 hib)) (by simp[zU]) (by simp) ?_;cases hs:same a[i] b[i]with
   | true =>
    simp;exact zP (i+1) ⟨hia,fun j hj hji=>by
     by_cases e:j=i
     ·subst e; exact hs
     ·exact hn j hj (by omega)⟩ (by omega) (zO [] 0 (by simp) (by simp) (by simp) (by simp[qP hib hlb]))
   | false =>
    have hf:zGy same a b=false:=by
     cases hh:zGy same a b with
     | false=>rfl
     | true=>have:=(zJD hab).1 hh i hia; rw[hs]at this; cases this
    simp;exact zB 0 (by simp[hf])
  ·have hil:i=a.length:=by omega
   subst hil;have ht:zGy same a b=true:=(zJD hab).2 fun j hj=>hn j hj hj
   simp;exact zB 0 (by simp[ht])
 ·have hab':¬(a.length:Int)=b.length:=by omega
  simp[hab'];exact fun _ _=>zB 0 (by simp[zNK hab])
end Go.Proofs.YtdnelmeboihpkaaGreatDoor
namespace Go.Abs
section
variable {P:Program}{n0:Nat}
def zG2 (H:Mem)(L:List LI)(w:World)(N:Nat)(Q:Ex→Env→St→Prop)(dfs:List Deferred):Exit→Act→World→Prop:=fun e a' w' =>
 ∃x env' σ' H' L',e=x.exit?∧a'.defers=dfs∧zX H' L' N env' a'.tmps∧Nxt H L w H' L' σ' w'∧Q x env' σ'
theorem zG2.next {N:Nat}{w:World}{H:Mem}{L:List LI}{H':Mem}{L':List LI} {σ':St}{w':World}{Q:Ex→Env→St→Prop}{dfs:List Deferred}(hn:Nxt H L w H' L' σ' w'){e:Exit}{b:Act}{v:World}(h:zG2 H' L' w' N Q dfs e b v):zG2 H L w N Q dfs e b v:=by obtain⟨x,env'',σ'',H'',L'',h1,h2,h3,h4,h5⟩:=h;exact⟨x,env'',σ'',H'',L'',h1,h2,h3,hn.trans h4,h5⟩
theorem zG2.post {N:Nat}{w:World}{H:Mem}{L:List LI}{Q:Ex→Env→St→Prop}{dfs:List Deferred}{e:Exit}{b:Act}{v:World}(h:zG2 H L w N Q dfs e b v):zGH H L w N Q dfs e b v:=by obtain⟨x,env'',σ'',H'',L'',h1,h2,h3,h4,h5⟩:=h;exact⟨x,env'',σ'',H'',L'',h1,h2▸Mk.refl _ _ _,h3,h4,h5⟩
theorem zFd {N:Nat}{ro:Option Nat}{ops:Array Oper}(hall:∀o∈ops.toList,∀x,o.dst=some x→x<N){Q:Ex→Env→St→Prop}{dfs:List Deferred}{Qc:Exit→Act→World→Prop} :
 ∀(l:List Oper) (gs:List KG) {H:Mem} {L:List LI} {σ : St} {w:World} {env:Env} {a:Act},zIN P N ops l gs→zX H L N env a.tmps→RelSt H L σ w→a.defers=dfs →
  zC0 P (fun v=>Q (.pan v)) (Q .norm) gs env σ→(∀e b v,zG2 H L w N Q dfs e b v→Qc e b v)→wpListIn (Wr ro) 0 P ops Qc l a w
 | [],gs,H,L,σ,w,env,a,hc,he,hs,hd,h,hQ=>by simp only[zIN]at hc;subst hc;exact hQ _ _ _ ⟨.norm,env,σ,H,L,rfl,hd,he,Nxt.refl hs,h⟩
 | o::l,gs,H,L,σ,w,env,a,hc,he,hs,hd,h,hQ=>by
  simp only[zIN]at hc;obtain⟨g,gs',rfl,hg,hgs⟩:=hc;obtain⟨hk,hdst,hgd⟩:=yS hg;have hkd:=zA3 hk;have hke:g.erase.op.dst=g.op.dst:=by show g.op.erase.dst=g.op.dst;cases g.op<;>rfl
  rw[hke]at hkd;simp only[zC0]at h;have exec:wpO P (fun v=>Q (.pan v)) (zC0 P (fun v=>Q (.pan v)) (Q .norm) gs') g.op env σ→o.wpIn (Wr ro) 0 P a w (wpListIn (Wr ro) 0 P ops Qc l) Qc:=by
   intro h;refine zDl hk hdst he hs h (fun env' σ' H' L' a' w' h1 h2 h3 h4=>?_) (fun v σ' H' L' w' h1 h2=>?_)
   ·exact zFd hall l gs' hgs h2 h3.st (h1.trans hd) h4 fun e b v hp=>hQ e b v (hp.next h3)
   ·exact hQ _ _ _ ⟨.pan v,env,σ',H',L',rfl,hd,he.mono h1.step.hle h1.lle,h1,h2⟩
  have skip:zC0 P (fun v=>Q (.pan v)) (Q .norm) gs' (env.put g.op.dst (.lit undef)) σ→wpListIn (Wr ro) 0 P ops Qc l (a.put o.dst undef) w:=by intro h;refine zFd hall l gs' hgs ?_ hs ((qJ _ _).trans hd) h hQ;rw[hkd];exact he.put hdst (by simp[Rel])
  unfold wpListIn;have hge:g.erase.guard=g.guard:=rfl;rw[hge]at hgd;rcases hgd with ⟨ho,hgn⟩ | ⟨j,want,s,ho,hsl,hgn⟩
  ·simp only[wpG,hgn]at h;have hw:Region.wanted o (yielded ops a.tmps)=true:=by simp[Region.wanted,ho]
   rw[if_pos hw];exact exec h
  ·simp only[wpG,hgn]at h;have hsN:=zEN hsl hall;obtain⟨w1,w2⟩:=zCV (a:=a) ho hsl (jBt hsN he.1);have hrel:=he.2 s;split at h
   ·rename_i b hb;rw[hb]at hrel;simp only[Rel]at hrel;rw[w1 b hrel];by_cases hbw:b=want
    ·simp only[hbw,decide_true,if_true];exact exec (h.1 (by simp[hbw]))
    ·simp only[hbw,decide_false,jAg,if_false];exact⟨fun _ _=>trivial,skip (h.2 (by simp[hbw]))⟩
   ·rename_i t ht;rw[ht]at hrel;simp only[Rel]at hrel;rw[w2 t hrel];simp only[jAg,if_false];exact⟨fun _ _=>trivial,skip h⟩
   ·exact h.elim
theorem zKL {N:Nat}{hint:Nat→Option (List (Nat×Nat))}{H:Mem}{L:List LI} {σ : St}{w:World}{env:Env}{a:Act}{id:Nat}{ops:Array Oper}{l:List KG}(hc:qE P N hint (.region id ops false)=some (K.ops l).erase)
 (he:zX H L N env a.tmps)(hs:RelSt H L σ w){Q:Ex→Env→St→Prop}(h:wpK P n0 (.ops l) Q env σ){Qc:Exit→Act→World→Prop}(hQ:∀e b v,zG2 H L w N Q a.defers e b v→Qc e b v):(Code.region id ops false).wpIn Fence.wide 0 P Qc a w:=by
 simp only[qE,K.erase]at hc;split at hc<;>try (cases hc; done)
 rename_i l' hl;simp only[jAg,if_false,jA0,K.ops.injEq]at hc;subst hc;simp only[wpK]at h;have hall:∀o∈ops.toList,∀x,o.dst=some x→x<N:=by
  obtain⟨hlen,hget⟩:=zCj hl;intro o ho;obtain⟨i,hi⟩:=jCj ho;have hlt:i<(l.map KG.erase).length:=by rw[hlen]; exact(jA1.1 hi).1
  exact(yS (hget i o _ hi (jA2 hlt))).2.1
 exact wpIn_region_list (zFd (ro:=none) (Q:=Q) (dfs:=a.defers) hall ops.toList l (zJT hl) he hs rfl h hQ)
theorem zCE {ops:Array Oper}{N:Nat}{ro:Option Nat}{all:List (Nat×Nat×KG)}(hc:Comp P N ops all)(hall:∀o∈ops.toList,∀x,o.dst=some x→x<N){Q:Ex→Env→St→Prop}{dfs:List Deferred}{Qc:Exit→Act→World→Prop} :
 ∀(fuel:Nat) (listed:Array Bool) {H:Mem} {L:List LI} {σ : St} {w:World} {env:Env} {a:Act},zX H L N env a.tmps→RelSt H L σ w→a.defers=dfs →
  zFb P (zKE Q) ops all (Q .norm) fuel listed env σ→(∀e b v,zG2 H L w N Q dfs e b v→Qc e b v)→wpAnyIn (Wr ro) 0 P .any ops Qc fuel listed a w
 | 0,listed,H,L,σ,w,env,a,he,hs,hd,h,hQ=>⟨h.1,hQ _ _ _ ⟨.norm,env,σ,H,L,rfl,hd,he,Nxt.refl hs,h.2⟩⟩
 | fuel+1,listed,H,L,σ,w,env,a,he,hs,hd,h,hQ=>by
  refine⟨fun h0=>hQ _ _ _ ⟨.norm,env,σ,H,L,rfl,hd,he,Nxt.refl hs,h.1 h0⟩,fun i hi=>?_⟩;obtain⟨_,o,ho,_⟩:=mem_ready.1 hi;rcases h.2 i hi with ⟨f,g,r,σ1,hg,hy,hK⟩ | ⟨f8,d,fo,args,hf8,hg,hcn⟩
  rotate_left
  ·have hcg:=hc.get i f8 o _ ho hg;obtain⟨hk,hdst,hgd⟩:=yS hcg;unfold wpOpIn;simp only[ho];rcases hgd with ⟨hog,hgn⟩ | ⟨j,want,s,hog,hsl,hgn⟩
   ·have hw:Region.wanted o (yielded ops a.tmps)=true:=by simp[Region.wanted,hog]
    rw[if_pos hw];refine zDl (k:=.call d fo args) (Qp:=fun v _ τ=>zKE Q v τ) (K:=fun env' τ=>zFb P (zKE Q) ops all (Q .norm) fuel (listed.setIfInBounds i true) env' τ) hk hdst he hs ?_ (fun env' σ' H' L' a' w' h1 h2 h3 h4=>?_) (fun v σ' H' L' w' h1 h2=>hQ _ _ _ ⟨.pan v,env,σ',H',L',rfl,hd,he.mono h1.step.hle h1.lle,h1,h2 env⟩)
    ·simp only[wpO];unfold zJK at hcn;split at hcn
     ·rename_i g first cap hfo
      simp only[hfo];refine⟨hcn.1,fun H L w vs h3 h4=>(hcn.2 H L w vs h3 h4).mono fun e w' hh=>?_⟩;obtain⟨o,σ',H',L',g1,g2,hh⟩:=hh;refine⟨o,σ',H',L',g1,g2,?_⟩;rcases hh with ⟨r,rfl,g4,g5⟩ | ⟨v,rfl,g4⟩
      ·exact g5
      ·exact g4
     ·exact hcn.elim
    ·exact zCE hc hall fuel _ h2 h3.st (h1.trans hd) h4 fun e b v hp=>hQ e b v (hp.next h3)
   ·cases hgn
  have hcg:=hc.get i f o g ho hg;obtain⟨hk,hdst,hgd⟩:=yS hcg;have hkd:=zA3 hk;rw[show g.erase.op.dst=g.op.dst from zGi _]at hkd;unfold wpOpIn;simp only[ho];have exec:eff P env σ r σ1 g.op→o.wpIn (Wr ro) 0 P a w (wpAnyIn (Wr ro) 0 P .any ops Qc fuel (listed.setIfInBounds i true)) Qc:=by intro hq;refine zDl (k:=g.op) (Qp:=fun _ _ _=>False) hk hdst he hs (zLg hq) (fun env' σ' H' L' a' w' h1 h2 h3 h4=>?_) (fun v σ' H' L' w' h1 h2=>h2.elim);obtain⟨h4,h5⟩:=h4;subst h4;subst h5;exact zCE hc hall fuel _ h2 h3.st (h1.trans hd) hK fun e b v hp=>hQ e b v (hp.next h3)
  have skip:r=.lit undef→σ1 = σ→wpAnyIn (Wr ro) 0 P .any ops Qc fuel (listed.setIfInBounds i true) (a.put o.dst undef) w:=by rintro rfl rfl;refine zCE hc hall fuel _ ?_ hs ((qJ _ _).trans hd) hK hQ;rw[hkd];exact he.put hdst (by simp[Rel])
  replace hy:=hy.1;unfold zCe at hy;rcases hgd with ⟨hog,hgn⟩ | ⟨j,want,s,hog,hsl,hgn⟩
  ·replace hgn:g.guard=none:=hgn;simp only[hgn]at hy;have hw:Region.wanted o (yielded ops a.tmps)=true:=by simp[Region.wanted,hog]
   rw[if_pos hw];exact exec hy
  ·replace hgn:g.guard=some (s,want):=hgn;simp only[hgn]at hy;have hsN:=zEN hsl hall;obtain⟨w1,w2⟩:=zCV (a:=a) hog hsl (jBt hsN he.1);have hrel:=he.2 s;split at hy
   ·rename_i b hb;rw[hb]at hrel;simp only[Rel]at hrel;rw[w1 b hrel];by_cases hbw:b=want
    ·simp only[hbw,decide_true,if_true];exact exec (hy.1 hbw)
    ·simp only[hbw,decide_false,jAg,if_false];exact⟨fun _ _=>trivial,skip (hy.2 hbw).1 (hy.2 hbw).2⟩
   ·rename_i t ht;rw[ht]at hrel;simp only[Rel]at hrel;rw[w2 t hrel];simp only[jAg,if_false];exact⟨fun _ _=>trivial,skip hy.1 hy.2⟩
   ·exact hy.elim
theorem zRn {ops:Array Oper}{N:Nat}{H:Mem}{L:List LI} {σ : St}{w:World}{env:Env}{a:Act}{ro:Option Nat}{id:Nat}{gs:List KG}{l:List (Nat×Nat×KG)}(hm:P.follows .mixedOrders=true)(hB:zJY ops l=true)(hlo:zDF ops ops.toList gs=true)(hc:zBS P N ops ops.toList=some gs)(hl:∀x∈l,∃g,gs[x.1]?=some g∧x.2.2.erase=g.erase)
 {Q:Ex→Env→St→Prop}{dfs:List Deferred}{Qc:Exit→Act→World→Prop}(he:zX H L N env a.tmps)(hs:RelSt H L σ w)(hd:a.defers=dfs)
 (h:wpD P (zKE Q) (Q .norm) l env σ)(hQ:∀e b v,zG2 H L w N Q dfs e b v→Qc e b v):(Code.region id ops true).wpIn (Wr ro) 0 P Qc a w:=by
 obtain⟨hlen,hget⟩:=zCj hc;have hcm:Comp P N ops l:=⟨fun i f o g ho hg=>by obtain⟨g0,h1,h2⟩:=hl (i,f,g) hg;have h3:=hget i o g0 (by simpa using ho) h1;rw[show g.erase=g0 from h2.trans (zCi h3)];exact h3⟩
 have hf:Fits ops l:=⟨fun i f o g ho hg=>(zGi g.op).symm.trans (zA3 (yS (hcm.get i f o g ho hg)).1),fun i f o g ho hg=>by obtain⟨g0,h1,h2⟩:=hl (i,f,g) hg;have h3:=hget i o g0 (by simpa using ho) h1;have h4:=zFM hlo i o g0 (by simpa using ho) h1;rw[←zIZ,show g.erase=g0 from h2.trans (zCi h3)];exact h4⟩
 have hall:∀o∈ops.toList,∀x,o.dst=some x→x<N:=by
  intro o ho;obtain⟨i,hi⟩:=jCj ho;have hlt:i<gs.length:=by rw[hlen]; exact(jA1.1 hi).1
  exact(yS (hget i o _ hi (jA2 hlt))).2.1
 simp only[zJY,jA6,beq_iff_eq]at hB;obtain⟨⟨hB,hsz⟩,_⟩:=hB;refine wpIn_region_any hm ?_;have hs':RelSt H L σ {w with drawn:=w.drawn+1}:=hs.heap_eq rfl;have hlex:=zD1 hf l (Array.replicate ops.size false) env σ (fun _ hx=>hx) hB h;rw[hsz]at hlex;have hn:Nxt H L w H L σ {w with drawn:=w.drawn+1}:=⟨hs',⟨rfl,rfl,rfl,jA _,fun _ _ _=>rfl,HLe.refl _,fun _ _ _ h=>.inl h,jC6 _,fun _ _ h=>h⟩,LLe.refl _,fun _ h=>.inl h⟩;refine zCE hcm hall _ _ he hs' hd hlex fun e b v hp=>hQ e b v ?_
 exact hp.next hn
theorem zPn {N:Nat}{hint:Nat→Option (List (Nat×Nat))}{H:Mem}{L:List LI} {σ : St}{w:World}{env:Env}{a:Act}{id:Nat}{ops:Array Oper}{l:List (Nat×Nat×KG)}(hc:qE P N hint (.region id ops true)=some (K.dops l).erase)
 (he:zX H L N env a.tmps)(hs:RelSt H L σ w){Q:Ex→Env→St→Prop}(h:wpK P n0 (.dops l) Q env σ){Qc:Exit→Act→World→Prop}(hQ:∀e b v,zG2 H L w N Q a.defers e b v→Qc e b v):(Code.region id ops true).wpIn Fence.wide 0 P Qc a w:=by
 simp only[qE,K.erase]at hc;split at hc<;>try (cases hc; done)
 rename_i l' hl;simp only[if_true]at hc;split at hc<;>try (cases hc; done)
 rename_i r hr;split at hc<;>try (cases hc; done)
 rename_i hb;simp only[jA6]at hb;simp only[jA0,K.dops.injEq]at hc;subst hc;simp only[wpK]at h;have hmem:∀x∈r,∃g,l'[x.1]?=some g∧x.2.2.erase=g.erase:=fun x hx=>by
  split at hr
  ·exact zIC hr hx
  ·cases hr; exact⟨_,zJc hx,rfl⟩
 exact zRn (ro:=none) (Q:=Q) (dfs:=a.defers) hb.1.2 hb.1.1 hb.2 hl hmem he hs rfl h hQ
theorem zHY {N:Nat}{hint:Nat→Option (List (Nat×Nat))}{H:Mem}{L:List LI} {σ : St}{w:World}{env:Env}{a:Act}{id:Nat}{ops:Array Oper}{l:List KG}{rest:Code}(hc:qE P N hint (.region id ops false)=some (K.ops l).erase)
 (he:zX H L N env a.tmps)(hs:RelSt H L σ w){Q:Ex→Env→St→Prop}(h:wpK P n0 (.ops l) Q env σ){Qc:Exit→Act→World→Prop}
 (hQ:∀env' τ H' L' w' a',a'.defers=a.defers→zX H' L' N env' a'.tmps→Nxt H L w H' L' τ w'→Q .norm env' τ→rest.wpIn Fence.wide 0 P Qc a' w')
 (hX:∀x env' τ H' L' w' a',x≠.norm→a'.defers=a.defers→zX H' L' N env' a'.tmps→Nxt H L w H' L' τ w'→Q x env' τ→Qc x.exit? a' w'):(Code.seq (.region id ops false) rest).wpIn Fence.wide 0 P Qc a w:=by
 refine wpIn_seq (zKL hc he hs h fun e b v hp=>?_);obtain⟨x,env',τ,H',L',rfl,g2,g3,g4,g5⟩:=hp;cases x with
 | norm=>exact hQ env' τ H' L' v b g2 g3 g4 g5
 | exit i=>exact hX _ env' τ H' L' v b (by simp) g2 g3 g4 g5
 | ret=>exact hX _ env' τ H' L' v b (by simp) g2 g3 g4 g5
 | pan v'=>exact hX _ env' τ H' L' v b (by simp) g2 g3 g4 g5
theorem zVS {N:Nat}{hint:Nat→Option (List (Nat×Nat))}{H:Mem}{L:List LI} {σ : St}{w:World}{env:Env}{a:Act}{id:Nat}{ops:Array Oper}{l:List (Nat×Nat×KG)}{rest:Code}(hc:qE P N hint (.region id ops true)=some (K.dops l).erase)
 (he:zX H L N env a.tmps)(hs:RelSt H L σ w){Q:Ex→Env→St→Prop}(h:wpK P n0 (.dops l) Q env σ){Qc:Exit→Act→World→Prop}
 (hQ:∀env' τ H' L' w' a',a'.defers=a.defers→zX H' L' N env' a'.tmps→Nxt H L w H' L' τ w'→Q .norm env' τ→rest.wpIn Fence.wide 0 P Qc a' w')
 (hX:∀x env' τ H' L' w' a',x≠.norm→a'.defers=a.defers→zX H' L' N env' a'.tmps→Nxt H L w H' L' τ w'→Q x env' τ→Qc x.exit? a' w'):(Code.seq (.region id ops true) rest).wpIn Fence.wide 0 P Qc a w:=by
 refine wpIn_seq (zPn hc he hs h fun e b v hp=>?_);obtain⟨x,env',τ,H',L',rfl,g2,g3,g4,g5⟩:=hp;cases x with
 | norm=>exact hQ env' τ H' L' v b g2 g3 g4 g5
 | exit i=>exact hX _ env' τ H' L' v b (by simp) g2 g3 g4 g5
 | ret=>exact hX _ env' τ H' L' v b (by simp) g2 g3 g4 g5
 | pan v'=>exact hX _ env' τ H' L' v b (by simp) g2 g3 g4 g5
end
end Go.Abs
