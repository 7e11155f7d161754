/-
  Contracts of functions that work on some objects, and how a call meets them in any state.
  Rules for simp on levels and contracts; the steps that a prover takes at calls, loops and returns.
  Calls in regions that draw: of functions that work on objects of the caller's, and beside growing operations.
  Rules for simp: the operations on maps, and the look whether a pointer is nil.
  States that begin with a caller's, of a length that is not written out; calls of a yield; rows that are frozen; growing calls in regions that draw.
-/
import Derived.Test.YtdnelmeboihpkaaGreatDoorX8
set_option linter.unusedVariables false
set_option maxHeartbeats 8000000
set_option maxRecDepth 100000
set_option linter.unusedSimpArgs false
namespace Go.Abs
def Ret (P:Program)(f:FuncId)(args:List A) (σ0:St)(r:A) (σ1:St):Prop:=yY P f args σ0 fun o σ'=>o=.ret r∧σ' = σ1
def jH:Bool→Nat→Nat→A:=fun _ _ _=>.any
def qL {α : Type}:List α→List Nat→List α→List α
 | s,[],t=>s++t
 | s,j::js,o::os=>qL (s.set j o) js os
 | s,_::_,[]=>s
theorem zCJ {α : Type}:∀{js:List Nat} {s t:List α},js.length≤t.length→(qL s js t).length=s.length+(t.length-js.length)
 | [],s,t,_=>by simp[qL]
 | j::js,s,[],h=>by simp at h
 | j::js,s,o::os,h=>by simp only[qL,jAl]at h⊢;rw[zCJ (by omega)];simp
theorem zFj {α : Type}:∀{js:List Nat} {s t:List α} {x:Nat},js.length≤t.length→x<s.length→x∉js→(qL s js t)[x]?=s[x]?
 | [],s,t,x,_,hx,_=>by simp[qL,jAc hx]
 | j::js,s,[],x,h,_,_=>by simp at h
 | j::js,s,o::os,x,h,hx,hn=>by simp only[qL,jAl,jA6,not_or]at h hn ⊢;rw[zFj (by omega) (by simpa using hx) hn.2,jA8 (Ne.symm hn.1)]
theorem zDx {α : Type}:∀{js:List Nat} {s t:List α} {i x:Nat},js.length≤t.length→js.Nodup→(∀y∈js,y<s.length)→js[i]?=some x→(qL s js t)[x]?=t[i]?
 | [],s,t,i,x,_,_,_,h=>by simp at h
 | j::js,s,[],i,x,h,_,_,_=>by simp at h
 | j::js,s,o::os,i,x,h,hd,hb,hi=>by
  rw[jD]at hd;simp only[qL,jAl]at h⊢;cases i with
  | zero =>
   simp only[jAq,jA0]at hi;subst hi;have hj:=hb j (jAk ..);rw[zFj (by omega) (by simpa using hj) hd.1,jAi hj];rfl
  | succ i =>
   simp only[jBf]at hi ⊢;exact zDx (by omega) hd.2 (fun y hy=>by simpa using hb y (jAf _ hy)) hi
theorem zHu {α : Type}:∀{js:List Nat} {s t:List α} {k:Nat},js.length≤t.length→(qL s js t)[s.length+k]?=t[js.length+k]?
 | [],s,t,k,_=>by simp only[qL,jBq,jAr];rw[jAo (by omega),Nat.add_sub_cancel_left]
 | j::js,s,[],k,h=>by simp at h
 | j::js,s,o::os,k,h=>by
  simp only[qL,jAl]at h⊢;have:=zHu (js:=js) (s:=s.set j o) (t:=os) (k:=k) (by omega);rw[jBl]at this;rw[this];have e:js.length+1+k=js.length+k+1:=by omega
  rw[e,jBf]
def back (js:List Nat)(n l:Nat):Nat:=match js,l with
 | [],l=>n+l
 | j::_,0=>j
 | _::js,l+1=>back js n l
theorem zJP:∀{js:List Nat} {n i x:Nat},js[i]?=some x→back js n i=x
 | [],n,i,x,h=>by simp at h
 | j::js,n,0,x,h=>by simpa [back] using h
 | j::js,n,i+1,x,h=>by simp only[back]; exact zJP (by simpa using h)
theorem zH4:∀{js:List Nat} {n k:Nat},back js n (js.length+k)=n+k
 | [],n,k=>by simp[back]
 | j::js,n,k=>by
  have e:(j::js).length+k=js.length+k+1:=by simp; omega
  rw[e];simp only[back];exact zH4
def ren (js:List Nat)(n:Nat)(a:A):A:=vw jH (fun l=>some (back js n l)) a
def qCQ (js:List Nat)(n:Nat)(cs:List A):List A:=vwL jH (fun l=>some (back js n l)) cs
def zA9 (js:List Nat)(n:Nat)(o:AObj):AObj:=vwO jH (fun l=>some (back js n l)) o
def zBu (js:List Nat):List A→List A→Prop
 | [],[]=>True
 | a'::aS',a::aS=>(a=vw jH (zW js) a'∨a=nrm0 (vw jH (zW js) a'))∧zBu js aS' aS
 | _,_=>False
section
variable {P:Program}{H H':Mem}{L L':List LI} {σ : St}{w:World}
theorem zL.vw {H':Mem}{L':List LI}{w':World}{rf:Bool→Nat→Nat→A}{g:Nat→Option Nat}{li:LI}{o:AObj}(h:zL H L w li o)(hrel:∀cs vs,zN H L cs vs→zN H' L' (vwL rf g cs) vs)
 (hw:∀b,li.block=some b→w'.heap[b]?=w.heap[b]?)(hh:HLe H H')(hb:∀b,li.block=some b→∀o,H' b o=H b o):zL H' L' w' li (vwO rf g o):=by
 cases o with
 | dead=>trivial
 | box cs =>
  simp only[zL,vwO]at h⊢;obtain⟨h0,b,vs,e,h1,h2,h3,h4,h5⟩:=h;exact⟨h0,b,vs,e,h1,by rw[hw b h1]; exact h2,hrel _ _ h3,h4,fun o=>by rw[hb b h1]; exact h5 o⟩
 | row fz e sz n cs =>
  simp only[zL,vwO]at h⊢;obtain⟨h0,h1,h2,h3⟩:=h;refine⟨h0,h1,by rw[zHy]; exact h2,?_⟩;rcases h3 with h3 | ⟨b,cur,g1,g2,g3,g4,g5,g6,g7,g8⟩
  ·exact .inl h3
  ·refine .inr ⟨b,cur,g1,by rw[hw b g1]; exact g2,g3,g4,g5,hrel _ _ g6,g7,?_⟩;cases fz with
   | false=>exact fun o=>by rw[hb b g1]; exact g8 o
   | true=>exact⟨g8.1.mono hh,fun o ho=>by rw[hb b g1]; exact g8.2 o ho⟩
 | lp b r M es =>
  simp only[zL,vwO]at h⊢;obtain⟨h0,h1,tmps,h2,h3,h4⟩:=h;exact⟨h0,h1,tmps,by rw[hw b h1]; exact h2,h3,h4.map _ fun a v ha=>by have:=hrel [a] [v] (qJ ha jK);simp only[vwL]at this;obtain⟨u,us,k1,k2,_⟩:=zT this;cases k1;exact k2⟩
 | mp fr nk es =>
  simp only[zL,vwO]at h⊢;obtain⟨h0,b,ents,ck,h1,h2,h3,h4⟩:=h;refine⟨h0,b,ents,ck,h1,by rw[hw b h1]; exact h2,zAh.map _ (fun p _ v ha=>?_) h3,h4.1,zKM h4.2⟩;have:=hrel [p.2] [v] (qJ ha jK);simp only[vwL]at this;obtain⟨u,us,k1,k2,_⟩:=zT this;cases k1;exact k2
 | it m n met =>
  simp only[vwO];split
  ·rename_i i0 hi0;simp only[zL]at h⊢;obtain⟨h0,b,mb,lm,h1,h2,h3,h4,h5⟩:=h;have hp:Rel H L (.ptr m 0) (.pointer (some ⟨mb,0,none⟩)):=by simp only[Rel]; exact⟨lm,mb,h2,h3,h4,rfl⟩
   have:=hrel [_] [_] (qJ hp jK);simp only[vwL,Abs.vw,hi0]at this;obtain⟨u,us,k1,k2,_⟩:=zT this;cases k1;simp only[Rel]at k2;obtain⟨lm',mb',g2,g3,g4,g5⟩:=k2;cases g5;exact⟨h0,b,mb,lm',h1,g2,g3,g4,by rw[hw b h1]; exact h5⟩
  ·trivial
 | rsv=>exact h
theorem zYM {js:List Nat} {σ0:St}(hs:RelSt H L σ w)(hd:js.Nodup)(ho:yL σ jH (zW js) js σ0) :
 ∃L0:List LI,L0.length=js.length∧(∀i j:Nat,js[i]?=some j→∃li,L[j]?=some li∧L0[i]?=some li)∧RelSt H L0 σ0 w∧∀a v,Rel H L a v→Rel H L0 (Abs.vw jH (zW js) a) v:=by
 let L0:List LI:=js.map fun k=>L.getD k ⟨none,0,0,false⟩
 have hin:∀(i j:Nat),js[i]?=some j→∃li,L[j]?=some li∧L0[i]?=some li:=by
  intro i j hij;have hi:i < σ0.length:=by rw[zE8 ho]; exact(jA1.1 hij).1
  obtain⟨o,hσ,_⟩:=zE7 ho hij (jA2 hi);have hj:j<L.length:=by rw[hs.len]; exact(jA1.1 hσ).1
  refine⟨L[j],jA2 hj,?_⟩;simp[L0,hij,hj]
 have hback:∀{i:Nat} {li:LI},L0[i]?=some li→∃j,js[i]?=some j∧L[j]?=some li:=by
  intro i li hi;have hi':i<js.length:=by simpa [L0] using (jA1.1 hi).1
  obtain⟨li',h1,h2⟩:=hin i js[i] (jA2 hi');rw[hi]at h2;cases h2;exact⟨_,jA2 hi',h1⟩
 have hg:∀l i,zW js l=some i→L0[i]?=L[l]?:=by intro l i hl;obtain⟨li,h1,h2⟩:=hin i l (zIS hl);rw[h1,h2]
 have hr0:∀(l n:Nat) (v:Value),zW js l=none→Rel H L (.row l n) v→Rel H L0 (jH false l n) v:=fun _ _ _ _ _=>by simp[jH,Rel]
 have hp0:∀(l n:Nat) (v:Value),zW js l=none→Rel H L (.ptr l n) v→Rel H L0 (jH true l n) v:=fun _ _ _ _ _=>by simp[jH,Rel]
 refine⟨L0,by simp[L0],hin,⟨hs.pers,by simp[L0,zE8 ho],fun i li o hL hσ=>?_,fun i j x y b hi hj hx hy=>?_,fun i li b hi hb=>?_⟩,fun a v ha=>Rel.vw (HLe.refl _) hg hr0 hp0 a ha⟩
 ·obtain⟨j,hj,hLj⟩:=hback hL;obtain⟨o0,hσ0,heq⟩:=zE7 ho hj hσ;have key:=(hs.obj j li o0 hLj hσ0).vw (H':=H) (L':=L0) (w':=w) (rf:=jH) (g:=zW js) (fun cs vs h=>zN.vw (HLe.refl _) hg hr0 hp0 cs h) (fun _ _=>rfl) (HLe.refl _) (fun _ _ _=>rfl);rcases heq with rfl | rfl
  ·exact key
  ·exact key.nrm
 ·obtain⟨i',hi',hLi⟩:=hback hi;obtain⟨j',hj',hLj⟩:=hback hj;have:=hs.inj i' j' x y b hLi hLj hx hy;subst this;exact zIO hd hi' hj'
 ·obtain⟨j,_,hLj⟩:=hback hi;exact hs.lt j li b hLj hb
def zSa (C:List Value→World→(Ending→World→Prop)→Prop)(args:List A) (σ : St)(Q:Out→St→Prop):Prop :=
 ∀(H:Mem) (L:List LI) (w:World) (vs:List Value),RelSt H L σ w→zN H L args vs→C vs w fun e w'=>∃o σ' H' L',zGR H' L' o e∧Nxt H L w H' L' σ' w'∧Q o σ'
def zR8 (js:List Nat)(n:Nat):Out→Out
 | .ret r=>.ret (ren js n r)
 | .pan v=>.pan v
theorem zI3 {C:List Value→World→(Ending→World→Prop)→Prop}(hmono:∀vs w R R',C vs w R→(∀e w',R e w'→R' e w')→C vs w R'){args args':List A} {σ0:St}{Q0:Out→St→Prop}(h:zSa C args σ0 Q0)(js:List Nat)(hd:js.Nodup)(ho:yL σ jH (zW js) js σ0)(ha:zBu js args' args){Q:Out→St→Prop}
 (hq:∀o σ1,Q0 o σ1→Q (zR8 js σ.length o) (qL σ js (σ1.map (zA9 js σ.length)))):zSa C args' σ Q:=by
 intro H L w vs hs hvs;obtain⟨L0,hL0,hin,hs0,hrel0⟩:=zYM hs hd ho;have hvs0:zN H L0 args vs:=by
  clear hq h;induction args' generalizing args vs with
  | nil=>cases args with
   | nil=>rw[jF hvs]; exact jK
   | cons _ _=>exact ha.elim
  | cons a' aS' ih=>cases args with
   | nil=>exact ha.elim
   | cons a aS =>
    obtain⟨u,us,rfl,h1,h2⟩:=zT hvs;refine qJ ?_ (ih (vs:=us) ha.2 h2);rcases ha.1 with e | e
    ·rw[e]; exact hrel0 _ _ h1
    ·rw[e]; exact Rel.nrm0 _ (hrel0 _ _ h1)
 refine hmono _ _ _ _ (h H L0 w vs hs0 hvs0) fun e w' hh=>?_
 obtain⟨o,σ',H1,L1,g1,g2,hq0⟩:=hh;have hq:=hq o σ' hq0;have hjs:js.length≤L1.length:=by
  rcases jAn L1.length js.length with hlt | hge
  ·have hlt0:L1.length<L0.length:=by omega
   obtain⟨l',hl',_⟩:=g2.lle L1.length L0[L1.length] (jA2 hlt0);exact absurd (jA1.1 hl').1 (Nat.lt_irrefl _)
  ·exact hge
 have hjs1:js.length≤(σ'.map (zA9 js σ.length)).length:=by rw[jB4,←g2.st.len]; exact hjs
 have hjb:∀y∈js,y<L.length:=by intro y hy;obtain⟨i,hi⟩:=jCm hy;obtain⟨li,h1,_⟩:=hin i y hi;exact(jA1.1 h1).1
 have hjb':∀y∈js,y < σ.length:=fun y hy=>by rw[←hs.len]; exact hjb y hy
 let L':=qL L js L1;have hlen':L'.length=(qL σ js (σ'.map (zA9 js σ.length))).length:=by rw[zCJ hjs,zCJ hjs1,jB4,hs.len,g2.st.len]
 have hgf:∀l,L'[back js σ.length l]?=L1[l]?:=by
  intro l;rcases jAn l js.length with hl | hl
  ·have:=jA2 hl;rw[zJP this];exact zDx hjs hd hjb this
  ·obtain⟨k,rfl⟩:=Nat.le.dest hl;rw[zH4,←hs.len];exact zHu hjs
 have hgs:∀l,(qL σ js (σ'.map (zA9 js σ.length)))[back js σ.length l]?=(σ'[l]?).map (zA9 js σ.length):=by
  intro l;rw[←jCl];rcases jAn l js.length with hl | hl
  ·have:=jA2 hl;rw[zJP this];exact zDx hjs1 hd hjb' this
  ·obtain⟨k,rfl⟩:=Nat.le.dest hl;rw[zH4];exact zHu hjs1
 have hg:∀l i,(fun l=>some (back js σ.length l)) l=some i→L'[i]?=L1[l]?:=by intro l i hl;simp only[jA0]at hl;subst hl;exact hgf l
 have hr0:∀(l n:Nat) (v:Value),(fun l=>some (back js σ.length l)) l=none→Rel H1 L1 (.row l n) v→Rel H1 L' (jH false l n) v:=fun _ _ _ _ _=>by simp[jH,Rel]
 have hp0:∀(l n:Nat) (v:Value),(fun l=>some (back js σ.length l)) l=none→Rel H1 L1 (.ptr l n) v→Rel H1 L' (jH true l n) v:=fun _ _ _ _ _=>by simp[jH,Rel]
 have hcase:∀x,x<L'.length→(∃l,l<L1.length∧back js σ.length l=x)∨(x<L.length∧x∉js):=by
  intro x hx;by_cases hm:x∈js
  ·obtain⟨i,hi⟩:=jCm hm;exact .inl ⟨i,by have:=(jA1.1 hi).1; omega,zJP hi⟩
  ·rcases jAn x L.length with h | h
   ·exact .inr ⟨h,hm⟩
   ·obtain⟨k,rfl⟩:=Nat.le.dest h;refine .inl ⟨js.length+k,?_,by rw[zH4,hs.len]⟩;rw[zCJ hjs]at hx;omega
 have hold:∀x,x<L.length→x∉js→L'[x]?=L[x]?:=fun x hx hm=>zFj hjs hx hm
 have holds:∀x,x<L.length→x∉js→(qL σ js (σ'.map (zA9 js σ.length)))[x]? = σ[x]?:=fun x hx hm=>zFj hjs1 (by rw[←hs.len]; exact hx) hm
 have hown0:∀b,zPG L0 b→∃(j:Nat) (li:LI),j∈js∧L[j]?=some li∧li.block=some b:=by
  rintro b ⟨i,li,h1,h2⟩;have hi:i<js.length:=by rw[←hL0]; exact(jA1.1 h1).1
  obtain⟨li',h3,h4⟩:=hin i js[i] (jA2 hi);rw[h1]at h4;cases h4;exact⟨_,li,jA3 hi,h3,h2⟩
 have hnot:∀x li b,x∉js→L[x]?=some li→li.block=some b→¬zPG L0 b:=by intro x li b hx h1 h2 ho;obtain⟨j,li',hj,h3,h4⟩:=hown0 b ho;have:=hs.inj x j li li' b h1 h3 h2 h4;subst this;exact hx hj
 have hlle:LLe L L':=by
  intro x li hx;have hxl:x<L.length:=(jA1.1 hx).1;by_cases hm:x∈js
  ·obtain⟨i,hi⟩:=jCm hm;obtain⟨li',h1,h2⟩:=hin i x hi;rw[hx]at h1;cases h1;obtain⟨l',h3,h4⟩:=g2.lle i li h2;exact⟨l',by rw[zDx hjs hd hjb hi]; exact h3,h4⟩
  ·exact⟨li,by rw[hold x hxl hm]; exact hx,.inl rfl⟩
 have hout:zGR H1 L' (zR8 js σ.length o) e:=by
  cases o with
  | ret r =>
   obtain⟨v,rfl,hv⟩:=g1;exact⟨v,rfl,Rel.vw (HLe.refl _) hg hr0 hp0 r hv⟩
  | pan v=>exact g1
 refine⟨zR8 js σ.length o,qL σ js (σ'.map (zA9 js σ.length)),H1,L',hout,⟨⟨g2.st.pers,hlen',fun x li o hL hσ=>?_,fun x y lx ly b hx hy hbx hby=>?_,fun x li b hx hb=>?_⟩,
  ⟨g2.step.os,g2.step.tape,g2.step.output,g2.step.size,fun k hk hn=>g2.step.keep k hk fun ho=>hn (by obtain⟨j,li,_,h1,h2⟩:=hown0 k ho; exact⟨j,li,h1,h2⟩),g2.step.hle,fun b o v hv=>?_,g2.step.drawn,g2.step.dfr⟩,hlle,fun b ⟨x,li,hx,hb⟩=>?_⟩,hq⟩
 ·rcases hcase x (jA1.1 hL).1 with ⟨l,hl,rfl⟩ | ⟨h1,h2⟩
  ·rw[hgf]at hL;rw[hgs,jAb]at hσ;obtain⟨o1,ho1,rfl⟩:=hσ;exact(g2.st.obj l li o1 hL ho1).vw (fun cs vs h=>zN.vw (HLe.refl _) hg hr0 hp0 cs h) (fun _ _=>rfl) (HLe.refl _) (fun _ _ _=>rfl)
  ·rw[hold x h1 h2]at hL;rw[holds x h1 h2]at hσ;refine(hs.obj x li o hL hσ).carry (fun b hb=>g2.step.keep b (hs.lt x li b hL hb) (hnot x li b h2 hL hb)) g2.step.hle hlle (fun b hb o'=>?_);cases hH:H b o' with
   | some u=>exact g2.step.hle _ _ _ hH
   | none =>
    cases hH1:H1 b o' with
    | none=>rfl
    | some u =>
     rcases g2.step.hnew b o' u hH1 with k1 | k1 | k1
     ·rw[hH]at k1; cases k1
     ·exact(hnot x li b h2 hL hb k1).elim
     ·have:=hs.lt x li b hL hb; omega
 ·have cross:∀(l y:Nat) (lx ly:LI),L1[l]?=some lx→lx.block=some b→y∉js→L[y]?=some ly→ly.block=some b→False:=by
   intro l y lx ly k1 k2 k3 k4 k5;rcases g2.own b ⟨l,lx,k1,k2⟩with k | k
   ·exact hnot y ly b k3 k4 k5 k
   ·have:=hs.lt y ly b k4 k5; omega
  rcases hcase x (jA1.1 hx).1 with ⟨l,hl,rfl⟩ | ⟨h1,h2⟩
  ·rw[hgf]at hx;rcases hcase y (jA1.1 hy).1 with ⟨m,hm,rfl⟩ | ⟨h3,h4⟩
   ·rw[hgf]at hy;rw[g2.st.inj l m lx ly b hx hy hbx hby]
   ·rw[hold y h3 h4]at hy;exact(cross l y lx ly hx hbx h4 hy hby).elim
  ·rw[hold x h1 h2]at hx;rcases hcase y (jA1.1 hy).1 with ⟨m,hm,rfl⟩ | ⟨h3,h4⟩
   ·rw[hgf]at hy;exact(cross m x ly lx hy hby h2 hx hbx).elim
   ·rw[hold y h3 h4]at hy;exact hs.inj x y lx ly b hx hy hbx hby
 ·rcases hcase x (jA1.1 hx).1 with ⟨l,hl,rfl⟩ | ⟨h1,h2⟩
  ·rw[hgf]at hx;exact g2.st.lt l li b hx hb
  ·rw[hold x h1 h2]at hx;exact jBu (hs.lt x li b hx hb) g2.step.size
 ·rcases g2.step.hnew b o v hv with k | k | k
  ·exact .inl k
  ·obtain⟨j,li,_,h1,h2⟩:=hown0 b k;exact .inr (.inl ⟨j,li,h1,h2⟩)
  ·exact .inr (.inr k)
 ·rcases hcase x (jA1.1 hx).1 with ⟨l,hl,rfl⟩ | ⟨h1,h2⟩
  ·rw[hgf]at hx;rcases g2.own b ⟨l,li,hx,hb⟩with k | k
   ·obtain⟨j,li',_,h1,h2⟩:=hown0 b k;exact .inl ⟨j,li',h1,h2⟩
   ·exact .inr k
  ·rw[hold x h1 h2]at hx;exact .inl ⟨x,li,hx,hb⟩
theorem zLX {C:List Value→World→(Ending→World→Prop)→Prop}(hmono:∀vs w R R',C vs w R→(∀e w',R e w'→R' e w')→C vs w R'){args args':List A} {σ0:St}{Q0:Out→St→Prop}(h:zSa C args σ0 Q0)(js:List Nat)(hd:js.Nodup)(ho:yL σ jH (zW js) js σ0)(ha:zBu js args' args){Q:Out→St→Prop}
 (hnp:∀v σ1,¬Q0 (.pan v) σ1)(hq:∀r σ1,Q0 (.ret r) σ1→Q (.ret (ren js σ.length r)) (qL σ js (σ1.map (zA9 js σ.length)))):zSa C args' σ Q :=
 zI3 hmono h js hd ho ha fun o σ1 h0=>by
  cases o with
  | ret r=>exact hq r σ1 h0
  | pan v=>exact(hnp v σ1 h0).elim
theorem zGW (P:Program)(f:FuncId):∀(vs:List Value) (w:World) (R R':Ending→World→Prop),Calls P f vs.toArray w R→(∀e w',R e w'→R' e w')→Calls P f vs.toArray w R':=fun _ _ _ _ h k=>h.mono k
theorem zAH {f:FuncId}{args args':List A} {σ0 σ1:St}{r:A}(h:Ret P f args σ0 r σ1)(js:List Nat)(hd:js.Nodup)(ho:yL σ jH (zW js) js σ0)(ha:zBu js args' args){Q:Out→St→Prop}
 (hq:Q (.ret (ren js σ.length r)) (qL σ js (σ1.map (zA9 js σ.length)))):yY P f args' σ Q :=
 zLX (C:=fun vs w R=>Calls P f vs.toArray w R) (zGW P f) (Q0:=fun o σ'=>o=.ret r∧σ' = σ1) h js hd ho ha (fun v σ1 h=>by cases h.1) (fun r' σ' h=>by obtain⟨h1,rfl⟩:=h; cases h1; exact hq)
theorem zQ6 (P:Program)(b:Nat):∀(vs:List Value) (w:World) (R R':Ending→World→Prop),(∃f tmps x y,(Instr.yield b vs.toArray).run P w=.ok (.round b f tmps x y) w∧RoundIn Fence.wide 0 P b f tmps x y w R)→(∀e w',R e w'→R' e w') →
 ∃f tmps x y,(Instr.yield b vs.toArray).run P w=.ok (.round b f tmps x y) w∧RoundIn Fence.wide 0 P b f tmps x y w R':=fun _ _ _ _ ⟨f,tmps,x,y,h1,h2⟩ k=>⟨f,tmps,x,y,h1,h2.mono k⟩
theorem zTi {b:Nat}{args args':List A} {σ0 σ1:St}{r:A}(h:zCp P b args σ0 fun o τ=>o=.ret r∧τ = σ1)(js:List Nat)(hd:js.Nodup)(ho:yL σ jH (zW js) js σ0)(ha:zBu js args' args){Q:Out→St→Prop}
 (hq:Q (.ret (ren js σ.length r)) (qL σ js (σ1.map (zA9 js σ.length)))):zCp P b args' σ Q :=
 zLX (C:=fun vs w R=>∃f tmps x y,(Instr.yield b vs.toArray).run P w=.ok (.round b f tmps x y) w∧RoundIn Fence.wide 0 P b f tmps x y w R) (zQ6 P b) (Q0:=fun o σ'=>o=.ret r∧σ' = σ1) h js hd ho ha (fun v σ1 h=>by cases h.1)
  (fun r' σ' h=>by obtain⟨h1,rfl⟩:=h; cases h1; exact hq)
theorem zFl {f:FuncId}{args:List A} {σ0 σ1:St}{r:A}
 (h:yY P f args σ0 fun o σ'=>∃(r':A)(ks:List Nat)(fuel:Nat),o=.ret r'∧(∀i,i < σ0.length→ks[i]?=some i)∧ks.Nodup∧yL σ' (seen σ' (zW ks) fuel) (zW ks) ks σ1 ∧
  (r=vw (seen σ' (zW ks) fuel) (zW ks) r'∨r=nrm0 (vw (seen σ' (zW ks) fuel) (zW ks) r'))):Ret P f args σ0 r σ1:=by
 intro H L w vs hs ha;refine(h H L w vs hs ha).mono fun e w' hh=>?_
 obtain⟨o,σ',H',L',g1,g2,r',ks,fuel,rfl,hk,hd,ho,hr⟩:=hh;obtain⟨v,rfl,hv⟩:=g1;obtain⟨H2,L2,k1,_,k3⟩:=zSI ks fuel (by rw[hs.len]; exact hk) hd ho g2;refine⟨.ret r,σ1,H2,L2,⟨v,rfl,?_⟩,k1,rfl,rfl⟩;rcases hr with e | e
 ·rw[e]; exact k3 _ _ hv
 ·rw[e]; exact Rel.nrm0 _ (k3 _ _ hv)
end
end Go.Abs
namespace Go.Abs
attribute [simp] KOp.dst
@[simp] theorem qCu {a b n:Nat}(h:a≤b):(a≤b+n)=True:=eq_true (by omega)
@[simp] def int (n:Int):A:=.lit (.int .i64 n)
@[simp] def bl (b:Bool):A:=.lit (.bool b)
section
variable {P:Program}{n0:Nat}{Qp:Value→Env→St→Prop}{K':Env→St→Prop}{KD:Env→Prop}{Q:Ex→Env→St→Prop}{env:Env} {σ : St}{d:Option Nat}
variable {rf:Bool→Nat→Nat→A}{g:Nat→Option Nat}
def lvl (o:Option Nat)(f:Nat→A)(b:A):A:=match o with
 | some i=>f i
 | none=>b
@[simp] theorem qIH {i:Nat}{f:Nat→A}{b:A}:lvl (some i) f b=f i:=rfl
@[simp] theorem qIG {f:Nat→A}{b:A}:lvl none f b=b:=rfl
@[simp] theorem qPl {l o:Nat}:vw rf g (.ptr l o)=lvl (g l) (.ptr · o) (rf true l o):=by simp only[vw,lvl];cases g l<;>rfl
@[simp] theorem qPm {l n:Nat}:vw rf g (.row l n)=lvl (g l) (.row · n) (rf false l n):=by simp only[vw,lvl];cases g l<;>rfl
@[simp] theorem qPn {l n o:Nat}:vw rf g (.rwp l n o)=lvl (g l) (.rwp · n o) .any:=by simp only[vw,lvl];cases g l<;>rfl
@[simp] theorem qPj {l:Nat}:vw rf g (.map l)=lvl (g l) .map .any:=by simp only[vw,lvl];cases g l<;>rfl
@[simp] theorem qPp {l n o k c:Nat}:vw rf g (.win l n o k c)=lvl (g l) (.win · n o k c) (zTr o k c (rf false l n)):=by simp only[vw,lvl];cases g l<;>rfl
@[simp] theorem qLn {n o k c:Nat}{cs:List A}:zTr o k c (.sl n cs)=if k=0 then .sl 0 [] else .sl k ((cs.drop o).take (k*c)):=rfl
@[simp] theorem qDw {cs:List A}:vw rf g (.agg cs)=.agg (vwL rf g cs):=by simp only[vw]
@[simp] theorem qPo {cs:List A}:vw rf g (.tup cs)=.tup (vwL rf g cs):=by simp only[vw]
@[simp] theorem qP4 {n:Nat}{cs:List A}:vw rf g (.sl n cs)=.sl n (vwL rf g cs):=by simp only[vw]
@[simp] theorem qPh {n:Nat}{cs:List A}:vw rf g (.fsl n cs)=.fsl n (vwL rf g cs):=by simp only[vw]
@[simp] theorem qMp {cs:List A}:vw rf g (.rptr cs)=.rptr (vwL rf g cs):=by simp only[vw]
@[simp] theorem qPg {f:FuncId}{a b:List A}:vw rf g (.clo f a b)=.clo f (vwL rf g a) (vwL rf g b):=by simp only[vw]
@[simp] theorem qPf:vw rf g .any=.any:=by simp only[vw]
@[simp] theorem qPk:vw rf g .nil=.nil:=by simp only[vw]
@[simp] theorem qPi {v:Value}:vw rf g (.lit v)=.lit v:=by simp only[vw]
@[simp] theorem qP5 {b:Nat}:vw rf g (yv b)=yv b:=by simp only[yv,vw]
@[simp] theorem qDH {b:Bool}{l n:Nat}:jH b l n=.any:=rfl
@[simp] theorem qMa:vwL rf g []=[]:=by simp only[vwL]
@[simp] theorem qJT {c:A}{cs:List A}:vwL rf g (c::cs)=vw rf g c::vwL rf g cs:=by simp only[vwL]
@[simp] theorem zRU {cs ds:List A}:vwL rf g (cs++ds)=vwL rf g cs++vwL rf g ds:=by
 induction cs with
 | nil=>simp
 | cons c cs ih=>simp[ih]
@[simp] theorem qJU {cs:List A}{n:Nat}:vwL rf g (cs.drop n)=(vwL rf g cs).drop n:=by
 induction cs generalizing n with
 | nil=>simp
 | cons c cs ih=>cases n<;>simp[ih]
@[simp] theorem qJV {cs:List A}{n:Nat}:vwL rf g (cs.take n)=(vwL rf g cs).take n:=by
 induction cs generalizing n with
 | nil=>simp
 | cons c cs ih=>cases n<;>simp[ih]
@[simp] theorem qJf {l o:Nat}:nrm0 (.ptr l o)=.ptr l o:=by simp only[nrm0]
@[simp] theorem qJg {l n:Nat}:nrm0 (.row l n)=.row l n:=by simp only[nrm0]
@[simp] theorem qJh {l n o:Nat}:nrm0 (.rwp l n o)=.rwp l n o:=by simp only[nrm0]
@[simp] theorem qJd {l:Nat}:nrm0 (.map l)=.map l:=by simp only[nrm0]
@[simp] theorem qJj {l n o k c:Nat}:nrm0 (.win l n o k c)=.win l n o k c:=by simp only[nrm0]
@[simp] theorem qIY {cs:List A}:nrm0 (.agg cs)=.agg (qU cs):=by simp only[nrm0]
@[simp] theorem qJi {cs:List A}:nrm0 (.tup cs)=.tup (qU cs):=by simp only[nrm0]
@[simp] theorem qLD {n:Nat}{cs:List A}:nrm0 (.sl n cs)=.sl n (qU cs):=by simp only[nrm0]
@[simp] theorem qJb {n:Nat}{cs:List A}:nrm0 (.fsl n cs)=.sl n (qU cs):=by simp only[nrm0]
@[simp] theorem qEE {cs:List A}:nrm0 (.rptr cs)=.rptr (qU cs):=by simp only[nrm0]
@[simp] theorem qJa {f:FuncId}{a b:List A}:nrm0 (.clo f a b)=.clo f (qU a) (qU b):=by simp only[nrm0]
@[simp] theorem qIZ:nrm0 .any=.any:=by simp only[nrm0]
@[simp] theorem qJe:nrm0 .nil=.sl 0 []:=by simp only[nrm0]
@[simp] theorem qJc {v:Value}:nrm0 (.lit v)=.lit v:=by simp only[nrm0]
@[simp] theorem qLE {b:Nat}:nrm0 (yv b)=yv b:=by simp only[yv,nrm0]
@[simp] theorem qE4:qU []=[]:=by simp only[qU]
@[simp] theorem qC8 {c:A}{cs:List A}:qU (c::cs)=nrm0 c::qU cs:=by simp only[qU]
@[simp] theorem zNK {cs ds:List A}:qU (cs++ds)=qU cs++qU ds:=by
 induction cs with
 | nil=>simp
 | cons c cs ih=>simp[ih]
@[simp] theorem qC9 {cs:List A}{n:Nat}:qU (cs.drop n)=(qU cs).drop n:=by
 induction cs generalizing n with
 | nil=>simp
 | cons c cs ih=>cases n<;>simp[ih]
@[simp] theorem qCA {cs:List A}{n:Nat}:qU (cs.take n)=(qU cs).take n:=by
 induction cs generalizing n with
 | nil=>simp
 | cons c cs ih=>cases n<;>simp[ih]
def qE (cs:List A):Prop:=qU cs=cs∧∀rf g,vwL rf g cs=cs
theorem qE.nil:qE []:=⟨by simp,by simp⟩
theorem qE.append {cs ds:List A}(h:qE cs)(k:qE ds):qE (cs++ds):=⟨by simp[h.1,k.1],fun rf g=>by simp[h.2,k.2]⟩
theorem qE.drop {cs:List A}(h:qE cs)(n:Nat):qE (cs.drop n):=⟨by simp[h.1],fun rf g=>by simp[h.2]⟩
theorem qE.take {cs:List A}(h:qE cs)(n:Nat):qE (cs.take n):=⟨by simp[h.1],fun rf g=>by simp[h.2]⟩
theorem qE.int {k:IntKind}{n:Int}{cs:List A}(h:qE cs):qE (.lit (.int k n)::cs):=⟨by simp[h.1],fun rf g=>by simp[h.2]⟩
theorem qE.lit {v:Value}{cs:List A}(h:qE cs):qE (.lit v::cs):=⟨by simp[h.1],fun rf g=>by simp[h.2]⟩
theorem qE.sl {n:Nat}{ds cs:List A}(k:qE ds)(h:qE cs):qE (.sl n ds::cs):=⟨by simp[h.1,k.1],fun rf g=>by simp[h.2,k.2]⟩
@[simp] theorem qEM {l:Nat}:zW [] l=none:=rfl
@[simp] theorem zHr {k l:Nat}{ks:List Nat}:zW (k::ks) l=if l=k then some 0 else (zW ks l).map (· + 1):=rfl
@[simp] theorem qGz {n l:Nat}:back [] n l=n+l:=by cases l<;>rfl
@[simp] theorem qDM {j n:Nat}{js:List Nat}:back (j::js) n 0=j:=rfl
@[simp] theorem zTb {j n l:Nat}{js:List Nat}:back (j::js) n (l+1)=back js n l:=rfl
@[simp] theorem qCO {s t:St}:qL s [] t=s++t:=by simp only[qL]
@[simp] theorem zJ1 {s os:St}{j:Nat}{js:List Nat}{o:AObj}:qL s (j::js) (o::os)=qL (s.set j o) js os:=rfl
@[simp] theorem qDJ {js:List Nat}:zBu js [] []:=trivial
@[simp] theorem qBm {js:List Nat}{a a':A}{aS aS':List A}:zBu js (a'::aS') (a::aS)=((a=vw jH (zW js) a'∨a=nrm0 (vw jH (zW js) a'))∧zBu js aS' aS):=rfl
def zPC (o:Option AObj)(J:AObj→Prop):Prop:=match o with
 | some o=>J o
 | none=>False
@[simp] theorem qCE {o:AObj}{J:AObj→Prop}:zPC (some o) J=J o:=rfl
@[simp] theorem qFc:yL σ rf g [] []:=trivial
@[simp] theorem zRI {j:Nat}{js:List Nat}{o:AObj}{os:St}:yL σ rf g (j::js) (o::os)=(zPC σ[j]? (fun p=>o=vwO rf g p∨o=zGC (vwO rf g p))∧yL σ rf g js os):=by simp only[yL,zPC];cases σ[j]?<;>rfl
@[simp] theorem qMb {cs:List A}:vwO rf g (.box cs)=.box (vwL rf g cs):=rfl
@[simp] theorem qMc {fz:Bool}{e:TypeId}{sz n:Nat}{cs:List A}:vwO rf g (.row fz e sz n cs)=.row fz e sz n (vwL rf g cs):=rfl
@[simp] theorem qDv {fr:Bool}{nk:Nat}{es:List (List Int×A)}:vwO rf g (.mp fr nk es)=.mp fr nk (es.map fun p=>(p.1,vw rf g p.2)):=rfl
@[simp] theorem qMd:vwO rf g .rsv=.rsv:=rfl
@[simp] theorem qJm:zGC .rsv=.rsv:=rfl
@[simp] theorem qJy {js:List Nat}{n:Nat}:zA9 js n .rsv=.rsv:=rfl
@[simp] theorem qDt {m n:Nat}{met:List Nat}:vwO rf g (.it m n met)=(match g m with | some i=>AObj.it i n met | none=>.dead):=rfl
@[simp] theorem qLH {fr:Bool}{nk:Nat}{es:List (List Int×A)}:zGC (.mp fr nk es)=.mp fr nk (es.map fun p=>(p.1,nrm0 p.2)):=rfl
@[simp] theorem qLF {m n:Nat}{met:List Nat}:zGC (.it m n met)=.it m n met:=rfl
@[simp] theorem qLN {js:List Nat}{n:Nat}{fr:Bool}{nk:Nat}{es:List (List Int×A)}:zA9 js n (.mp fr nk es)=.mp fr nk (es.map fun p=>(p.1,ren js n p.2)):=rfl
@[simp] theorem qLL {js:List Nat}{n m k:Nat}{met:List Nat}:zA9 js n (.it m k met)=.it (back js n m) k met:=rfl
@[simp] theorem qDu {b M:Nat}{r:Loop}{es:List (Nat×A)}:vwO rf g (.lp b r M es)=.lp b r M (es.map fun p=>(p.1,vw rf g p.2)):=rfl
@[simp] theorem qLG {b M:Nat}{r:Loop}{es:List (Nat×A)}:zGC (.lp b r M es)=.lp b r M (es.map fun p=>(p.1,nrm0 p.2)):=rfl
@[simp] theorem qLM {js:List Nat}{n b M:Nat}{r:Loop}{es:List (Nat×A)}:zA9 js n (.lp b r M es)=.lp b r M (es.map fun p=>(p.1,ren js n p.2)):=rfl
@[simp] theorem qJk {cs:List A}:zGC (.box cs)=.box (qU cs):=rfl
@[simp] theorem qJl {fz:Bool}{e:TypeId}{sz n:Nat}{cs:List A}:zGC (.row fz e sz n cs)=.row fz e sz n (qU cs):=rfl
@[simp] theorem qJw {js:List Nat}{n:Nat}{cs:List A}:zA9 js n (.box cs)=.box (qCQ js n cs):=rfl
@[simp] theorem qJx {js:List Nat}{n:Nat}{fz:Bool}{e:TypeId}{sz m:Nat}{cs:List A}:zA9 js n (.row fz e sz m cs)=.row fz e sz m (qCQ js n cs):=rfl
@[simp] theorem qOW {js:List Nat}{n:Nat}{a:A}:ren js n a=vw jH (fun l=>some (back js n l)) a:=rfl
@[simp] theorem qLK {js:List Nat}{n:Nat}{cs:List A}:qCQ js n cs=vwL jH (fun l=>some (back js n l)) cs:=rfl
def zWO (k:Nat)(o:Option AObj)(n:Nat)(J:List A→A):A:=match o with
 | some (.row _ _ _ m cs)=>if n=m then J cs else .any
 | _=>.any
@[simp] theorem qDa {k n m:Nat}{fz:Bool}{e:TypeId}{sz:Nat}{cs:List A}{J:List A→A}:zWO k (some (.row fz e sz m cs)) n J=if n=m then J cs else .any:=rfl
@[simp] theorem qFb {b:Bool}{l n:Nat}:seen σ g 0 b l n=.any:=rfl
@[simp] theorem qFa {k l n:Nat}:seen σ g (k+1) false l n=zWO k σ[l]? n (fun cs=>.sl n (vwL (seen σ g k) g cs)):=by
 simp only[seen,zWO];cases σ[l]? with
 | none=>rfl
 | some o=>cases o<;>rfl
def zPT (o:Option AObj)(J:List A→A):A:=match o with
 | some (.box cs)=>J cs
 | _=>.any
@[simp] theorem qEY {cs:List A}{J:List A→A}:zPT (some (.box cs)) J=J cs:=rfl
@[simp] theorem qEZ {fz:Bool}{e:TypeId}{sz n:Nat}{cs:List A}{J:List A→A}:zPT (some (.row fz e sz n cs)) J=.any:=rfl
@[simp] theorem qCZ {J:List A→A}:zPT none J=.any:=rfl
@[simp] theorem qJA {k l n:Nat}:seen σ g (k+1) true l n=zPT σ[l]? (fun cs=>.rptr ((vwL (seen σ g k) g cs).drop n)):=by
 simp only[seen,zPT];cases σ[l]? with
 | none=>rfl
 | some o=>cases o<;>rfl
def zSY:List A→A
 | [x]=>x
 | l=>.tup l
@[simp] theorem qFh {x:A}:zSY [x]=x:=rfl
@[simp] theorem qFg:zSY []=.tup []:=rfl
@[simp] theorem qFi {x y:A}{l:List A}:zSY (x::y::l)=.tup (x::y::l):=rfl
def zLp (env:Env) (σ : St):List RS→(List A→Prop)→Prop
 | [],J=>J []
 | .slot t::rs,J=>zLp env σ rs fun l=>J (env t::l)
 | .cell a n agg::rs,J=>zDk ((ldA σ n (env a)).bind (zBx agg)) fun r=>zLp env σ rs fun l=>J (r::l)
@[simp] theorem qJ0 {J:List A→Prop}:zLp env σ [] J=J []:=rfl
@[simp] theorem qEQ {t:Nat}{rs:List RS}{J:List A→Prop}:zLp env σ (.slot t::rs) J=zLp env σ rs fun l=>J (env t::l):=rfl
@[simp] theorem qEP {a n:Nat}{agg:Bool}{rs:List RS}{J:List A→Prop}:zLp env σ (.cell a n agg::rs) J=zDk ((ldA σ n (env a)).bind (zBx agg)) fun r=>zLp env σ rs fun l=>J (r::l):=rfl
theorem zNU:∀{rs:List RS} {J:List A→Prop},zLp env σ rs J=match zAP env σ rs with | some l=>J l | none=>False
 | [],J=>rfl
 | .slot t::rs,J=>by simp only[zLp,zAP,zDZ];rw[zNU];cases zAP env σ rs<;>rfl
 | .cell a n agg::rs,J=>by
  simp only[zLp,zAP,zDZ];cases (ldA σ n (env a)).bind (zBx agg)with
  | none=>rfl
  | some r =>
   simp only[zDk];rw[zNU];cases zAP env σ rs<;>rfl
@[simp] theorem qLO {rs:List RS}{R:Out→St→Prop}:zJJ rs R env σ = zLp env σ rs fun l=>R (.ret (zSY l)) σ:=by
 rw[zNU,zJJ,zRC];cases zAP env σ rs with
 | none=>rfl
 | some l =>
  cases l with
  | nil=>rfl
  | cons x l=>cases l<;>rfl
def zFz (n:Nat)(r:A) (σ1:St)(o:Out) (σ':St):Prop :=
 ∃(r':A) (ks:List Nat) (fuel:Nat),o=.ret r'∧(∀i,i<n→ks[i]?=some i)∧ks.Nodup∧yL σ' (seen σ' (zW ks) fuel) (zW ks) ks σ1 ∧
  (r=vw (seen σ' (zW ks) fuel) (zW ks) r'∨r=nrm0 (vw (seen σ' (zW ks) fuel) (zW ks) r'))
theorem zK {f:FuncId}{fn:Func}{c:Code}{k:K}{rs:List RS}(hf:P.funcs[f]?=some fn)(hb:fn.body=some c)(hc:zO P fn.ntmps c=some k.erase)(hr:zBV P fn.results.toList=some rs)
 {args:List A} {σ0 σ1:St}{r:A}(h:wpF P k rs args σ0 (zFz σ0.length r σ1)):Ret P f args σ0 r σ1:=zFl (zFC hf hb hc hr h)
theorem qS {hint:Nat→Option (List (Nat×Nat))}{f:FuncId}{fn:Func}{c:Code}{k:K}{rs:List RS}(hf:P.funcs[f]?=some fn)(hb:fn.body=some c)(hc:qF P fn.ntmps hint c=some k.erase)(hr:zBV P fn.results.toList=some rs)
 {args:List A} {σ0 σ1:St}{r:A}(h:wpF P k rs args σ0 (zFz σ0.length r σ1)):Ret P f args σ0 r σ1:=zFl (zDc hf hb hc hr h)
theorem zB {r r':A} {σ':St}(fuel:Nat)(h:r=vw (seen σ' (fun _=>none) fuel) (fun _=>none) r'∨r=nrm0 (vw (seen σ' (fun _=>none) fuel) (fun _=>none) r')):zFz 0 r [] (.ret r') σ' :=
 ⟨r',[],fuel,rfl,fun i hi=>by omega,by simp,trivial,h⟩
theorem zI {n:Nat}{r r':A} {σ1 σ':St}(ks:List Nat)(fuel:Nat)(hk:∀i,i<n→ks[i]?=some i)(hd:ks.Nodup)(ho:yL σ' (seen σ' (zW ks) fuel) (zW ks) ks σ1)
 (h:r=vw (seen σ' (zW ks) fuel) (zW ks) r'∨r=nrm0 (vw (seen σ' (zW ks) fuel) (zW ks) r')):zFz n r σ1 (.ret r') σ':=⟨r',ks,fuel,rfl,hk,hd,ho,h⟩
theorem zPZ:∀{s:St} {j:Nat} {o:AObj},s[j]?=some o→s.set j o=s
 | [],_,_,h=>by simp at h
 | x::s,0,o,h=>by simp at h; simp[h]
 | x::s,j+1,o,h=>by simp only[jBf]at h; simp[zPZ h]
theorem qK {f:FuncId}{args args':List A}{r:A}(h:Ret P f args [] r [])(ha:zBu [] args' args)(hr:∀m,vw jH (fun l=>some (m+l)) r=r)(hq:K' (env.put d r) σ):yY P f args' σ (zHp d env K' Qp):=by
 refine zAH h [] (by simp) trivial ha ?_;have:ren [] σ.length r=r:=by
  have:=hr σ.length
  simpa [ren] using this
 rw[this]
 simpa [zHp] using hq
theorem qR {f:FuncId}{args args':List A}{r:A}(h:Ret P f args [] r [])(ha:zBu [] args' args)(hr:∀m,vw jH (fun l=>some (m+l)) r=r)(hq:KD (env.put d r)):zOi P σ d KD f args' env:=by
 refine⟨r,zAH h [] (by simp) trivial ha ?_,hq⟩;have:ren [] σ.length r=r:=by
  have:=hr σ.length
  simpa [ren] using this
 rw[this];simp
theorem jN {f:FuncId}{args args':List A} {σ0 σ1:St}{r:A}(h:Ret P f args σ0 r σ1)(js:List Nat)(hd:js.Nodup)(ho:yL σ jH (zW js) js σ0)(ha:zBu js args' args)
 (hq:K' (env.put d (ren js σ.length r)) (qL σ js (σ1.map (zA9 js σ.length)))):yY P f args' σ (zHp d env K' Qp):=zAH h js hd ho ha (by simpa [zHp] using hq)
def zZI {S:Type}(E:S→List (Nat×A))(T:S→St)(I:S→Prop) (μ : S→Nat)(n:Nat)(e:Env)(t:St):Prop:=∃s,I s∧μ s=n∧e=qC (E s)∧t=T s
theorem jX {S:Type}{W:(Ex→Env→St→Prop)→Env→St→Prop}(E:S→List (Nat×A))(T:S→St)(I:S→Prop) (μ : S→Nat)(s0:S)(h0:I s0)(start:zA0 n0 (qC (E s0)) (T s0) env σ)
 (round:∀s,I s→W (rnd n0 (zZI E T I μ) (μ s) Q) (qC (E s)) (T s)):zOm n0 W Q env σ:=zY1 E T I μ s0 h0 start round
theorem zU {S:Type}{E:S→List (Nat×A)}{T:S→St}{I:S→Prop} {μ : S→Nat}{n:Nat}(s:S)(hs:I s)(hm : μ s<n)(hw:zA0 n0 (qC (E s)) (T s) env σ):rnd n0 (zZI E T I μ) n Q .norm env σ :=
 qCS s hs hm hw
theorem zP (ks:List Nat)(fuel:Nat){l:List (Nat×A)} {σ':St}(hk:∀i,i<n0→ks[i]?=some i)(hd:ks.Nodup)(ho:yL σ (seen σ (zW ks) fuel) (zW ks) ks σ')
 (hl:∀p∈l,p.2=vw (seen σ (zW ks) fuel) (zW ks) (env p.1)∨p.2=nrm0 (vw (seen σ (zW ks) fuel) (zW ks) (env p.1))):zA0 n0 (qC l) σ' env σ:=zA0.sel ks fuel l hk hd ho hl
end
end Go.Abs
namespace Go.Abs
section
variable {P:Program}{KD:Env→Prop}{env:Env} {σ : St}{d:Option Nat}
theorem zAo {f:FuncId}{args args':List A}{r:A}(h:Ret P f args [] r [])(ha:zBu [] args' args)(hr:∀m,vw jH (fun l=>some (m+l)) r=r)(hq:KD (env.put d r)):zIs P σ d KD f args' env:=by
 refine⟨r,fun τ _=>zAH h [] (by simp) trivial ha ?_,hq⟩;have:ren [] τ.length r=r:=by
  have:=hr τ.length
  simpa [ren] using this
 rw[this];simp
def zFm (σ : St)(js:List Nat):List Nat→St→Prop
 | [],[]=>True
 | j::ks,o::os=>(zPC σ[j]? fun p=>(∃cs,p=.box cs)∧(∀n,zA9 js n o=p)∧(o=vwO jH (zW js) p∨o=zGC (vwO jH (zW js) p)))∧zFm σ js ks os
 | _,_=>False
@[simp] theorem qCY {js:List Nat}:zFm σ js [] []:=trivial
@[simp] theorem qAO {js ks:List Nat}{j:Nat}{o:AObj}{os:St}:zFm σ js (j::ks) (o::os)=((zPC σ[j]? fun p=>(∃cs,p=.box cs)∧(∀n,zA9 js n o=p)∧(o=vwO jH (zW js) p∨o=zGC (vwO jH (zW js) p)))∧zFm σ js ks os):=rfl
theorem zGk {js:List Nat} {τ : St}(hk:zAg σ τ):∀{ks:List Nat} {os:St},zFm σ js ks os→zFm τ js ks os
 | [],[],_=>trivial
 | j::ks,o::os,h=>by
  obtain⟨h1,h2⟩:=h;refine⟨?_,zGk hk h2⟩;cases hj : σ[j]? with
  | none=>rw[hj]at h1; exact h1.elim
  | some p =>
   rw[hj]at h1;obtain⟨⟨cs,rfl⟩,h3⟩:=h1;rw[hk j cs hj];exact⟨⟨cs,rfl⟩,h3⟩
 | [],_::_,h=>h.elim
 | _::_,[],h=>h.elim
theorem zLr {js:List Nat}:∀{ks:List Nat} {os:St},zFm σ js ks os→yL σ jH (zW js) ks os
 | [],[],_=>trivial
 | j::ks,o::os,h=>by
  obtain⟨h1,h2⟩:=h;refine⟨?_,zLr h2⟩;cases hj : σ[j]? with
  | none=>rw[hj]at h1; exact h1.elim
  | some p=>rw[hj]at h1; exact h1.2.2
 | [],_::_,h=>h.elim
 | _::_,[],h=>h.elim
theorem zLq {js:List Nat}{n:Nat}:∀{ks:List Nat} {os:St},zFm σ js ks os→qL σ ks (os.map (zA9 js n)) = σ
 | [],[],_=>by simp
 | j::ks,o::os,h=>by
  obtain⟨h1,h2⟩:=h;cases hj : σ[j]? with
  | none=>rw[hj]at h1; exact h1.elim
  | some p =>
   rw[hj]at h1;simp only[jA9,zJ1];rw[h1.2.1 n,zPZ hj];exact zLq h2
 | [],_::_,h=>h.elim
 | _::_,[],h=>h.elim
theorem zXJ {f:FuncId}{args args':List A} {σ0:St}{r:A}(h:Ret P f args σ0 r σ0)(js:List Nat)(hd:js.Nodup)(ho:zFm σ js js σ0)(ha:zBu js args' args)(hr:∀n,ren js n r=r)(hq:KD (env.put d r)) :
 zIs P σ d KD f args' env:=by
 refine⟨r,fun τ hk=>zAH h js hd (zLr (zGk hk ho)) ha ?_,hq⟩;rw[hr,zLq (zGk hk ho)];simp
end
end Go.Abs
namespace Go.Abs
section
variable {P:Program}{Qp:Value→Env→St→Prop}{Qd:Value→St→Prop}{K':Env→St→Prop}{env:Env} {σ : St}{d:Option Nat}{x y:Operand}
def zP9 (a:A)(J:A→Prop):Prop:=match a with
 | .ptr l o=>J (.ptr l o)
 | .rptr cs=>J (.rptr cs)
 | _=>False
@[simp] theorem qE2 {l o:Nat}{J:A→Prop}:zP9 (.ptr l o) J=J (.ptr l o):=rfl
@[simp] theorem qC7 {cs:List A}{J:A→Prop}:zP9 (.rptr cs) J=J (.rptr cs):=rfl
theorem zUg {J:A→Prop}:qQ (zG env σ (.nilc d x)) J=zP9 (ev env x) J:=by simp only[zG,zP9,qQ];generalize ev env x=a;cases a<;>simp
@[simp] theorem qKo:wpO P Qp K' (.nilc d x) env σ = zP9 (ev env x) fun r=>K' (env.put d r) σ:=zUg (d:=d)
@[simp] theorem qD6 {fl:Nat}:jE P Qd fl K' (.nilc d x) env σ = wpO P zAC K' (.nilc d x) env σ:=by simp[jE,KOp.lite,KOp.keeps]
def zKQ:List A→(List Int→Prop)→Prop
 | [],J=>J []
 | .lit (.int .i64 n)::l,J=>zKQ l fun ks=>J (n::ks)
 | _,_=>False
@[simp] theorem qEx {J:List Int→Prop}:zKQ [] J=J []:=rfl
@[simp] theorem qCx {n:Int}{l:List A}{J:List Int→Prop}:zKQ (.lit (.int .i64 n)::l) J=zKQ l fun ks=>J (n::ks):=rfl
theorem zP1:∀(l:List A) (J:List Int→Prop),zKQ l J=match zHV l with | some ks=>J ks | none=>False
 | [],J=>rfl
 | a::l,J=>by
  cases a<;>try rfl
  rename_i v;cases v<;>try rfl
  rename_i k n;cases k<;>try rfl
  simp only[zKQ,zHV,zP1 l];cases zHV l<;>rfl
def zLG (nk:Nat)(k:A)(J:List Int→Prop):Prop:=match zHT nk k with
 | some ks=>J ks
 | none=>False
@[simp] theorem qI1 {nk:Nat}{cs:List A}{J:List Int→Prop}:zLG nk (.agg cs) J=zKQ cs fun ks=>(ks.length=nk∧nk≠1)∧J ks:=by
 simp only[zLG,zHT,zP1];cases zHV cs with
 | none=>rfl
 | some ks =>
  simp only;by_cases h:ks.length=nk∧nk≠1<;>simp[h]
@[simp] theorem qI2 {nk:Nat}{n:Int}{J:List Int→Prop}:zLG nk (.lit (.int .i64 n)) J=(nk=1∧J [n]):=by simp only[zLG,zHT];by_cases h:nk=1<;>simp[h]
def zIM (o:Option AObj)(J:Bool→Nat→List (List Int×A)→Prop):Prop:=match o with
 | some (.mp fr nk es)=>J fr nk es
 | _=>False
@[simp] theorem qE1 {fr:Bool}{nk:Nat}{es:List (List Int×A)}{J:Bool→Nat→List (List Int×A)→Prop}:zIM (some (.mp fr nk es)) J=J fr nk es:=rfl
def zWq (o:Option AObj)(J:Nat→Nat→List Nat→Prop):Prop:=match o with
 | some (.it m n met)=>J m n met
 | _=>False
@[simp] theorem qEw {m n:Nat}{met:List Nat}{J:Nat→Nat→List Nat→Prop}:zWq (some (.it m n met)) J=J m n met:=rfl
@[simp] theorem qMB {m:MOp}{xs:List Operand}:wpO P Qp K' (.mop d m xs) env σ = zBh m (xs.map (ev env)) (fun r τ=>K' (env.put d r) τ) σ:=by simp only[wpO]
variable {K:A→St→Prop}
@[simp] theorem qLC {nk:Nat}:zBh (.mk nk) [] K σ = K (.map σ.length) (σ++[.mp true nk []]):=rfl
@[simp] theorem qIQ {nk l:Nat}{z:Value}{ok:Bool}{k:A}:zBh (.get nk z ok) [.map l,k] K σ = zLG nk k fun ks=>zIM σ[l]? fun _ nk' es=>nk'=nk∧K (zEV z ok (zB7 ks es)) σ:=by
 simp only[zBh,zLG,zIM];cases zHT nk k with
 | none=>rfl
 | some ks =>
  cases σ[l]? with
  | none=>rfl
  | some o=>cases o<;>rfl
@[simp] theorem qIU {nk l:Nat}{k v:A}:zBh (.set nk) [.map l,k,v] K σ = zLG nk k fun ks=>zIM σ[l]? fun fr nk' es=>nk'=nk∧K (.lit undef) (σ.set l (.mp fr nk (putI ks v es))):=by
 simp only[zBh,zLG,zIM];cases zHT nk k with
 | none=>rfl
 | some ks =>
  cases σ[l]? with
  | none=>rfl
  | some o=>cases o<;>rfl
@[simp] theorem qIO {nk l:Nat}{k:A}:zBh (.del nk) [.map l,k] K σ = zLG nk k fun ks=>zIM σ[l]? fun _ nk' es=>nk'=nk∧K (.tup []) (σ.set l (.mp false nk (zI6 ks es))):=by
 simp only[zBh,zLG,zIM];cases zHT nk k with
 | none=>rfl
 | some ks =>
  cases σ[l]? with
  | none=>rfl
  | some o=>cases o<;>rfl
@[simp] theorem qIT {l:Nat}:zBh .rng [.map l] K σ = zIM σ[l]? fun fr _ es=>fr=true∧K (.ptr σ.length 0) (σ++[.it l es.length []]):=by
 simp only[zBh,zIM];cases σ[l]? with
 | none=>rfl
 | some o =>
  cases o<;>try rfl
  rename_i fr nk es;cases fr<;>simp
@[simp] theorem qIS {j:Nat}:zBh .nxt [.ptr j 0] K σ = zWq σ[j]? fun l n met=>zIM σ[l]? fun fr _ es=>fr=true∧n=es.length ∧
 (∀(i:Nat) (p:List Int×A),i∉met→es[i]?=some p→K (.tup [.lit (.bool true),zJI p.1,p.2]) (σ.set j (.it l n (met++[i]))))∧((∀i,i<n→i∈met)→K (.tup [.lit (.bool false)]) σ):=by
 simp only[zBh,zIM,zWq];cases σ[j]? with
 | none=>rfl
 | some o =>
  cases o<;>try rfl
  rename_i l n met;simp only;cases σ[l]? with
  | none=>rfl
  | some o =>
   cases o<;>try rfl
   rename_i fr nk es;cases fr<;>simp
@[simp] theorem qIP {j:Nat}:zBh .ent [.ptr j 0] K σ = zWq σ[j]? fun l n met=>zIM σ[l]? fun fr _ es=>fr=true∧∃i p,met.getLast?=some i∧es[i]?=some p∧n=es.length∧K (.tup [zJI p.1,p.2]) σ:=by
 simp only[zBh,zIM,zWq];cases σ[j]? with
 | none=>rfl
 | some o =>
  cases o<;>try rfl
  rename_i l n met;simp only;cases σ[l]? with
  | none=>rfl
  | some o =>
   cases o<;>try (cases met.getLast?<;>rfl)
   rename_i fr nk es;cases fr
   ·cases met.getLast?<;>simp
   ·cases met.getLast? with
    | none=>simp
    | some i =>
     simp only;apply propext;cases hp:es[i]? with
     | none =>
      refine⟨fun h=>h.2.elim,?_⟩;rintro⟨_,i',p',h1,h2,_⟩;have h1:=jAz h1;subst h1;rw[hp]at h2;exact absurd h2 (by simp)
     | some p =>
      refine⟨fun h=>⟨trivial,i,p,rfl,hp,h.1,h.2⟩,?_⟩;rintro⟨_,i',p',h1,h2,h3,h4⟩;have h1:=jAz h1;subst h1;rw[hp]at h2;have h2:=jAz h2;subst h2;exact⟨h3,h4⟩
@[simp] theorem qIM {sz:Nat}{zs:List Value}{l n o k c:Nat}:zBh (.clr sz zs) [.win l n o k c] K σ = (match σ[l]? with
 | some (.row fz e s m cs)=>(n=m∧s=sz∧fz=false∧o+k*sz≤cs.length)∧K (.tup []) (σ.set l (.row false e sz n (cs.take o++(List.replicate k (zs.map qN)).flatten++cs.drop (o+k*sz))))
 | _=>False):=rfl
@[simp] theorem qIR {e:TypeId}{sz bytes:Nat}{zs:List Value}{k k':IntKind}{n c:Int}:zBh (.mks e sz bytes zs) [.lit (.int k n),.lit (.int k' c)] K σ = ((0≤n∧c=n∧n≤1000000000000∧bytes*n.toNat≤281474976710656)∧K (.row σ.length n.toNat) (σ++[.row false e sz n.toNat ((List.replicate n.toNat (zs.map qN)).flatten)])):=rfl
@[simp] theorem qIN {k k':IntKind}{n:Int}:zBh (.cvt k) [.lit (.int k' n)] K σ = K (.lit (.int k (k.wrap n))) σ:=rfl
@[simp] theorem qE0 {n:Nat}{cs:List A}:zBh .str [.fsl n cs] K σ = (match zGO cs with
 | some xs=>(xs.length=n∧n≠0)∧K (.lit (.string (strOfNums xs))) σ
 | none=>False):=rfl
@[simp] theorem qEz {xs:List A}:zBh .boom xs K σ = False:=by cases xs<;>rfl
@[simp] theorem qMo {rf:Bool→Nat→Nat→A}{g:Nat→Option Nat}(ks:List Int):vw rf g (zJI ks)=zJI ks:=by
 have:∀ks:List Int,vwL rf g (ks.map fun n=>A.lit (.int .i64 n))=ks.map fun n=>A.lit (.int .i64 n):=fun ks=>by
  induction ks with
  | nil=>rfl
  | cons k ks ih=>simp[vwL,ih]
 match ks with
 | []=>simp[zJI]
 | [n]=>simp[zJI]
 | a::b::ks=>simp only[zJI,qDw,this]
end
end Go.Abs
namespace Go.Abs
attribute [simp] A.bnd zAZ AObj.bnd zF9
@[simp] theorem qMK {b k:Nat}:(yv b).bnd k=true:=rfl
section
variable {P:Program}{Qp:Value→Env→St→Prop}{Qd:Value→St→Prop}{K':Env→St→Prop}{env:Env} {σ : St}{d:Option Nat}{x:Operand}
def qCw:A→Option Int
 | .lit (.int _ j)=>some j
 | _=>none
@[simp] theorem qIE {k:IntKind}{j:Int}:qCw (.lit (.int k j))=some j:=rfl
@[simp] theorem zZL {n:Nat}:qB env n none=some (n:Int):=rfl
@[simp] theorem zZM {n:Nat}:qB env n (some x)=qCw (ev env x):=by
 simp only[qB,qCw];cases ev env x with
 | lit u=>cases u<;>rfl
 | _=>rfl
def zDL (a b:Option Int)(J:Int→Int→Prop):Prop:=match a,b with
 | some l,some h=>J l h
 | _,_=>False
@[simp] theorem qBr {l h:Int}{J:Int→Int→Prop}:zDL (some l) (some h) J=J l h:=rfl
def zWS (a:A)(lo:Option Int)(hi:Nat→Option Int)(sz:Nat)(J:A→Prop):Prop:=match a with
 | .sl n cs=>zDL lo (hi n) fun l h=>(0≤l∧l≤h∧h≤n)∧J (.sl (h-l).toNat ((cs.drop (l.toNat*sz)).take ((h-l).toNat*sz)))
 | .fsl n cs=>zDL lo (hi n) fun l h=>(0≤l∧l≤h∧h≤n)∧J (.sl (h-l).toNat ((cs.drop (l.toNat*sz)).take ((h-l).toNat*sz)))
 | .nil=>zDL lo (hi 0) fun l h=>(l=0∧h=0)∧J .nil
 | _=>False
@[simp] theorem qLU {n:Nat}{cs:List A}{lo:Option Int}{hi:Nat→Option Int}{sz:Nat}{J:A→Prop}:zWS (.sl n cs) lo hi sz J=zDL lo (hi n) fun l h=>(0≤l∧l≤h∧h≤n)∧J (.sl (h-l).toNat ((cs.drop (l.toNat*sz)).take ((h-l).toNat*sz))):=rfl
@[simp] theorem qJD {n:Nat}{cs:List A}{lo:Option Int}{hi:Nat→Option Int}{sz:Nat}{J:A→Prop}:zWS (.fsl n cs) lo hi sz J=zDL lo (hi n) fun l h=>(0≤l∧l≤h∧h≤n)∧J (.sl (h-l).toNat ((cs.drop (l.toNat*sz)).take ((h-l).toNat*sz))):=rfl
@[simp] theorem qJE {lo:Option Int}{hi:Nat→Option Int}{sz:Nat}{J:A→Prop}:zWS .nil lo hi sz J=zDL lo (hi 0) fun l h=>(l=0∧h=0)∧J .nil:=rfl
@[simp] theorem qMH {sz:Nat}{lo hi:Option Operand}:wpO P Qp K' (.slc d x sz lo hi none) env σ = zWS (ev env x) (qB env 0 lo) (fun n=>qB env n hi) sz fun r=>K' (env.put d r) σ:=by
 show qQ (zG env σ (.slc d x sz lo hi none)) _=_;simp only[zG,zWS];generalize ev env x=a;cases a<;>try rfl
 all_goals
  simp only[zDL];generalize qB env _ lo=u;generalize qB env _ hi=v;cases u<;>cases v<;>rfl
def zFw (o:Option AObj)(n sz:Nat)(J:Prop):Prop:=match o with
 | some (.row _ _ s m _)=>if n=m∧s=sz then J else False
 | _=>False
@[simp] theorem qCV {fz:Bool}{e s n m sz:Nat}{cs:List A}{J:Prop}:zFw (some (.row fz e s m cs)) n sz J=((n=m∧s=sz)∧J):=by simp only[zFw];by_cases h:n=m∧s=sz<;>simp[h]
def zMU (σ : St)(a:A)(lo:Option Int)(hi:Nat→Option Int)(sz:Nat)(J:A→Prop):Prop:=match a with
 | .row l n=>zFw σ[l]? n sz (zDL lo (hi n) fun l' h=>(0≤l'∧l'≤h∧h≤n)∧J (.win l n (l'.toNat*sz) (h-l').toNat sz))
 | .win l n o k c=>zFw σ[l]? n sz (zDL lo (hi k) fun l' h=>((0≤l'∧l'≤h∧h≤k)∧c=sz)∧J (.win l n (o+l'.toNat*sz) (h-l').toNat sz))
 | _=>False
@[simp] theorem qES {l n:Nat}{lo:Option Int}{hi:Nat→Option Int}{sz:Nat}{J:A→Prop}:zMU σ (.row l n) lo hi sz J=zFw σ[l]? n sz (zDL lo (hi n) fun l' h=>(0≤l'∧l'≤h∧h≤n)∧J (.win l n (l'.toNat*sz) (h-l').toNat sz)):=rfl
@[simp] theorem qET {l n o k c:Nat}{lo:Option Int}{hi:Nat→Option Int}{sz:Nat}{J:A→Prop}:zMU σ (.win l n o k c) lo hi sz J=zFw σ[l]? n sz (zDL lo (hi k) fun l' h=>((0≤l'∧l'≤h∧h≤k)∧c=sz)∧J (.win l n (o+l'.toNat*sz) (h-l').toNat sz)):=rfl
theorem zMV {sz:Nat}{lo hi:Option Operand}{J:A→Prop}:qQ (zG env σ (.rslc d x sz lo hi)) J=zMU σ (ev env x) (qB env 0 lo) (fun n=>qB env n hi) sz J:=by
 simp only[zG,zMU];generalize ev env x=a;have key:∀(ob:Option AObj) (n k:Nat) (f:Int→Int→Prop×A),qQ (match ob with
  | some (.row _ _ s m _)=>if n=m∧s=sz then (match qB env 0 lo,qB env k hi with
   | some l',some h=>some (f l' h)
   | _,_=>none) else none
  | _=>none) J=zFw ob n sz (zDL (qB env 0 lo) (qB env k hi) fun l' h=>(f l' h).1∧J (f l' h).2):=by
  intro ob n k f;simp only[zFw,zDL];cases ob with
  | none=>rfl
  | some ob =>
   cases ob<;>try rfl
   simp only;split
   ·generalize qB env 0 lo=u;generalize qB env k hi=v;cases u<;>cases v<;>rfl
   ·rfl
 cases a<;>try rfl
 ·rename_i l n;exact key σ[l]? n n fun l' h=>(0≤l'∧l'≤h∧h≤n,.win l n (l'.toNat*sz) (h-l').toNat sz)
 ·rename_i l n o k c;exact key σ[l]? n k fun l' h=>((0≤l'∧l'≤h∧h≤k)∧c=sz,.win l n (o+l'.toNat*sz) (h-l').toNat sz)
@[simp] theorem qKq {sz:Nat}{lo hi:Option Operand}:wpO P Qp K' (.rslc d x sz lo hi) env σ = zMU σ (ev env x) (qB env 0 lo) (fun n=>qB env n hi) sz fun r=>K' (env.put d r) σ:=zMV (d:=d)
@[simp] theorem qD8 {fl sz:Nat}{lo hi:Option Operand}:jE P Qd fl K' (.rslc d x sz lo hi) env σ = zMU (zCS fl σ) (ev env x) (qB env 0 lo) (fun n=>qB env n hi) sz fun r=>K' (env.put d r) σ:=zMV (d:=d)
@[simp] theorem qIm {sz l n:Nat}{k:IntKind}{j:Int}{J:A→Prop}:zFT σ sz (.row l n) (.lit (.int k j)) J=zFw σ[l]? n sz ((0≤j∧j<n)∧J (.rwp l n (j.toNat*sz))):=by
 simp only[zFT,zFw];cases σ[l]? with
 | none=>rfl
 | some o=>cases o<;>rfl
@[simp] theorem qIn {sz l n o k' c:Nat}{k:IntKind}{j:Int}{J:A→Prop}:zFT σ sz (.win l n o k' c) (.lit (.int k j)) J=zFw σ[l]? n sz ((0≤j∧j<k')∧J (.rwp l n (o+j.toNat*sz))):=by
 simp only[zFT,zFw];cases σ[l]? with
 | none=>rfl
 | some o=>cases o<;>rfl
def zJ3 (o:Option AObj)(n:Nat)(J:Prop):Prop:=match o with
 | some (.row _ _ _ m _)=>if n=m then J else False
 | _=>False
@[simp] theorem qCU {fz:Bool}{e s n m:Nat}{cs:List A}{J:Prop}:zJ3 (some (.row fz e s m cs)) n J=(n=m∧J):=by simp only[zJ3];by_cases h:n=m<;>simp[h]
@[simp] theorem qIB {l n:Nat}{J:A→Prop}:zF1 σ (.row l n) J=zJ3 σ[l]? n (J (.lit (.int .i64 n))):=by
 simp only[zF1,zJ3];cases σ[l]? with
 | none=>rfl
 | some o=>cases o<;>rfl
@[simp] theorem qIC {l n o k c:Nat}{J:A→Prop}:zF1 σ (.win l n o k c) J=zJ3 σ[l]? n (J (.lit (.int .i64 k))):=by
 simp only[zF1,zJ3];cases σ[l]? with
 | none=>rfl
 | some o=>cases o<;>rfl
@[simp] theorem qI8 {l n o k c:Nat}{J:A→Prop}:zLH σ (.win l n o k c) J=zJ3 σ[l]? n (J (.lit (.int .i64 k))):=by
 simp only[zLH,zJ3];cases σ[l]? with
 | none=>rfl
 | some o=>cases o<;>rfl
def zUT (ob:Option AObj)(l n o off:Nat):Option A:=match ob with
 | some (.row _ _ _ m _)=>if n=m then some (.rwp l n (o+off)) else none
 | _=>none
@[simp] theorem qBi {fz:Bool}{e s n m l o off:Nat}{cs:List A}:zUT (some (.row fz e s m cs)) l n o off=if n=m then some (.rwp l n (o+off)) else none:=rfl
@[simp] theorem qDG {l n o off:Nat}:zH1 σ off (.rwp l n o)=zUT σ[l]? l n o off:=by
 simp only[zH1,zUT];cases σ[l]? with
 | none=>rfl
 | some o=>cases o<;>rfl
end
mutual
theorem zL1 {rf:Bool→Nat→Nat→A}{g:Nat→Option Nat}{k:Nat}(hg:∀l,l<k→g l=some l):∀(a:A),a.bnd k=true→vw rf g a=a
 | .any,_=>by simp
 | .nil,_=>by simp
 | .lit _,_=>by simp
 | .agg cs,h=>by simp[zC6 hg cs h]
 | .tup cs,h=>by simp[zC6 hg cs h]
 | .sl _ cs,h=>by simp[zC6 hg cs h]
 | .fsl _ cs,h=>by simp[zC6 hg cs h]
 | .rptr cs,h=>by simp[zC6 hg cs h]
 | .ptr l _,h=>by simp[hg l (by simpa using h)]
 | .row l _,h=>by simp[hg l (by simpa using h)]
 | .rwp l _ _,h=>by simp[hg l (by simpa using h)]
 | .win l _ _ _ _,h=>by simp[hg l (by simpa [A.bnd] using h)]
 | .map l,h=>by simp only[vw]; rw[hg l (by simpa using h)]
 | .clo _ fs cs,h=>by simp only[A.bnd,jA4]at h;simp[zC6 hg fs h.1,zC6 hg cs h.2]
theorem zC6 {rf:Bool→Nat→Nat→A}{g:Nat→Option Nat}{k:Nat}(hg:∀l,l<k→g l=some l):∀(cs:List A),zAZ k cs=true→vwL rf g cs=cs
 | [],_=>by simp
 | c::cs,h=>by simp only[zAZ,jA4]at h;simp[zL1 hg c h.1,zC6 hg cs h.2]
end
theorem zOf {rf:Bool→Nat→Nat→A}{g:Nat→Option Nat}{k:Nat}(hg:∀l,l<k→g l=some l)(o:AObj)(h:o.bnd k=true):vwO rf g o=o:=by
 cases o with
 | dead=>rfl
 | box cs=>simp only[AObj.bnd]at h; simp[zC6 hg cs h]
 | row fz e sz n cs=>simp only[AObj.bnd]at h; simp[zC6 hg cs h]
 | lp b r M es =>
  simp only[AObj.bnd,jAx]at h;simp only[qDu,AObj.lp.injEq,true_and]
  conv=>rhs; rw[←List.map_id es]
  exact jBr fun p hp=>by rw[zL1 hg _ (h p hp)]; rfl
 | mp fr nk es =>
  simp only[AObj.bnd,jAx]at h;simp only[qDv,AObj.mp.injEq,true_and]
  conv=>rhs; rw[←List.map_id es]
  exact jBr fun p hp=>by rw[zL1 hg _ (h p hp)]; rfl
 | it m n met =>
  simp only[AObj.bnd,decide_eq_true_eq]at h;rw[qDt,hg m h]
 | rsv=>rfl
theorem zIR:∀{l:List Nat} {x:Nat} {r:List Nat},x∉l→zW (l++r) x=(zW r x).map (· + l.length)
 | [],x,r,_=>by simp
 | y::l,x,r,h=>by
  simp only[jA6,not_or]at h;simp only[jB9,zHr,h.1,if_false,zIR h.2,Option.map_map]
  congr 1
theorem zHq:∀{l:List Nat} {x i:Nat} {r:List Nat},zW l x=some i→zW (l++r) x=some i
 | [],x,i,r,h=>by simp at h
 | y::l,x,i,r,h=>by
  simp only[jB9,zHr]at h⊢;split
  ·rename_i e; simpa [e] using h
  ·rename_i e;simp only[e,if_false,jAb]at h;obtain⟨j,hj,rfl⟩:=h;rw[zHq hj]; rfl
theorem zGe:∀{k l:Nat},l<k→zW (List.range k) l=some l
 | k+1,l,h=>by
  rw[List.range_succ];rcases jAn l k with hl | hl
  ·exact zHq (zGe hl)
  ·have e:l=k:=by omega
   subst e;rw[zIR (by simp)];simp
def Cl (m:Nat)(S:St):Prop:=S.length=m∧∀o∈S,o.bnd m=true
theorem Cl.app {m k:Nat}{S own:St}(h:Cl m S)(hk:own.length=k)(ho:∀o∈own,o.bnd (m+k)=true):Cl (m+k) (S++own):=by
 refine⟨by simp[h.1,hk],fun o hm=>?_⟩;rcases jAj.1 hm with hm | hm
 ·exact AObj.bnd_mono (Nat.le_add_right m k) _ (h.2 o hm)
 ·exact ho o hm
section
variable {P:Program}{n0:Nat}{Qp:Value→Env→St→Prop}{Qd:Value→St→Prop}{K':Env→St→Prop}{KD:Env→Prop}{Q:Ex→Env→St→Prop}{env:Env} {σ : St}{d:Option Nat}
theorem yV {m k:Nat}{S own:St}(h:S.length=m):(S++own)[m+k]?=own[k]?:=by rw[jAo (by omega)]; congr 1; omega
theorem zAe {m:Nat}{S own:St}(h:S.length=m):(S++own)[m]?=own[0]?:=by rw[jAo (by omega)]; congr 1; omega
theorem zAB {m k:Nat}{S own:St}{o:AObj}(h:S.length=m):(S++own).set (m+k) o=S++own.set k o:=by rw[List.set_append_right _ _ (by omega)]; congr 2; omega
theorem zIk {m:Nat}{S own:St}{o:AObj}(h:S.length=m):(S++own).set m o=S++own.set 0 o:=by rw[List.set_append_right _ _ (by omega)]; congr 2; omega
theorem zLt {rf:Bool→Nat→Nat→A}{g:Nat→Option Nat}{m:Nat}(hg:∀l,l<m→g l=some l) {σ : St}:∀(k:Nat) (S:St),k+S.length≤m→(∀i o,S[i]?=some o→σ[k+i]?=some o)→(∀o∈S,o.bnd m=true)→yL σ rf g (List.range' k S.length) S
 | _,[],_,_,_=>trivial
 | k,o::S,hk,h,hb=>by simp only[jAl,List.range'_succ,zRI];refine⟨?_,zLt hg (k+1) S (by simp only[jAl]at hk; omega) (fun i o' hi=>by have:=h (i+1) o' (by simpa using hi); rwa [show k+1+i=k+(i+1) by omega]) (fun o' ho'=>hb o' (jAf _ ho'))⟩;have:=h 0 o (by simp);simp only[jBn]at this;rw[this];exact .inl (zOf hg o (hb o (jAk ..))).symm
theorem zSO {rf:Bool→Nat→Nat→A}{m:Nat}{S own:St}(h:Cl m S):yL (S++own) rf (zW (List.range m)) (List.range m) S:=by have:=zLt (rf:=rf) (g:=zW (List.range m)) (m:=m) (fun l hl=>zGe hl) (σ:=S++own) 0 S (by rw[h.1]; omega) (fun i o hi=>by rw[jAr,jAc (jA1.1 hi).1]; exact hi) h.2;rw[h.1,←List.range_eq_range']at this;exact this
theorem zJd:∀{k j n l:Nat},l<k→back (List.range' j k) n l=j+l
 | k+1,j,n,0,_=>by simp[List.range'_succ]
 | k+1,j,n,l+1,h=>by simp only[List.range'_succ,zTb];rw[zJd (by omega)]; omega
theorem zKc {k n l:Nat}(h:l<k):back (List.range k) n l=l:=by rw[List.range_eq_range',zJd h]; omega
theorem zHv:∀{S' S own:St} (k:Nat) (pre:St),pre.length=k→S'.length=S.length→qL (pre++S++own) (List.range' k S.length) S'=pre++S'++own
 | [],[],own,k,pre,_,_=>by simp
 | o'::S',o::S,own,k,pre,hk,hl=>by
  simp only[jAl,List.range'_succ,zJ1];have e:(pre++(o::S)++own).set k o'=(pre++[o'])++S++own:=by subst hk;simp
  rw[e,zHv (k+1) (pre++[o']) (by simp[hk]) (by simpa using hl)];simp
 | [],o::S,_,_,_,_,hl=>by simp at hl
 | _::_,[],_,_,_,_,hl=>by simp at hl
theorem zI2 {b m:Nat}{S S' own:St}{x args:List A}(h:Cl m S)(h':Cl m S')(hy:zCp P b x S fun o τ=>o=.ret (.lit (.bool true))∧τ = S')(ha:zBu (List.range m) args x){Q:Out→St→Prop}(hq:Q (.ret (.lit (.bool true))) (S'++own)) :
 zCp P b args (S++own) Q:=by
 refine zTi hy (List.range m) List.nodup_range (zSO h) ha ?_;have e:S'.map (zA9 (List.range m) (S++own).length)=S':=by
  conv=>rhs; rw[←List.map_id S']
  exact jBr fun o ho=>by simp only[zA9,id];exact zOf (fun l hl=>by rw[zKc hl]) o (h'.2 o ho)
 rw[e];have:=zHv (own:=own) 0 [] rfl (by rw[h.1,h'.1]:S'.length=S.length);rw[h.1,←List.range_eq_range']at this;simp only[jC8]at this;rw[this]
 simpa [ren] using hq
theorem zYE {H:Mem}{L:List LI}{w:World}(hs:RelSt H L σ w){l n:Nat}{e:TypeId}{sz:Nat}{cs:List A}{v:Value}(hσ : σ[l]?=some (.row false e sz n cs))(hv:Rel H L (.row l n) v) :
 ∃H',Nxt H L w H' L (σ.set l (.row true e sz n cs)) w∧Rel H' L (.sl n cs) v:=by
 simp only[Rel]at hv;obtain⟨_,li,e1,e2,e3,hv⟩:=hv;have hob:=hs.obj l li _ e1 hσ;simp only[zL]at hob;obtain⟨_,hln,hcl,hob⟩:=hob;have hv:=hv hln.symm;rcases hob with ⟨hb,h0⟩ | ⟨b,cur,hb,hh,k1,k2,k3,k4,k5,k6⟩
 ·rw[hb]at hv;subst h0;have hcs:cs=[]:=jBw (by simpa using hcl);refine⟨H,⟨⟨hs.pers,by simp[hs.len],fun i x o hL ho=>?_,hs.inj,hs.lt⟩,Step.refl _ _ _,LLe.refl _,fun _ h=>.inl h⟩,?_⟩
  ·by_cases hi:i=l
   ·subst hi;rw[e1]at hL;cases hL;rw[jAi (jA1.1 hσ).1]at ho;cases ho;simp only[zL];exact⟨e2,hln,hcl,.inl ⟨hb,trivial⟩⟩
   ·rw[jA8 (Ne.symm hi)]at ho;exact hs.obj i x o hL ho
  ·simp only[Rel];exact⟨none,0,hv,jA _,jAv _,.inl ⟨trivial,hcs⟩⟩
 ·rw[hb]at hv;have hcell:∀(j:Nat) u,(cur.toList.take (n*sz))[j]?=some u→w.cell? ⟨b,j,none⟩=some u:=fun j u hu=>by
   rw[cell_of_row w b j cur e (0,0) hh];rw[jB5]at hu;split at hu
   ·simpa using hu
   ·cases hu
  have hA:=zEX (H:=H) (B:=b) (us:=cur.toList.take (n*sz)) (fun o v hv'=>by rw[k6]at hv'; cases hv');have hle:HLe H (zLD H b (cur.toList.take (n*sz))):=fun b' o' v' hv'=>by
   simp only[hA];split
   ·rename_i e; subst e; rw[k6]at hv'; cases hv'
   ·exact hv'
  have hat:At (zLD H b (cur.toList.take (n*sz))) b 0 (cur.toList.take (n*sz)):=fun i u hu=>by simp[hA,hu]
  refine⟨zLD H b (cur.toList.take (n*sz)),zG3 hs e1 hb rfl rfl rfl rfl (fun d=>by rw[hh]; simp) rfl (fun _ _=>rfl) hle (fun b' o' v' hv'=>?_) (fun o' v' hv'=>?_) ?_,?_⟩
  ·simp only[hA]at hv';split at hv'
   ·rename_i e; exact .inr e
   ·exact .inl hv'
  ·simp only[hA,if_true]at hv';exact hcell _ _ hv'
  ·simp only[zL];refine⟨e2,hln,hcl,.inr ⟨b,cur,hb,hh,k1,k2,k3,zN.mono hle (LLe.refl _) _ k4,k5,hat,fun o ho=>?_⟩⟩;simp only[hA,if_true];rw[jB6];simp only[jB2];omega
  ·simp only[Rel];exact⟨_,_,hv,k1,k2,.inr ⟨b,0,_,rfl,zN.mono hle (LLe.refl _) _ k4,k5,hat⟩⟩
theorem zTj {b l n:Nat}{e:TypeId}{sz:Nat}{cs:List A}(hσ : σ[l]?=some (.row false e sz n cs)){Q:Out→St→Prop}(h:zCp P b [.sl n cs] (σ.set l (.row true e sz n cs)) Q):zCp P b [.row l n] σ Q:=by intro H L w vs hs hvs;obtain⟨v,vs',rfl,h1,h2⟩:=zT hvs;have:=jF h2;subst this;obtain⟨H',hn,hr⟩:=zYE hs hσ h1;obtain⟨f,tmps,x,y,k1,k2⟩:=h H' L w [v] hn.st (qJ hr jK);refine⟨f,tmps,x,y,k1,k2.mono fun e w' hh=>?_⟩;obtain⟨o,σ',H2,L2,g1,g2,g3⟩:=hh;exact⟨o,σ',H2,L2,g1,hn.trans g2,g3⟩
theorem exY {b m k n:Nat}{S S' own:St}{e:TypeId}{sz:Nat}{cs:List A}{J:A→St→Prop}(ho:own[k]?=some (.row false e sz n cs))(h:Cl m S)(h':Cl m S')(hc:zAZ 0 cs=true)
 (hy:zCp P b [.sl n cs] S fun o τ=>o=.ret (.lit (.bool true))∧τ = S')(hq:J (.lit (.bool true)) (S'++own.set k (.row true e sz n cs))) :
 ∃r σ',(zCp P b [.row (m+k) n] (S++own) fun o τ=>o=.ret r∧τ = σ')∧J r σ':=by
 refine⟨_,_,zTj (by rw[yV h.1]; exact ho) ?_,hq⟩;rw[zAB h.1];exact zI2 h h' hy (by simp[zC6 (k:=0) (fun l hl=>by omega) cs hc]) ⟨rfl,rfl⟩
theorem zIU {H:Mem}{L:List LI}{w:World}(hs:RelSt H L σ w){l:Nat}{o o':AObj}(hl : σ[l]?=some o)(h:∀li,zL H L w li o→zL H L w li o'):RelSt H L (σ.set l o') w:=by
 refine⟨hs.pers,by simp[hs.len],fun i x p hL hp=>?_,hs.inj,hs.lt⟩;by_cases hi:i=l
 ·subst hi;rw[jAi (jA1.1 hl).1]at hp;cases hp;exact h x (hs.obj i x o hL hl)
 ·rw[jA8 (Ne.symm hi)]at hp;exact hs.obj i x p hL hp
theorem zBj {l o:Nat}{cs:List A}(hl : σ[l]?=some (.box cs))(hc:cs[o]?=some .nil)(e:TypeId)(sz:Nat):zA0 n0 env (σ.set l (.box (cs.set o (.row σ.length 0)))++[AObj.row false e sz 0 []]) env σ:=by
 intro H0 L0 w0 H L w N tmps h0 h1 h2;have hn:=zCh h1.st e sz;have hlt:l < σ.length:=(jA1.1 hl).1;have hl':(σ++[AObj.row false e sz 0 []])[l]?=some (.box cs):=by rw[jAc hlt]; exact hl
 have hs:=zIU (o':=.box (cs.set o (.row σ.length 0))) hn.st hl' (fun li hob=>by
  simp only[zL]at hob ⊢;obtain⟨g0,b,vs,e',g1,g2,g3,g4,g5⟩:=hob;obtain⟨v,hv,hrel⟩:=g3.get hc;simp only[Rel]at hrel;subst hrel;have hset:vs=vs.set o (.slice none 0 0):=by
   apply jC4;intro i;by_cases hi:i=o
   ·subst hi; rw[jAi (jA1.1 hv).1,hv]
   ·rw[jA8 (Ne.symm hi)]
  refine⟨g0,b,vs,e',g1,g2,?_,g4,g5⟩;rw[hset];refine g3.set o ?_;simp only[Rel];exact⟨rfl,⟨none,0,0,true⟩,by rw[←h1.st.len]; simp,rfl,jA _,fun _=>rfl⟩)
 rw[List.set_append_left _ _ hlt]at hs;have hm:=h1.trans hn;exact⟨H,_,⟨hs,hm.step,hm.lle,hm.own⟩,h2.1,fun x=>Rel.mono (HLe.refl _) hn.lle _ (h2.2 x)⟩
theorem zNw {K:Env→St→Prop}{f:FuncId}{args args':List A}{r:A} {σ1:St}(h:Ret P f args [] r σ1)(ha:zBu [] args' args)(hq:K (env.put d (ren [] σ.length r)) (σ++σ1.map (zA9 [] σ.length))):zIt P σ d K f args' env :=
 ⟨_,_,zAg.append _ _,zAH h [] (by simp) trivial ha ⟨rfl,by simp⟩,hq⟩
theorem zIi {rf:Bool→Nat→Nat→A}{g:Nat→Option Nat} {σ τ : St}(hk:zBk σ τ):∀{js:List Nat} {os:St},(∀o∈os,o≠AObj.rsv)→yL σ rf g js os→yL τ rf g js os
 | [],[],_,h=>h
 | j::js,o::os,hn,h=>by
  simp only[yL]at h⊢;cases hj : σ[j]? with
  | none=>rw[hj]at h; exact h.1.elim
  | some x =>
   rw[hj]at h;have hx:x≠AObj.rsv:=fun e=>by
    subst e;rcases h.1 with e | e
    ·exact hn o (jAk ..) (by simpa [vwO] using e)
    ·exact hn o (jAk ..) (by simpa [vwO] using e)
   rw[hk j x hj hx];exact⟨h.1,zIi hk (fun o ho=>hn o (jAf _ ho)) h.2⟩
 | [],_::_,_,h=>h
 | _::_,[],_,h=>h
theorem zMQ {c:Nat}:∀{js:List Nat} {σ s1:St},(∀j∈js,j<c)→(∀j∈js,j < σ.length)→s1.length=js.length→KA c σ (qL σ js s1)
 | [],σ,s1,_,_,hl=>by
  have:s1=[]:=jBw hl;subst this
  simpa [qL] using KA.refl c σ
 | j::js,σ,o::s1,hc,hj,hl=>by have h1:=hc j (jAk ..);have ih:=zMQ (c:=c) (js:=js) (σ:=σ.set j o) (s1:=s1) (fun i hi=>hc i (jAf _ hi)) (fun i hi=>by rw[jBl]; exact hj i (jAf _ hi)) (by simpa using hl);intro l cs hle hσ;exact ih l cs hle (by rw[jA8 (by omega)]; exact hσ)
 | _::_,_,[],_,_,hl=>by simp at hl
theorem zMZ {rf:Bool→Nat→Nat→A}{g:Nat→Option Nat} {σ : St}:∀{js:List Nat} {os:St},(∀o∈os,o≠AObj.rsv)→yL σ rf g js os→∀j∈js,∃x,σ[j]?=some x∧x≠AObj.rsv
 | [],_,_,_,j,hj=>by cases hj
 | _::_,[],_,h,_,_=>h.elim
 | i::js,o::os,hn,h,j,hj=>by
  simp only[yL]at h;rcases jA6.1 hj with rfl | hj
  ·cases hx : σ[j]? with
   | none=>rw[hx]at h; exact h.1.elim
   | some x =>
    rw[hx]at h;refine⟨x,rfl,fun e=>?_⟩;subst e;rcases h.1 with e | e
    ·exact hn o (jAk ..) (by simpa [vwO] using e)
    ·exact hn o (jAk ..) (by simpa [vwO] using e)
  ·exact zMZ (fun o ho=>hn o (jAf _ ho)) h.2 j hj
theorem zUt {js:List Nat}{n:Nat}{o:AObj}(h:o≠AObj.rsv):zA9 js n o≠AObj.rsv:=by cases o<;>first | (exact(h rfl).elim) | (simp only[zA9,vwO]; first | (split<;>simp) | simp)
theorem zLi:∀{js:List Nat} {s vs:St} {q:Nat},(∀o∈vs,o≠AObj.rsv)→vs.length=js.length→(qL s js vs)[q]?=some AObj.rsv→s[q]?=some AObj.rsv
 | [],s,[],q,_,_,h=>by simpa [qL] using h
 | [],_,_::_,_,_,hl,_=>by simp at hl
 | _::_,_,[],_,_,hl,_=>by simp at hl
 | j::js,s,o::vs,q,hn,hl,h=>by
  have h2:(s.set j o)[q]?=some AObj.rsv:=zLi (js:=js) (fun x hx=>hn x (jAf _ hx)) (by simpa using hl) h;by_cases e:q=j
  ·subst e;rcases jAn q s.length with hlt | hge
   ·rw[jAi hlt]at h2;cases h2;exact(hn _ (jAk ..) rfl).elim
   ·rw[jB6 (by simpa using hge)]at h2; cases h2
  ·rw[jA8 (Ne.symm e)]at h2;exact h2
theorem zLj:∀{js:List Nat} {s vs:St} {q:Nat} {o:AObj},q∉js→vs.length=js.length→qL (s.set q o) js vs=(qL s js vs).set q o
 | [],s,[],q,o,_,_=>by simp[qL]
 | [],_,_::_,_,_,_,hl=>by simp at hl
 | _::_,_,[],_,_,_,hl=>by simp at hl
 | j::js,s,x::vs,q,o,hq,hl=>by
  have hne:q≠j:=fun e=>hq (by simp[e])
  show qL ((s.set q o).set j x) js vs=(qL (s.set j x) js vs).set q o;rw[List.set_comm _ _ hne];exact zLj (fun h=>hq (jAf _ h)) (by simpa using hl)
theorem zSm {K:Env→St→Prop}{f:FuncId}{args args':List A}{r:A}{s0 s1:St}(h:Ret P f args s0 r s1)(js:List Nat)(hjs:js.Nodup)(hn0:∀o∈s0,o≠AObj.rsv)(hn1:∀o∈s1,o≠AObj.rsv)(hd:yL σ jH (zW js) js s0)(ha:zBu js args' args)
 (hl:s1.length=js.length)(hq:K (env.put d (ren js σ.length r)) (qL σ js (s1.map (zA9 js σ.length)))):zL4 P σ d K f args' env:=by
 have hn1':∀o∈s1.map (zA9 js σ.length),o≠AObj.rsv:=fun o ho=>by obtain⟨x,hx,rfl⟩:=jAg.1 ho;exact zUt (hn1 x hx)
 refine⟨ren js σ.length r,fun τ=>qL τ js (s1.map (zA9 js σ.length)),⟨fun q hq=>zLi hn1' (by simpa using hl) hq,fun τ q o _ _ hq=>zLj (fun hm=>?_) (by simpa using hl)⟩,fun τ hlt hk=>?_,hq⟩
 ·obtain⟨x,hx,hne⟩:=zMZ hn0 hd q hm;rw[hq]at hx;cases hx;exact hne rfl
 ·rw[←hlt];exact zAH h js hjs (zIi hk hn0 hd) ha ⟨rfl,rfl⟩
theorem zAK {K:Env→St→Prop}{f:FuncId}{args args':List A}{r:A}{s0 s1:St}(h:Ret P f args s0 r s1)(js:List Nat)(hjs:js.Nodup)(hd:yL σ jH (zW js) js s0)(ha:zBu js args' args)
 (hq:K (env.put d (ren js σ.length r)) (qL σ js (s1.map (zA9 js σ.length)))):zIv P σ d K f args' env:=⟨_,_,zAH h js hjs hd ha ⟨rfl,rfl⟩,hq⟩
theorem zBq {K:Env→St→Prop}{c:Nat}{f:FuncId}{args args':List A}{r:A}{s0 s1:St}(h:Ret P f args s0 r s1)(js:List Nat)(hjs:js.Nodup)(hd:yL σ jH (zW js) js s0)(ha:zBu js args' args)
 (hc:∀j∈js,j<c)(hlt:∀j∈js,j < σ.length)(hl:s1.length=js.length)(hq:K (env.put d (ren js σ.length r)) (qL σ js (s1.map (zA9 js σ.length)))):zL3 P c σ d K f args' env :=
 ⟨_,_,zMQ hc hlt (by simpa using hl),zAH h js hjs hd ha ⟨rfl,rfl⟩,hq⟩
theorem zNV {m:Nat}{S own:St}{r:A}(h:Cl m S)(hr:r.bnd 0=true):zFz m r S (.ret r) (S++own) :=
 zI (List.range m) 0 (fun i hi=>by simp[hi]) List.nodup_range (zSO h) (.inl (zL1 (k:=0) (fun l hl=>by omega) r hr).symm)
theorem zFV {g:FuncId}{first cap:List A}{X:List (List A)}(h:∀(b m:Nat)(T:Nat→St),(∀i,i≤X.length→Cl m (T i))→(∀i (h:i<X.length),zCp P b X[i] (T i) fun o τ=>o=.ret (.lit (.bool true))∧τ = T (i+1)) →
 Ret P g (first++[yv b]++cap) (T 0) (.tup []) (T X.length)):zSb P g first cap X:=fun b m T hT hY=>yY.mono (h b m T hT hY) fun _ _ ⟨h1,h2⟩=>⟨⟨_,h1⟩,h2⟩
end
end Go.Abs
