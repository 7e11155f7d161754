/-
  Contracts of functions that work on some objects, and how a call meets them in any state.
  Rules for simp on levels and contracts; the steps that a prover takes at calls, loops and returns.
  Calls in regions that draw: of functions that work on objects of the caller's, and beside growing operations.
  Rules for simp: the operations on maps, and the look whether a pointer is nil.
  States that begin with a caller's, of a length that is not written out; calls of a yield; rows that are frozen; growing calls in regions that draw.
  IDs: how they are compared, and lists of them.
-/
import Derived.Test.YtdnelmeboihpkaaGreatDoorX8
import Derived.Test.YtdnelmeboihpkaaGreatDoorRows
import Derived.IntWalk
set_option linter.unusedVariables false
set_option maxHeartbeats 8000000
set_option maxRecDepth 100000
set_option linter.unusedSimpArgs false
open Go.Proofs.Tryz (prog)
namespace Go.Abs
def Ret (P:Program)(f:FuncId)(args:List A) (σ0:St)(r:A) (σ1:St):Prop:=yV P f args σ0 fun o σ'=>o=.ret r∧σ' = σ1
def jN:Bool→Nat→Nat→A:=fun _ _ _=>.any
def qN {α : Type}:List α→List Nat→List α→List α
 | s,[],t=>s++t
 | s,j::js,o::os=>qN (s.set j o) js os
 | s,_::_,[]=>s
theorem zCD {α : Type}:∀{js:List Nat} {s t:List α},js.length≤t.length→(qN s js t).length=s.length+(t.length-js.length)
 | [],s,t,_=>by simp[qN]
 | j::js,s,[],h=>by simp at h
 | j::js,s,o::os,h=>by simp only[qN,jAl]at h⊢;rw[zCD (by omega)];simp
theorem zEV {α : Type}:∀{js:List Nat} {s t:List α} {x:Nat},js.length≤t.length→x<s.length→x∉js→(qN s js t)[x]?=s[x]?
 | [],s,t,x,_,hx,_=>by simp[qN,jAd hx]
 | j::js,s,[],x,h,_,_=>by simp at h
 | j::js,s,o::os,x,h,hx,hn=>by simp only[qN,jAl,jA7,not_or]at h hn ⊢;rw[zEV (by omega) (by simpa using hx) hn.2,jA8 (Ne.symm hn.1)]
theorem zDj {α : Type}:∀{js:List Nat} {s t:List α} {i x:Nat},js.length≤t.length→js.Nodup→(∀y∈js,y<s.length)→js[i]?=some x→(qN s js t)[x]?=t[i]?
 | [],s,t,i,x,_,_,_,h=>by simp at h
 | j::js,s,[],i,x,h,_,_,_=>by simp at h
 | j::js,s,o::os,i,x,h,hd,hb,hi=>by
  rw[jD9]at hd;simp only[qN,jAl]at h⊢;cases i with
  | zero =>
   simp only[jAx,jA0]at hi;subst hi;have hj:=hb j (jAk ..);rw[zEV (by omega) (by simpa using hj) hd.1,jAi hj];rfl
  | succ i =>
   simp only[jBf]at hi ⊢;exact zDj (by omega) hd.2 (fun y hy=>by simpa using hb y (jAh _ hy)) hi
theorem zHk {α : Type}:∀{js:List Nat} {s t:List α} {k:Nat},js.length≤t.length→(qN s js t)[s.length+k]?=t[js.length+k]?
 | [],s,t,k,_=>by simp only[qN,jBx,jAq];rw[jAp (by omega),Nat.add_sub_cancel_left]
 | j::js,s,[],k,h=>by simp at h
 | j::js,s,o::os,k,h=>by
  simp only[qN,jAl]at h⊢;have:=zHk (js:=js) (s:=s.set j o) (t:=os) (k:=k) (by omega);rw[jBi]at this;rw[this];have e:js.length+1+k=js.length+k+1:=by omega
  rw[e,jBf]
def back (js:List Nat)(n l:Nat):Nat:=match js,l with
 | [],l=>n+l
 | j::_,0=>j
 | _::js,l+1=>back js n l
theorem zJ4:∀{js:List Nat} {n i x:Nat},js[i]?=some x→back js n i=x
 | [],n,i,x,h=>by simp at h
 | j::js,n,0,x,h=>by simpa [back] using h
 | j::js,n,i+1,x,h=>by simp only[back]; exact zJ4 (by simpa using h)
theorem zHv:∀{js:List Nat} {n k:Nat},back js n (js.length+k)=n+k
 | [],n,k=>by simp[back]
 | j::js,n,k=>by
  have e:(j::js).length+k=js.length+k+1:=by simp; omega
  rw[e];simp only[back];exact zHv
def ren (js:List Nat)(n:Nat)(a:A):A:=vw jN (fun l=>some (back js n l)) a
def qBA (js:List Nat)(n:Nat)(cs:List A):List A:=vwL jN (fun l=>some (back js n l)) cs
def zAQ (js:List Nat)(n:Nat)(o:AObj):AObj:=vwO jN (fun l=>some (back js n l)) o
def zBg (js:List Nat):List A→List A→Prop
 | [],[]=>True
 | a'::aS',a::aS=>(a=vw jN (qA js) a'∨a=nrm0 (vw jN (qA js) a'))∧zBg js aS' aS
 | _,_=>False
section
variable {P:Program}{H H':Mem}{L L':List LI} {σ : St}{w:World}
theorem zN.vw {H':Mem}{L':List LI}{w':World}{rf:Bool→Nat→Nat→A}{g:Nat→Option Nat}{li:LI}{o:AObj}(h:zN H L w li o)(hrel:∀cs vs,zQ H L cs vs→zQ H' L' (vwL rf g cs) vs)
 (hw:∀b,li.block=some b→w'.heap[b]?=w.heap[b]?)(hh:HLe H H')(hb:∀b,li.block=some b→∀o,H' b o=H b o):zN H' L' w' li (vwO rf g o):=by
 cases o with
 | dead=>trivial
 | box cs =>
  simp only[zN,vwO]at h⊢;obtain⟨h0,b,vs,e,h1,h2,h3,h4,h5⟩:=h;exact⟨h0,b,vs,e,h1,by rw[hw b h1]; exact h2,hrel _ _ h3,h4,fun o=>by rw[hb b h1]; exact h5 o⟩
 | row fz e sz n cs =>
  simp only[zN,vwO]at h⊢;obtain⟨h0,h1,h2,h3⟩:=h;refine⟨h0,h1,by rw[zHr]; exact h2,?_⟩;rcases h3 with h3 | ⟨b,cur,g1,g2,g3,g4,g5,g6,g7,g8⟩
  ·exact .inl h3
  ·refine .inr ⟨b,cur,g1,by rw[hw b g1]; exact g2,g3,g4,g5,hrel _ _ g6,g7,?_⟩;cases fz with
   | false=>exact fun o=>by rw[hb b g1]; exact g8 o
   | true=>exact⟨g8.1.mono hh,fun o ho=>by rw[hb b g1]; exact g8.2 o ho⟩
 | lp b r M es =>
  simp only[zN,vwO]at h⊢;obtain⟨h0,h1,tmps,h2,h3,h4⟩:=h;exact⟨h0,h1,tmps,by rw[hw b h1]; exact h2,h3,h4.map _ fun a v ha=>by have:=hrel [a] [v] (qH ha jF);simp only[vwL]at this;obtain⟨u,us,k1,k2,_⟩:=zS this;cases k1;exact k2⟩
 | mp fr nk es =>
  simp only[zN,vwO]at h⊢;obtain⟨h0,b,ents,ck,h1,h2,h3,h4⟩:=h;refine⟨h0,b,ents,ck,h1,by rw[hw b h1]; exact h2,zAk.map _ (fun p _ v ha=>?_) h3,h4.1,zKx h4.2⟩;have:=hrel [p.2] [v] (qH ha jF);simp only[vwL]at this;obtain⟨u,us,k1,k2,_⟩:=zS this;cases k1;exact k2
 | it m n met =>
  simp only[vwO];split
  ·rename_i i0 hi0;simp only[zN]at h⊢;obtain⟨h0,b,mb,lm,h1,h2,h3,h4,h5⟩:=h;have hp:Rel H L (.ptr m 0) (.pointer (some ⟨mb,0,none⟩)):=by simp only[Rel]; exact⟨lm,mb,h2,h3,h4,rfl⟩
   have:=hrel [_] [_] (qH hp jF);simp only[vwL,Abs.vw,hi0]at this;obtain⟨u,us,k1,k2,_⟩:=zS this;cases k1;simp only[Rel]at k2;obtain⟨lm',mb',g2,g3,g4,g5⟩:=k2;cases g5;exact⟨h0,b,mb,lm',h1,g2,g3,g4,by rw[hw b h1]; exact h5⟩
  ·trivial
 | rsv=>exact h
theorem zXE {js:List Nat} {σ0:St}(hs:RelSt H L σ w)(hd:js.Nodup)(ho:yR σ jN (qA js) js σ0) :
 ∃L0:List LI,L0.length=js.length∧(∀i j:Nat,js[i]?=some j→∃li,L[j]?=some li∧L0[i]?=some li)∧RelSt H L0 σ0 w∧∀a v,Rel H L a v→Rel H L0 (Abs.vw jN (qA js) a) v:=by
 let L0:List LI:=js.map fun k=>L.getD k ⟨none,0,0,false⟩
 have hin:∀(i j:Nat),js[i]?=some j→∃li,L[j]?=some li∧L0[i]?=some li:=by
  intro i j hij;have hi:i < σ0.length:=by rw[zEv ho]; exact(jA1.1 hij).1
  obtain⟨o,hσ,_⟩:=zEu ho hij (jA2 hi);have hj:j<L.length:=by rw[hs.len]; exact(jA1.1 hσ).1
  refine⟨L[j],jA2 hj,?_⟩;simp[L0,hij,hj]
 have hback:∀{i:Nat} {li:LI},L0[i]?=some li→∃j,js[i]?=some j∧L[j]?=some li:=by
  intro i li hi;have hi':i<js.length:=by simpa [L0] using (jA1.1 hi).1
  obtain⟨li',h1,h2⟩:=hin i js[i] (jA2 hi');rw[hi]at h2;cases h2;exact⟨_,jA2 hi',h1⟩
 have hg:∀l i,qA js l=some i→L0[i]?=L[l]?:=by intro l i hl;obtain⟨li,h1,h2⟩:=hin i l (zIE hl);rw[h1,h2]
 have hr0:∀(l n:Nat) (v:Value),qA js l=none→Rel H L (.row l n) v→Rel H L0 (jN false l n) v:=fun _ _ _ _ _=>by simp[jN,Rel]
 have hp0:∀(l n:Nat) (v:Value),qA js l=none→Rel H L (.ptr l n) v→Rel H L0 (jN true l n) v:=fun _ _ _ _ _=>by simp[jN,Rel]
 refine⟨L0,by simp[L0],hin,⟨hs.pers,by simp[L0,zEv ho],fun i li o hL hσ=>?_,fun i j x y b hi hj hx hy=>?_,fun i li b hi hb=>?_⟩,fun a v ha=>Rel.vw (HLe.refl _) hg hr0 hp0 a ha⟩
 ·obtain⟨j,hj,hLj⟩:=hback hL;obtain⟨o0,hσ0,heq⟩:=zEu ho hj hσ;have key:=(hs.obj j li o0 hLj hσ0).vw (H':=H) (L':=L0) (w':=w) (rf:=jN) (g:=qA js) (fun cs vs h=>zQ.vw (HLe.refl _) hg hr0 hp0 cs h) (fun _ _=>rfl) (HLe.refl _) (fun _ _ _=>rfl);rcases heq with rfl | rfl
  ·exact key
  ·exact key.nrm
 ·obtain⟨i',hi',hLi⟩:=hback hi;obtain⟨j',hj',hLj⟩:=hback hj;have:=hs.inj i' j' x y b hLi hLj hx hy;subst this;exact zIA hd hi' hj'
 ·obtain⟨j,_,hLj⟩:=hback hi;exact hs.lt j li b hLj hb
def zRp (C:List Value→World→(Ending→World→Prop)→Prop)(args:List A) (σ : St)(Q:Out→St→Prop):Prop :=
 ∀(H:Mem) (L:List LI) (w:World) (vs:List Value),RelSt H L σ w→zQ H L args vs→C vs w fun e w'=>∃o σ' H' L',zGG H' L' o e∧Nxt H L w H' L' σ' w'∧Q o σ'
def zQT (js:List Nat)(n:Nat):Out→Out
 | .ret r=>.ret (ren js n r)
 | .pan v=>.pan v
theorem zIq {C:List Value→World→(Ending→World→Prop)→Prop}(hmono:∀vs w R R',C vs w R→(∀e w',R e w'→R' e w')→C vs w R'){args args':List A} {σ0:St}{Q0:Out→St→Prop}(h:zRp C args σ0 Q0)(js:List Nat)(hd:js.Nodup)(ho:yR σ jN (qA js) js σ0)(ha:zBg js args' args){Q:Out→St→Prop}
 (hq:∀o σ1,Q0 o σ1→Q (zQT js σ.length o) (qN σ js (σ1.map (zAQ js σ.length)))):zRp C args' σ Q:=by
 intro H L w vs hs hvs;obtain⟨L0,hL0,hin,hs0,hrel0⟩:=zXE hs hd ho;have hvs0:zQ H L0 args vs:=by
  clear hq h;induction args' generalizing args vs with
  | nil=>cases args with
   | nil=>rw[qY hvs]; exact jF
   | cons _ _=>exact ha.elim
  | cons a' aS' ih=>cases args with
   | nil=>exact ha.elim
   | cons a aS =>
    obtain⟨u,us,rfl,h1,h2⟩:=zS hvs;refine qH ?_ (ih (vs:=us) ha.2 h2);rcases ha.1 with e | e
    ·rw[e]; exact hrel0 _ _ h1
    ·rw[e]; exact Rel.nrm0 _ (hrel0 _ _ h1)
 refine hmono _ _ _ _ (h H L0 w vs hs0 hvs0) fun e w' hh=>?_
 obtain⟨o,σ',H1,L1,g1,g2,hq0⟩:=hh;have hq:=hq o σ' hq0;have hjs:js.length≤L1.length:=by
  rcases jAo L1.length js.length with hlt | hge
  ·have hlt0:L1.length<L0.length:=by omega
   obtain⟨l',hl',_⟩:=g2.lle L1.length L0[L1.length] (jA2 hlt0);exact absurd (jA1.1 hl').1 (Nat.lt_irrefl _)
  ·exact hge
 have hjs1:js.length≤(σ'.map (zAQ js σ.length)).length:=by rw[jB5,←g2.st.len]; exact hjs
 have hjb:∀y∈js,y<L.length:=by intro y hy;obtain⟨i,hi⟩:=jCj hy;obtain⟨li,h1,_⟩:=hin i y hi;exact(jA1.1 h1).1
 have hjb':∀y∈js,y < σ.length:=fun y hy=>by rw[←hs.len]; exact hjb y hy
 let L':=qN L js L1;have hlen':L'.length=(qN σ js (σ'.map (zAQ js σ.length))).length:=by rw[zCD hjs,zCD hjs1,jB5,hs.len,g2.st.len]
 have hgf:∀l,L'[back js σ.length l]?=L1[l]?:=by
  intro l;rcases jAo l js.length with hl | hl
  ·have:=jA2 hl;rw[zJ4 this];exact zDj hjs hd hjb this
  ·obtain⟨k,rfl⟩:=Nat.le.dest hl;rw[zHv,←hs.len];exact zHk hjs
 have hgs:∀l,(qN σ js (σ'.map (zAQ js σ.length)))[back js σ.length l]?=(σ'[l]?).map (zAQ js σ.length):=by
  intro l;rw[←jCr];rcases jAo l js.length with hl | hl
  ·have:=jA2 hl;rw[zJ4 this];exact zDj hjs1 hd hjb' this
  ·obtain⟨k,rfl⟩:=Nat.le.dest hl;rw[zHv];exact zHk hjs1
 have hg:∀l i,(fun l=>some (back js σ.length l)) l=some i→L'[i]?=L1[l]?:=by intro l i hl;simp only[jA0]at hl;subst hl;exact hgf l
 have hr0:∀(l n:Nat) (v:Value),(fun l=>some (back js σ.length l)) l=none→Rel H1 L1 (.row l n) v→Rel H1 L' (jN false l n) v:=fun _ _ _ _ _=>by simp[jN,Rel]
 have hp0:∀(l n:Nat) (v:Value),(fun l=>some (back js σ.length l)) l=none→Rel H1 L1 (.ptr l n) v→Rel H1 L' (jN true l n) v:=fun _ _ _ _ _=>by simp[jN,Rel]
 have hcase:∀x,x<L'.length→(∃l,l<L1.length∧back js σ.length l=x)∨(x<L.length∧x∉js):=by
  intro x hx;by_cases hm:x∈js
  ·obtain⟨i,hi⟩:=jCj hm;exact .inl ⟨i,by have:=(jA1.1 hi).1; omega,zJ4 hi⟩
  ·rcases jAo x L.length with h | h
   ·exact .inr ⟨h,hm⟩
   ·obtain⟨k,rfl⟩:=Nat.le.dest h;refine .inl ⟨js.length+k,?_,by rw[zHv,hs.len]⟩;rw[zCD hjs]at hx;omega
 have hold:∀x,x<L.length→x∉js→L'[x]?=L[x]?:=fun x hx hm=>zEV hjs hx hm
 have holds:∀x,x<L.length→x∉js→(qN σ js (σ'.map (zAQ js σ.length)))[x]? = σ[x]?:=fun x hx hm=>zEV hjs1 (by rw[←hs.len]; exact hx) hm
 have hown0:∀b,zPg L0 b→∃(j:Nat) (li:LI),j∈js∧L[j]?=some li∧li.block=some b:=by
  rintro b ⟨i,li,h1,h2⟩;have hi:i<js.length:=by rw[←hL0]; exact(jA1.1 h1).1
  obtain⟨li',h3,h4⟩:=hin i js[i] (jA2 hi);rw[h1]at h4;cases h4;exact⟨_,li,jA3 hi,h3,h2⟩
 have hnot:∀x li b,x∉js→L[x]?=some li→li.block=some b→¬zPg L0 b:=by intro x li b hx h1 h2 ho;obtain⟨j,li',hj,h3,h4⟩:=hown0 b ho;have:=hs.inj x j li li' b h1 h3 h2 h4;subst this;exact hx hj
 have hlle:LLe L L':=by
  intro x li hx;have hxl:x<L.length:=(jA1.1 hx).1;by_cases hm:x∈js
  ·obtain⟨i,hi⟩:=jCj hm;obtain⟨li',h1,h2⟩:=hin i x hi;rw[hx]at h1;cases h1;obtain⟨l',h3,h4⟩:=g2.lle i li h2;exact⟨l',by rw[zDj hjs hd hjb hi]; exact h3,h4⟩
  ·exact⟨li,by rw[hold x hxl hm]; exact hx,.inl rfl⟩
 have hout:zGG H1 L' (zQT js σ.length o) e:=by
  cases o with
  | ret r =>
   obtain⟨v,rfl,hv⟩:=g1;exact⟨v,rfl,Rel.vw (HLe.refl _) hg hr0 hp0 r hv⟩
  | pan v=>exact g1
 refine⟨zQT js σ.length o,qN σ js (σ'.map (zAQ js σ.length)),H1,L',hout,⟨⟨g2.st.pers,hlen',fun x li o hL hσ=>?_,fun x y lx ly b hx hy hbx hby=>?_,fun x li b hx hb=>?_⟩,
  ⟨g2.step.os,g2.step.tape,g2.step.output,g2.step.size,fun k hk hn=>g2.step.keep k hk fun ho=>hn (by obtain⟨j,li,_,h1,h2⟩:=hown0 k ho; exact⟨j,li,h1,h2⟩),g2.step.hle,fun b o v hv=>?_,g2.step.drawn,g2.step.dfr⟩,hlle,fun b ⟨x,li,hx,hb⟩=>?_⟩,hq⟩
 ·rcases hcase x (jA1.1 hL).1 with ⟨l,hl,rfl⟩ | ⟨h1,h2⟩
  ·rw[hgf]at hL;rw[hgs,jAe]at hσ;obtain⟨o1,ho1,rfl⟩:=hσ;exact(g2.st.obj l li o1 hL ho1).vw (fun cs vs h=>zQ.vw (HLe.refl _) hg hr0 hp0 cs h) (fun _ _=>rfl) (HLe.refl _) (fun _ _ _=>rfl)
  ·rw[hold x h1 h2]at hL;rw[holds x h1 h2]at hσ;refine(hs.obj x li o hL hσ).carry (fun b hb=>g2.step.keep b (hs.lt x li b hL hb) (hnot x li b h2 hL hb)) g2.step.hle hlle (fun b hb o'=>?_);cases hH:H b o' with
   | some u=>exact g2.step.hle _ _ _ hH
   | none =>
    cases hH1:H1 b o' with
    | none=>rfl
    | some u =>
     rcases g2.step.hnew b o' u hH1 with k1 | k1 | k1
     ·rw[hH]at k1; cases k1
     ·exact(hnot x li b h2 hL hb k1).elim
     ·have:=hs.lt x li b hL hb; omega
 ·have cross:∀(l y:Nat) (lx ly:LI),L1[l]?=some lx→lx.block=some b→y∉js→L[y]?=some ly→ly.block=some b→False:=by
   intro l y lx ly k1 k2 k3 k4 k5;rcases g2.own b ⟨l,lx,k1,k2⟩with k | k
   ·exact hnot y ly b k3 k4 k5 k
   ·have:=hs.lt y ly b k4 k5; omega
  rcases hcase x (jA1.1 hx).1 with ⟨l,hl,rfl⟩ | ⟨h1,h2⟩
  ·rw[hgf]at hx;rcases hcase y (jA1.1 hy).1 with ⟨m,hm,rfl⟩ | ⟨h3,h4⟩
   ·rw[hgf]at hy;rw[g2.st.inj l m lx ly b hx hy hbx hby]
   ·rw[hold y h3 h4]at hy;exact(cross l y lx ly hx hbx h4 hy hby).elim
  ·rw[hold x h1 h2]at hx;rcases hcase y (jA1.1 hy).1 with ⟨m,hm,rfl⟩ | ⟨h3,h4⟩
   ·rw[hgf]at hy;exact(cross m x ly lx hy hby h2 hx hbx).elim
   ·rw[hold y h3 h4]at hy;exact hs.inj x y lx ly b hx hy hbx hby
 ·rcases hcase x (jA1.1 hx).1 with ⟨l,hl,rfl⟩ | ⟨h1,h2⟩
  ·rw[hgf]at hx;exact g2.st.lt l li b hx hb
  ·rw[hold x h1 h2]at hx;exact jBt (hs.lt x li b hx hb) g2.step.size
 ·rcases g2.step.hnew b o v hv with k | k | k
  ·exact .inl k
  ·obtain⟨j,li,_,h1,h2⟩:=hown0 b k;exact .inr (.inl ⟨j,li,h1,h2⟩)
  ·exact .inr (.inr k)
 ·rcases hcase x (jA1.1 hx).1 with ⟨l,hl,rfl⟩ | ⟨h1,h2⟩
  ·rw[hgf]at hx;rcases g2.own b ⟨l,li,hx,hb⟩with k | k
   ·obtain⟨j,li',_,h1,h2⟩:=hown0 b k;exact .inl ⟨j,li',h1,h2⟩
   ·exact .inr k
  ·rw[hold x h1 h2]at hx;exact .inl ⟨x,li,hx,hb⟩
theorem zL6 {C:List Value→World→(Ending→World→Prop)→Prop}(hmono:∀vs w R R',C vs w R→(∀e w',R e w'→R' e w')→C vs w R'){args args':List A} {σ0:St}{Q0:Out→St→Prop}(h:zRp C args σ0 Q0)(js:List Nat)(hd:js.Nodup)(ho:yR σ jN (qA js) js σ0)(ha:zBg js args' args){Q:Out→St→Prop}
 (hnp:∀v σ1,¬Q0 (.pan v) σ1)(hq:∀r σ1,Q0 (.ret r) σ1→Q (.ret (ren js σ.length r)) (qN σ js (σ1.map (zAQ js σ.length)))):zRp C args' σ Q :=
 zIq hmono h js hd ho ha fun o σ1 h0=>by
  cases o with
  | ret r=>exact hq r σ1 h0
  | pan v=>exact(hnp v σ1 h0).elim
theorem zGN (P:Program)(f:FuncId):∀(vs:List Value) (w:World) (R R':Ending→World→Prop),Calls P f vs.toArray w R→(∀e w',R e w'→R' e w')→Calls P f vs.toArray w R':=fun _ _ _ _ h k=>h.mono k
theorem zA7 {f:FuncId}{args args':List A} {σ0 σ1:St}{r:A}(h:Ret P f args σ0 r σ1)(js:List Nat)(hd:js.Nodup)(ho:yR σ jN (qA js) js σ0)(ha:zBg js args' args){Q:Out→St→Prop}
 (hq:Q (.ret (ren js σ.length r)) (qN σ js (σ1.map (zAQ js σ.length)))):yV P f args' σ Q :=
 zL6 (C:=fun vs w R=>Calls P f vs.toArray w R) (zGN P f) (Q0:=fun o σ'=>o=.ret r∧σ' = σ1) h js hd ho ha (fun v σ1 h=>by cases h.1) (fun r' σ' h=>by obtain⟨h1,rfl⟩:=h; cases h1; exact hq)
theorem zPU (P:Program)(b:Nat):∀(vs:List Value) (w:World) (R R':Ending→World→Prop),(∃f tmps x y,(Instr.yield b vs.toArray).run P w=.ok (.round b f tmps x y) w∧RoundIn Fence.wide 0 P b f tmps x y w R)→(∀e w',R e w'→R' e w') →
 ∃f tmps x y,(Instr.yield b vs.toArray).run P w=.ok (.round b f tmps x y) w∧RoundIn Fence.wide 0 P b f tmps x y w R':=fun _ _ _ _ ⟨f,tmps,x,y,h1,h2⟩ k=>⟨f,tmps,x,y,h1,h2.mono k⟩
theorem zSs {b:Nat}{args args':List A} {σ0 σ1:St}{r:A}(h:zCg P b args σ0 fun o τ=>o=.ret r∧τ = σ1)(js:List Nat)(hd:js.Nodup)(ho:yR σ jN (qA js) js σ0)(ha:zBg js args' args){Q:Out→St→Prop}
 (hq:Q (.ret (ren js σ.length r)) (qN σ js (σ1.map (zAQ js σ.length)))):zCg P b args' σ Q :=
 zL6 (C:=fun vs w R=>∃f tmps x y,(Instr.yield b vs.toArray).run P w=.ok (.round b f tmps x y) w∧RoundIn Fence.wide 0 P b f tmps x y w R) (zPU P b) (Q0:=fun o σ'=>o=.ret r∧σ' = σ1) h js hd ho ha (fun v σ1 h=>by cases h.1)
  (fun r' σ' h=>by obtain⟨h1,rfl⟩:=h; cases h1; exact hq)
theorem zHo {f:FuncId}{args:List A} {σ0 σ1:St}{r:A}
 (h:yV P f args σ0 fun o σ'=>∃(r':A)(ks:List Nat)(fuel:Nat),o=.ret r'∧(∀i,i < σ0.length→ks[i]?=some i)∧ks.Nodup∧yR σ' (seen σ' (qA ks) fuel) (qA ks) ks σ1 ∧
  (r=vw (seen σ' (qA ks) fuel) (qA ks) r'∨r=nrm0 (vw (seen σ' (qA ks) fuel) (qA ks) r'))):Ret P f args σ0 r σ1:=by
 intro H L w vs hs ha;refine(h H L w vs hs ha).mono fun e w' hh=>?_
 obtain⟨o,σ',H',L',g1,g2,r',ks,fuel,rfl,hk,hd,ho,hr⟩:=hh;obtain⟨v,rfl,hv⟩:=g1;obtain⟨H2,L2,k1,_,k3⟩:=zRU ks fuel (by rw[hs.len]; exact hk) hd ho g2;refine⟨.ret r,σ1,H2,L2,⟨v,rfl,?_⟩,k1,rfl,rfl⟩;rcases hr with e | e
 ·rw[e]; exact k3 _ _ hv
 ·rw[e]; exact Rel.nrm0 _ (k3 _ _ hv)
end
end Go.Abs
namespace Go.Abs
attribute [simp] KOp.dst
@[simp] theorem qBf {a b n:Nat}(h:a≤b):(a≤b+n)=True:=eq_true (by omega)
@[simp] def int (n:Int):A:=.lit (.int .i64 n)
@[simp] def bl (b:Bool):A:=.lit (.bool b)
section
variable {P:Program}{n0:Nat}{Qp:Value→Env→St→Prop}{K':Env→St→Prop}{KD:Env→Prop}{Q:Ex→Env→St→Prop}{env:Env} {σ : St}{d:Option Nat}
variable {rf:Bool→Nat→Nat→A}{g:Nat→Option Nat}
def lvl (o:Option Nat)(f:Nat→A)(b:A):A:=match o with
 | some i=>f i
 | none=>b
@[simp] theorem qHD {i:Nat}{f:Nat→A}{b:A}:lvl (some i) f b=f i:=rfl
@[simp] theorem qHC {f:Nat→A}{b:A}:lvl none f b=b:=rfl
@[simp] theorem qOm {l o:Nat}:vw rf g (.ptr l o)=lvl (g l) (.ptr · o) (rf true l o):=by simp only[vw,lvl];cases g l<;>rfl
@[simp] theorem qOn {l n:Nat}:vw rf g (.row l n)=lvl (g l) (.row · n) (rf false l n):=by simp only[vw,lvl];cases g l<;>rfl
@[simp] theorem qOo {l n o:Nat}:vw rf g (.rwp l n o)=lvl (g l) (.rwp · n o) .any:=by simp only[vw,lvl];cases g l<;>rfl
@[simp] theorem qOk {l:Nat}:vw rf g (.map l)=lvl (g l) .map .any:=by simp only[vw,lvl];cases g l<;>rfl
@[simp] theorem qOq {l n o k c:Nat}:vw rf g (.win l n o k c)=lvl (g l) (.win · n o k c) (zS1 o k c (rf false l n)):=by simp only[vw,lvl];cases g l<;>rfl
@[simp] theorem qKl {n o k c:Nat}{cs:List A}:zS1 o k c (.sl n cs)=if k=0 then .sl 0 [] else .sl k ((cs.drop o).take (k*c)):=rfl
@[simp] theorem qCe {cs:List A}:vw rf g (.agg cs)=.agg (vwL rf g cs):=by simp only[vw]
@[simp] theorem qOp {cs:List A}:vw rf g (.tup cs)=.tup (vwL rf g cs):=by simp only[vw]
@[simp] theorem qO5 {n:Nat}{cs:List A}:vw rf g (.sl n cs)=.sl n (vwL rf g cs):=by simp only[vw]
@[simp] theorem qOi {n:Nat}{cs:List A}:vw rf g (.fsl n cs)=.fsl n (vwL rf g cs):=by simp only[vw]
@[simp] theorem qLn {cs:List A}:vw rf g (.rptr cs)=.rptr (vwL rf g cs):=by simp only[vw]
@[simp] theorem qOh {f:FuncId}{a b:List A}:vw rf g (.clo f a b)=.clo f (vwL rf g a) (vwL rf g b):=by simp only[vw]
@[simp] theorem qOg:vw rf g .any=.any:=by simp only[vw]
@[simp] theorem qOl:vw rf g .nil=.nil:=by simp only[vw]
@[simp] theorem qOj {v:Value}:vw rf g (.lit v)=.lit v:=by simp only[vw]
@[simp] theorem qO6 {b:Nat}:vw rf g (yv b)=yv b:=by simp only[yv,vw]
@[simp] theorem qC8 {b:Bool}{l n:Nat}:jN b l n=.any:=rfl
@[simp] theorem qKY:vwL rf g []=[]:=by simp only[vwL]
@[simp] theorem qIP {c:A}{cs:List A}:vwL rf g (c::cs)=vw rf g c::vwL rf g cs:=by simp only[vwL]
@[simp] theorem zRk {cs ds:List A}:vwL rf g (cs++ds)=vwL rf g cs++vwL rf g ds:=by
 induction cs with
 | nil=>simp
 | cons c cs ih=>simp[ih]
@[simp] theorem qIQ {cs:List A}{n:Nat}:vwL rf g (cs.drop n)=(vwL rf g cs).drop n:=by
 induction cs generalizing n with
 | nil=>simp
 | cons c cs ih=>cases n<;>simp[ih]
@[simp] theorem qIR {cs:List A}{n:Nat}:vwL rf g (cs.take n)=(vwL rf g cs).take n:=by
 induction cs generalizing n with
 | nil=>simp
 | cons c cs ih=>cases n<;>simp[ih]
@[simp] theorem qIb {l o:Nat}:nrm0 (.ptr l o)=.ptr l o:=by simp only[nrm0]
@[simp] theorem qIc {l n:Nat}:nrm0 (.row l n)=.row l n:=by simp only[nrm0]
@[simp] theorem qId {l n o:Nat}:nrm0 (.rwp l n o)=.rwp l n o:=by simp only[nrm0]
@[simp] theorem qHZ {l:Nat}:nrm0 (.map l)=.map l:=by simp only[nrm0]
@[simp] theorem qIf {l n o k c:Nat}:nrm0 (.win l n o k c)=.win l n o k c:=by simp only[nrm0]
@[simp] theorem qHU {cs:List A}:nrm0 (.agg cs)=.agg (qV cs):=by simp only[nrm0]
@[simp] theorem qIe {cs:List A}:nrm0 (.tup cs)=.tup (qV cs):=by simp only[nrm0]
@[simp] theorem qKB {n:Nat}{cs:List A}:nrm0 (.sl n cs)=.sl n (qV cs):=by simp only[nrm0]
@[simp] theorem qHX {n:Nat}{cs:List A}:nrm0 (.fsl n cs)=.sl n (qV cs):=by simp only[nrm0]
@[simp] theorem qD5 {cs:List A}:nrm0 (.rptr cs)=.rptr (qV cs):=by simp only[nrm0]
@[simp] theorem qHW {f:FuncId}{a b:List A}:nrm0 (.clo f a b)=.clo f (qV a) (qV b):=by simp only[nrm0]
@[simp] theorem qHV:nrm0 .any=.any:=by simp only[nrm0]
@[simp] theorem qIa:nrm0 .nil=.sl 0 []:=by simp only[nrm0]
@[simp] theorem qHY {v:Value}:nrm0 (.lit v)=.lit v:=by simp only[nrm0]
@[simp] theorem qKC {b:Nat}:nrm0 (yv b)=yv b:=by simp only[yv,nrm0]
@[simp] theorem qDv:qV []=[]:=by simp only[qV]
@[simp] theorem qBs {c:A}{cs:List A}:qV (c::cs)=nrm0 c::qV cs:=by simp only[qV]
@[simp] theorem zNm {cs ds:List A}:qV (cs++ds)=qV cs++qV ds:=by
 induction cs with
 | nil=>simp
 | cons c cs ih=>simp[ih]
@[simp] theorem qBt {cs:List A}{n:Nat}:qV (cs.drop n)=(qV cs).drop n:=by
 induction cs generalizing n with
 | nil=>simp
 | cons c cs ih=>cases n<;>simp[ih]
@[simp] theorem qBu {cs:List A}{n:Nat}:qV (cs.take n)=(qV cs).take n:=by
 induction cs generalizing n with
 | nil=>simp
 | cons c cs ih=>cases n<;>simp[ih]
def qF (cs:List A):Prop:=qV cs=cs∧∀rf g,vwL rf g cs=cs
theorem qF.nil:qF []:=⟨by simp,by simp⟩
theorem qF.append {cs ds:List A}(h:qF cs)(k:qF ds):qF (cs++ds):=⟨by simp[h.1,k.1],fun rf g=>by simp[h.2,k.2]⟩
theorem qF.drop {cs:List A}(h:qF cs)(n:Nat):qF (cs.drop n):=⟨by simp[h.1],fun rf g=>by simp[h.2]⟩
theorem qF.take {cs:List A}(h:qF cs)(n:Nat):qF (cs.take n):=⟨by simp[h.1],fun rf g=>by simp[h.2]⟩
theorem qF.int {k:IntKind}{n:Int}{cs:List A}(h:qF cs):qF (.lit (.int k n)::cs):=⟨by simp[h.1],fun rf g=>by simp[h.2]⟩
theorem qF.lit {v:Value}{cs:List A}(h:qF cs):qF (.lit v::cs):=⟨by simp[h.1],fun rf g=>by simp[h.2]⟩
theorem qF.sl {n:Nat}{ds cs:List A}(k:qF ds)(h:qF cs):qF (.sl n ds::cs):=⟨by simp[h.1,k.1],fun rf g=>by simp[h.2,k.2]⟩
@[simp] theorem qDD {l:Nat}:qA [] l=none:=rfl
@[simp] theorem zHh {k l:Nat}{ks:List Nat}:qA (k::ks) l=if l=k then some 0 else (qA ks l).map (· + 1):=rfl
@[simp] theorem qFr {n l:Nat}:back [] n l=n+l:=by cases l<;>rfl
@[simp] theorem qCD {j n:Nat}{js:List Nat}:back (j::js) n 0=j:=rfl
@[simp] theorem zSl {j n l:Nat}{js:List Nat}:back (j::js) n (l+1)=back js n l:=rfl
@[simp] theorem qB8 {s t:St}:qN s [] t=s++t:=by simp only[qN]
@[simp] theorem zJk {s os:St}{j:Nat}{js:List Nat}{o:AObj}:qN s (j::js) (o::os)=qN (s.set j o) js os:=rfl
@[simp] theorem qCA {js:List Nat}:zBg js [] []:=trivial
@[simp] theorem zZX {js:List Nat}{a a':A}{aS aS':List A}:zBg js (a'::aS') (a::aS)=((a=vw jN (qA js) a'∨a=nrm0 (vw jN (qA js) a'))∧zBg js aS' aS):=rfl
def zPd (o:Option AObj)(J:AObj→Prop):Prop:=match o with
 | some o=>J o
 | none=>False
@[simp] theorem qBy {o:AObj}{J:AObj→Prop}:zPd (some o) J=J o:=rfl
@[simp] theorem qDT:yR σ rf g [] []:=trivial
@[simp] theorem zRc {j:Nat}{js:List Nat}{o:AObj}{os:St}:yR σ rf g (j::js) (o::os)=(zPd σ[j]? (fun p=>o=vwO rf g p∨o=zG1 (vwO rf g p))∧yR σ rf g js os):=by simp only[yR,zPd];cases σ[j]?<;>rfl
@[simp] theorem qKZ {cs:List A}:vwO rf g (.box cs)=.box (vwL rf g cs):=rfl
@[simp] theorem qLa {fz:Bool}{e:TypeId}{sz n:Nat}{cs:List A}:vwO rf g (.row fz e sz n cs)=.row fz e sz n (vwL rf g cs):=rfl
@[simp] theorem qCd {fr:Bool}{nk:Nat}{es:List (List Int×A)}:vwO rf g (.mp fr nk es)=.mp fr nk (es.map fun p=>(p.1,vw rf g p.2)):=rfl
@[simp] theorem qLb:vwO rf g .rsv=.rsv:=rfl
@[simp] theorem qIi:zG1 .rsv=.rsv:=rfl
@[simp] theorem qIv {js:List Nat}{n:Nat}:zAQ js n .rsv=.rsv:=rfl
@[simp] theorem qCb {m n:Nat}{met:List Nat}:vwO rf g (.it m n met)=(match g m with | some i=>AObj.it i n met | none=>.dead):=rfl
@[simp] theorem qKF {fr:Bool}{nk:Nat}{es:List (List Int×A)}:zG1 (.mp fr nk es)=.mp fr nk (es.map fun p=>(p.1,nrm0 p.2)):=rfl
@[simp] theorem qKD {m n:Nat}{met:List Nat}:zG1 (.it m n met)=.it m n met:=rfl
@[simp] theorem qKL {js:List Nat}{n:Nat}{fr:Bool}{nk:Nat}{es:List (List Int×A)}:zAQ js n (.mp fr nk es)=.mp fr nk (es.map fun p=>(p.1,ren js n p.2)):=rfl
@[simp] theorem qKJ {js:List Nat}{n m k:Nat}{met:List Nat}:zAQ js n (.it m k met)=.it (back js n m) k met:=rfl
@[simp] theorem qCc {b M:Nat}{r:Loop}{es:List (Nat×A)}:vwO rf g (.lp b r M es)=.lp b r M (es.map fun p=>(p.1,vw rf g p.2)):=rfl
@[simp] theorem qKE {b M:Nat}{r:Loop}{es:List (Nat×A)}:zG1 (.lp b r M es)=.lp b r M (es.map fun p=>(p.1,nrm0 p.2)):=rfl
@[simp] theorem qKK {js:List Nat}{n b M:Nat}{r:Loop}{es:List (Nat×A)}:zAQ js n (.lp b r M es)=.lp b r M (es.map fun p=>(p.1,ren js n p.2)):=rfl
@[simp] theorem qIg {cs:List A}:zG1 (.box cs)=.box (qV cs):=rfl
@[simp] theorem qIh {fz:Bool}{e:TypeId}{sz n:Nat}{cs:List A}:zG1 (.row fz e sz n cs)=.row fz e sz n (qV cs):=rfl
@[simp] theorem qIt {js:List Nat}{n:Nat}{cs:List A}:zAQ js n (.box cs)=.box (qBA js n cs):=rfl
@[simp] theorem qIu {js:List Nat}{n:Nat}{fz:Bool}{e:TypeId}{sz m:Nat}{cs:List A}:zAQ js n (.row fz e sz m cs)=.row fz e sz m (qBA js n cs):=rfl
@[simp] theorem qNX {js:List Nat}{n:Nat}{a:A}:ren js n a=vw jN (fun l=>some (back js n l)) a:=rfl
@[simp] theorem qKI {js:List Nat}{n:Nat}{cs:List A}:qBA js n cs=vwL jN (fun l=>some (back js n l)) cs:=rfl
def zVR (k:Nat)(o:Option AObj)(n:Nat)(J:List A→A):A:=match o with
 | some (.row _ _ _ m cs)=>if n=m then J cs else .any
 | _=>.any
@[simp] theorem qBK {k n m:Nat}{fz:Bool}{e:TypeId}{sz:Nat}{cs:List A}{J:List A→A}:zVR k (some (.row fz e sz m cs)) n J=if n=m then J cs else .any:=rfl
@[simp] theorem qDS {b:Bool}{l n:Nat}:seen σ g 0 b l n=.any:=rfl
@[simp] theorem qDR {k l n:Nat}:seen σ g (k+1) false l n=zVR k σ[l]? n (fun cs=>.sl n (vwL (seen σ g k) g cs)):=by
 simp only[seen,zVR];cases σ[l]? with
 | none=>rfl
 | some o=>cases o<;>rfl
def zPt (o:Option AObj)(J:List A→A):A:=match o with
 | some (.box cs)=>J cs
 | _=>.any
@[simp] theorem qDP {cs:List A}{J:List A→A}:zPt (some (.box cs)) J=J cs:=rfl
@[simp] theorem qDQ {fz:Bool}{e:TypeId}{sz n:Nat}{cs:List A}{J:List A→A}:zPt (some (.row fz e sz n cs)) J=.any:=rfl
@[simp] theorem qBJ {J:List A→A}:zPt none J=.any:=rfl
@[simp] theorem qI7 {k l n:Nat}:seen σ g (k+1) true l n=zPt σ[l]? (fun cs=>.rptr ((vwL (seen σ g k) g cs).drop n)):=by
 simp only[seen,zPt];cases σ[l]? with
 | none=>rfl
 | some o=>cases o<;>rfl
def zSi:List A→A
 | [x]=>x
 | l=>.tup l
@[simp] theorem qDY {x:A}:zSi [x]=x:=rfl
@[simp] theorem qDX:zSi []=.tup []:=rfl
@[simp] theorem qDZ {x y:A}{l:List A}:zSi (x::y::l)=.tup (x::y::l):=rfl
def zKO (env:Env) (σ : St):List RS→(List A→Prop)→Prop
 | [],J=>J []
 | .slot t::rs,J=>zKO env σ rs fun l=>J (env t::l)
 | .cell a n agg::rs,J=>zCY ((ldA σ n (env a)).bind (zBO agg)) fun r=>zKO env σ rs fun l=>J (r::l)
@[simp] theorem qIx {J:List A→Prop}:zKO env σ [] J=J []:=rfl
@[simp] theorem qDH {t:Nat}{rs:List RS}{J:List A→Prop}:zKO env σ (.slot t::rs) J=zKO env σ rs fun l=>J (env t::l):=rfl
@[simp] theorem qDG {a n:Nat}{agg:Bool}{rs:List RS}{J:List A→Prop}:zKO env σ (.cell a n agg::rs) J=zCY ((ldA σ n (env a)).bind (zBO agg)) fun r=>zKO env σ rs fun l=>J (r::l):=rfl
theorem zNw:∀{rs:List RS} {J:List A→Prop},zKO env σ rs J=match zAR env σ rs with | some l=>J l | none=>False
 | [],J=>rfl
 | .slot t::rs,J=>by simp only[zKO,zAR,zDH];rw[zNw];cases zAR env σ rs<;>rfl
 | .cell a n agg::rs,J=>by
  simp only[zKO,zAR,zDH];cases (ldA σ n (env a)).bind (zBO agg)with
  | none=>rfl
  | some r =>
   simp only[zCY];rw[zNw];cases zAR env σ rs<;>rfl
@[simp] theorem qKM {rs:List RS}{R:Out→St→Prop}:zKP rs R env σ = zKO env σ rs fun l=>R (.ret (zSi l)) σ:=by
 rw[zNw,zKP,zT5];cases zAR env σ rs with
 | none=>rfl
 | some l =>
  cases l with
  | nil=>rfl
  | cons x l=>cases l<;>rfl
def zFq (n:Nat)(r:A) (σ1:St)(o:Out) (σ':St):Prop :=
 ∃(r':A) (ks:List Nat) (fuel:Nat),o=.ret r'∧(∀i,i<n→ks[i]?=some i)∧ks.Nodup∧yR σ' (seen σ' (qA ks) fuel) (qA ks) ks σ1 ∧
  (r=vw (seen σ' (qA ks) fuel) (qA ks) r'∨r=nrm0 (vw (seen σ' (qA ks) fuel) (qA ks) r'))
theorem zI {f:FuncId}{fn:Func}{c:Code}{k:K}{rs:List RS}(hf:P.funcs[f]?=some fn)(hb:fn.body=some c)(hc:zR P fn.ntmps c=some k.erase)(hr:zCv P fn.results.toList=some rs)
 {args:List A} {σ0 σ1:St}{r:A}(h:wpF P k rs args σ0 (zFq σ0.length r σ1)):Ret P f args σ0 r σ1:=zHo (zFw hf hb hc hr h)
theorem qL {hint:Nat→Option (List (Nat×Nat))}{f:FuncId}{fn:Func}{c:Code}{k:K}{rs:List RS}(hf:P.funcs[f]?=some fn)(hb:fn.body=some c)(hc:qE P fn.ntmps hint c=some k.erase)(hr:zCv P fn.results.toList=some rs)
 {args:List A} {σ0 σ1:St}{r:A}(h:wpF P k rs args σ0 (zFq σ0.length r σ1)):Ret P f args σ0 r σ1:=zHo (zE1 hf hb hc hr h)
theorem zB {r r':A} {σ':St}(fuel:Nat)(h:r=vw (seen σ' (fun _=>none) fuel) (fun _=>none) r'∨r=nrm0 (vw (seen σ' (fun _=>none) fuel) (fun _=>none) r')):zFq 0 r [] (.ret r') σ' :=
 ⟨r',[],fuel,rfl,fun i hi=>by omega,by simp,trivial,h⟩
theorem zH {n:Nat}{r r':A} {σ1 σ':St}(ks:List Nat)(fuel:Nat)(hk:∀i,i<n→ks[i]?=some i)(hd:ks.Nodup)(ho:yR σ' (seen σ' (qA ks) fuel) (qA ks) ks σ1)
 (h:r=vw (seen σ' (qA ks) fuel) (qA ks) r'∨r=nrm0 (vw (seen σ' (qA ks) fuel) (qA ks) r')):zFq n r σ1 (.ret r') σ':=⟨r',ks,fuel,rfl,hk,hd,ho,h⟩
theorem zPz:∀{s:St} {j:Nat} {o:AObj},s[j]?=some o→s.set j o=s
 | [],_,_,h=>by simp at h
 | x::s,0,o,h=>by simp at h; simp[h]
 | x::s,j+1,o,h=>by simp only[jBf]at h; simp[zPz h]
theorem qD {f:FuncId}{args args':List A}{r:A}(h:Ret P f args [] r [])(ha:zBg [] args' args)(hr:∀m,vw jN (fun l=>some (m+l)) r=r)(hq:K' (env.put d r) σ):yV P f args' σ (outK d env K' Qp):=by
 refine zA7 h [] (by simp) trivial ha ?_;have:ren [] σ.length r=r:=by
  have:=hr σ.length
  simpa [ren] using this
 rw[this]
 simpa [outK] using hq
theorem qK {f:FuncId}{args args':List A}{r:A}(h:Ret P f args [] r [])(ha:zBg [] args' args)(hr:∀m,vw jN (fun l=>some (m+l)) r=r)(hq:KD (env.put d r)):zFc P σ d KD f args' env:=by
 refine⟨r,zA7 h [] (by simp) trivial ha ?_,hq⟩;have:ren [] σ.length r=r:=by
  have:=hr σ.length
  simpa [ren] using this
 rw[this];simp
theorem jJ {f:FuncId}{args args':List A} {σ0 σ1:St}{r:A}(h:Ret P f args σ0 r σ1)(js:List Nat)(hd:js.Nodup)(ho:yR σ jN (qA js) js σ0)(ha:zBg js args' args)
 (hq:K' (env.put d (ren js σ.length r)) (qN σ js (σ1.map (zAQ js σ.length)))):yV P f args' σ (outK d env K' Qp):=zA7 h js hd ho ha (by simpa [outK] using hq)
def zY8 {S:Type}(E:S→List (Nat×A))(T:S→St)(I:S→Prop) (μ : S→Nat)(n:Nat)(e:Env)(t:St):Prop:=∃s,I s∧μ s=n∧e=qU (E s)∧t=T s
theorem jM {S:Type}{W:(Ex→Env→St→Prop)→Env→St→Prop}(E:S→List (Nat×A))(T:S→St)(I:S→Prop) (μ : S→Nat)(s0:S)(h0:I s0)(start:zA4 n0 (qU (E s0)) (T s0) env σ)
 (round:∀s,I s→W (rnd n0 (zY8 E T I μ) (μ s) Q) (qU (E s)) (T s)):zNE n0 W Q env σ:=zXt E T I μ s0 h0 start round
theorem zP {S:Type}{E:S→List (Nat×A)}{T:S→St}{I:S→Prop} {μ : S→Nat}{n:Nat}(s:S)(hs:I s)(hm : μ s<n)(hw:zA4 n0 (qU (E s)) (T s) env σ):rnd n0 (zY8 E T I μ) n Q .norm env σ :=
 qBC s hs hm hw
theorem zO (ks:List Nat)(fuel:Nat){l:List (Nat×A)} {σ':St}(hk:∀i,i<n0→ks[i]?=some i)(hd:ks.Nodup)(ho:yR σ (seen σ (qA ks) fuel) (qA ks) ks σ')
 (hl:∀p∈l,p.2=vw (seen σ (qA ks) fuel) (qA ks) (env p.1)∨p.2=nrm0 (vw (seen σ (qA ks) fuel) (qA ks) (env p.1))):zA4 n0 (qU l) σ' env σ:=zA4.sel ks fuel l hk hd ho hl
end
end Go.Abs
namespace Go.Abs
section
variable {P:Program}{KD:Env→Prop}{env:Env} {σ : St}{d:Option Nat}
theorem zAJ {f:FuncId}{args args':List A}{r:A}(h:Ret P f args [] r [])(ha:zBg [] args' args)(hr:∀m,vw jN (fun l=>some (m+l)) r=r)(hq:KD (env.put d r)):zIf P σ d KD f args' env:=by
 refine⟨r,fun τ _=>zA7 h [] (by simp) trivial ha ?_,hq⟩;have:ren [] τ.length r=r:=by
  have:=hr τ.length
  simpa [ren] using this
 rw[this];simp
def zEW (σ : St)(js:List Nat):List Nat→St→Prop
 | [],[]=>True
 | j::ks,o::os=>(zPd σ[j]? fun p=>(∃cs,p=.box cs)∧(∀n,zAQ js n o=p)∧(o=vwO jN (qA js) p∨o=zG1 (vwO jN (qA js) p)))∧zEW σ js ks os
 | _,_=>False
@[simp] theorem qBI {js:List Nat}:zEW σ js [] []:=trivial
@[simp] theorem zZ9 {js ks:List Nat}{j:Nat}{o:AObj}{os:St}:zEW σ js (j::ks) (o::os)=((zPd σ[j]? fun p=>(∃cs,p=.box cs)∧(∀n,zAQ js n o=p)∧(o=vwO jN (qA js) p∨o=zG1 (vwO jN (qA js) p)))∧zEW σ js ks os):=rfl
theorem zFW {js:List Nat} {τ : St}(hk:zAj σ τ):∀{ks:List Nat} {os:St},zEW σ js ks os→zEW τ js ks os
 | [],[],_=>trivial
 | j::ks,o::os,h=>by
  obtain⟨h1,h2⟩:=h;refine⟨?_,zFW hk h2⟩;cases hj : σ[j]? with
  | none=>rw[hj]at h1; exact h1.elim
  | some p =>
   rw[hj]at h1;obtain⟨⟨cs,rfl⟩,h3⟩:=h1;rw[hk j cs hj];exact⟨⟨cs,rfl⟩,h3⟩
 | [],_::_,h=>h.elim
 | _::_,[],h=>h.elim
theorem zKR {js:List Nat}:∀{ks:List Nat} {os:St},zEW σ js ks os→yR σ jN (qA js) ks os
 | [],[],_=>trivial
 | j::ks,o::os,h=>by
  obtain⟨h1,h2⟩:=h;refine⟨?_,zKR h2⟩;cases hj : σ[j]? with
  | none=>rw[hj]at h1; exact h1.elim
  | some p=>rw[hj]at h1; exact h1.2.2
 | [],_::_,h=>h.elim
 | _::_,[],h=>h.elim
theorem zKQ {js:List Nat}{n:Nat}:∀{ks:List Nat} {os:St},zEW σ js ks os→qN σ ks (os.map (zAQ js n)) = σ
 | [],[],_=>by simp
 | j::ks,o::os,h=>by
  obtain⟨h1,h2⟩:=h;cases hj : σ[j]? with
  | none=>rw[hj]at h1; exact h1.elim
  | some p =>
   rw[hj]at h1;simp only[jA9,zJk];rw[h1.2.1 n,zPz hj];exact zKQ h2
 | [],_::_,h=>h.elim
 | _::_,[],h=>h.elim
theorem zWH {f:FuncId}{args args':List A} {σ0:St}{r:A}(h:Ret P f args σ0 r σ0)(js:List Nat)(hd:js.Nodup)(ho:zEW σ js js σ0)(ha:zBg js args' args)(hr:∀n,ren js n r=r)(hq:KD (env.put d r)) :
 zIf P σ d KD f args' env:=by
 refine⟨r,fun τ hk=>zA7 h js hd (zKR (zFW hk ho)) ha ?_,hq⟩;rw[hr,zKQ (zFW hk ho)];simp
end
end Go.Abs
namespace Go.Abs
section
variable {P:Program}{Qp:Value→Env→St→Prop}{Qd:Value→St→Prop}{K':Env→St→Prop}{env:Env} {σ : St}{d:Option Nat}{x y:Operand}
def zPa (a:A)(J:A→Prop):Prop:=match a with
 | .ptr l o=>J (.ptr l o)
 | .rptr cs=>J (.rptr cs)
 | _=>False
@[simp] theorem qDt {l o:Nat}{J:A→Prop}:zPa (.ptr l o) J=J (.ptr l o):=rfl
@[simp] theorem qBr {cs:List A}{J:A→Prop}:zPa (.rptr cs) J=J (.rptr cs):=rfl
theorem zTn {J:A→Prop}:qX (zJ env σ (.nilc d x)) J=zPa (ev env x) J:=by simp only[zJ,zPa,qX];generalize ev env x=a;cases a<;>simp
@[simp] theorem qJj:wpO P Qp K' (.nilc d x) env σ = zPa (ev env x) fun r=>K' (env.put d r) σ:=zTn (d:=d)
@[simp] theorem qCu {fl:Nat}:jI P Qd fl K' (.nilc d x) env σ = wpO P zAN K' (.nilc d x) env σ:=by simp[jI,KOp.lite,KOp.keeps]
def zK0:List A→(List Int→Prop)→Prop
 | [],J=>J []
 | .lit (.int .i64 n)::l,J=>zK0 l fun ks=>J (n::ks)
 | _,_=>False
@[simp] theorem qDo {J:List Int→Prop}:zK0 [] J=J []:=rfl
@[simp] theorem qBi {n:Int}{l:List A}{J:List Int→Prop}:zK0 (.lit (.int .i64 n)::l) J=zK0 l fun ks=>J (n::ks):=rfl
theorem zOS:∀(l:List A) (J:List Int→Prop),zK0 l J=match zHL l with | some ks=>J ks | none=>False
 | [],J=>rfl
 | a::l,J=>by
  cases a<;>try rfl
  rename_i v;cases v<;>try rfl
  rename_i k n;cases k<;>try rfl
  simp only[zK0,zHL,zOS l];cases zHL l<;>rfl
def zLr (nk:Nat)(k:A)(J:List Int→Prop):Prop:=match zHI nk k with
 | some ks=>J ks
 | none=>False
@[simp] theorem qHx {nk:Nat}{cs:List A}{J:List Int→Prop}:zLr nk (.agg cs) J=zK0 cs fun ks=>(ks.length=nk∧nk≠1)∧J ks:=by
 simp only[zLr,zHI,zOS];cases zHL cs with
 | none=>rfl
 | some ks =>
  simp only;by_cases h:ks.length=nk∧nk≠1<;>simp[h]
@[simp] theorem qHy {nk:Nat}{n:Int}{J:List Int→Prop}:zLr nk (.lit (.int .i64 n)) J=(nk=1∧J [n]):=by simp only[zLr,zHI];by_cases h:nk=1<;>simp[h]
def zI8 (o:Option AObj)(J:Bool→Nat→List (List Int×A)→Prop):Prop:=match o with
 | some (.mp fr nk es)=>J fr nk es
 | _=>False
@[simp] theorem qDs {fr:Bool}{nk:Nat}{es:List (List Int×A)}{J:Bool→Nat→List (List Int×A)→Prop}:zI8 (some (.mp fr nk es)) J=J fr nk es:=rfl
def zVs (o:Option AObj)(J:Nat→Nat→List Nat→Prop):Prop:=match o with
 | some (.it m n met)=>J m n met
 | _=>False
@[simp] theorem qDn {m n:Nat}{met:List Nat}{J:Nat→Nat→List Nat→Prop}:zVs (some (.it m n met)) J=J m n met:=rfl
@[simp] theorem qL9 {m:MOp}{xs:List Operand}:wpO P Qp K' (.mop d m xs) env σ = zBf m (xs.map (ev env)) (fun r τ=>K' (env.put d r) τ) σ:=by simp only[wpO]
variable {K:A→St→Prop}
@[simp] theorem qKA {nk:Nat}:zBf (.mk nk) [] K σ = K (.map σ.length) (σ++[.mp true nk []]):=rfl
@[simp] theorem qHM {nk l:Nat}{z:Value}{ok:Bool}{k:A}:zBf (.get nk z ok) [.map l,k] K σ = zLr nk k fun ks=>zI8 σ[l]? fun _ nk' es=>nk'=nk∧K (zEK z ok (zB4 ks es)) σ:=by
 simp only[zBf,zLr,zI8];cases zHI nk k with
 | none=>rfl
 | some ks =>
  cases σ[l]? with
  | none=>rfl
  | some o=>cases o<;>rfl
@[simp] theorem qHQ {nk l:Nat}{k v:A}:zBf (.set nk) [.map l,k,v] K σ = zLr nk k fun ks=>zI8 σ[l]? fun fr nk' es=>nk'=nk∧K (.lit undef) (σ.set l (.mp fr nk (putI ks v es))):=by
 simp only[zBf,zLr,zI8];cases zHI nk k with
 | none=>rfl
 | some ks =>
  cases σ[l]? with
  | none=>rfl
  | some o=>cases o<;>rfl
@[simp] theorem qHK {nk l:Nat}{k:A}:zBf (.del nk) [.map l,k] K σ = zLr nk k fun ks=>zI8 σ[l]? fun _ nk' es=>nk'=nk∧K (.tup []) (σ.set l (.mp false nk (zIu ks es))):=by
 simp only[zBf,zLr,zI8];cases zHI nk k with
 | none=>rfl
 | some ks =>
  cases σ[l]? with
  | none=>rfl
  | some o=>cases o<;>rfl
@[simp] theorem qHP {l:Nat}:zBf .rng [.map l] K σ = zI8 σ[l]? fun fr _ es=>fr=true∧K (.ptr σ.length 0) (σ++[.it l es.length []]):=by
 simp only[zBf,zI8];cases σ[l]? with
 | none=>rfl
 | some o =>
  cases o<;>try rfl
  rename_i fr nk es;cases fr<;>simp
@[simp] theorem qHO {j:Nat}:zBf .nxt [.ptr j 0] K σ = zVs σ[j]? fun l n met=>zI8 σ[l]? fun fr _ es=>fr=true∧n=es.length ∧
 (∀(i:Nat) (p:List Int×A),i∉met→es[i]?=some p→K (.tup [.lit (.bool true),zJz p.1,p.2]) (σ.set j (.it l n (met++[i]))))∧((∀i,i<n→i∈met)→K (.tup [.lit (.bool false)]) σ):=by
 simp only[zBf,zI8,zVs];cases σ[j]? with
 | none=>rfl
 | some o =>
  cases o<;>try rfl
  rename_i l n met;simp only;cases σ[l]? with
  | none=>rfl
  | some o =>
   cases o<;>try rfl
   rename_i fr nk es;cases fr<;>simp
@[simp] theorem qHL {j:Nat}:zBf .ent [.ptr j 0] K σ = zVs σ[j]? fun l n met=>zI8 σ[l]? fun fr _ es=>fr=true∧∃i p,met.getLast?=some i∧es[i]?=some p∧n=es.length∧K (.tup [zJz p.1,p.2]) σ:=by
 simp only[zBf,zI8,zVs];cases σ[j]? with
 | none=>rfl
 | some o =>
  cases o<;>try rfl
  rename_i l n met;simp only;cases σ[l]? with
  | none=>rfl
  | some o =>
   cases o<;>try (cases met.getLast?<;>rfl)
   rename_i fr nk es;cases fr
   ·cases met.getLast?<;>simp
   ·cases met.getLast? with
    | none=>simp
    | some i =>
     simp only;apply propext;cases hp:es[i]? with
     | none =>
      refine⟨fun h=>h.2.elim,?_⟩;rintro⟨_,i',p',h1,h2,_⟩;have h1:=jB1 h1;subst h1;rw[hp]at h2;exact absurd h2 (by simp)
     | some p =>
      refine⟨fun h=>⟨trivial,i,p,rfl,hp,h.1,h.2⟩,?_⟩;rintro⟨_,i',p',h1,h2,h3,h4⟩;have h1:=jB1 h1;subst h1;rw[hp]at h2;have h2:=jB1 h2;subst h2;exact⟨h3,h4⟩
@[simp] theorem qHI {sz:Nat}{zs:List Value}{l n o k c:Nat}:zBf (.clr sz zs) [.win l n o k c] K σ = (match σ[l]? with
 | some (.row fz e s m cs)=>(n=m∧s=sz∧fz=false∧o+k*sz≤cs.length)∧K (.tup []) (σ.set l (.row false e sz n (cs.take o++(List.replicate k (zs.map qS)).flatten++cs.drop (o+k*sz))))
 | _=>False):=rfl
@[simp] theorem qHN {e:TypeId}{sz bytes:Nat}{zs:List Value}{k k':IntKind}{n c:Int}:zBf (.mks e sz bytes zs) [.lit (.int k n),.lit (.int k' c)] K σ = ((0≤n∧c=n∧n≤1000000000000∧bytes*n.toNat≤281474976710656)∧K (.row σ.length n.toNat) (σ++[.row false e sz n.toNat ((List.replicate n.toNat (zs.map qS)).flatten)])):=rfl
@[simp] theorem qHJ {k k':IntKind}{n:Int}:zBf (.cvt k) [.lit (.int k' n)] K σ = K (.lit (.int k (k.wrap n))) σ:=rfl
@[simp] theorem qDr {n:Nat}{cs:List A}:zBf .str [.fsl n cs] K σ = (match zGE cs with
 | some xs=>(xs.length=n∧n≠0)∧K (.lit (.string (strOfNums xs))) σ
 | none=>False):=rfl
@[simp] theorem qDq {xs:List A}:zBf .boom xs K σ = False:=by cases xs<;>rfl
@[simp] theorem qLm {rf:Bool→Nat→Nat→A}{g:Nat→Option Nat}(ks:List Int):vw rf g (zJz ks)=zJz ks:=by
 have:∀ks:List Int,vwL rf g (ks.map fun n=>A.lit (.int .i64 n))=ks.map fun n=>A.lit (.int .i64 n):=fun ks=>by
  induction ks with
  | nil=>rfl
  | cons k ks ih=>simp[vwL,ih]
 match ks with
 | []=>simp[zJz]
 | [n]=>simp[zJz]
 | a::b::ks=>simp only[zJz,qCe,this]
end
end Go.Abs
namespace Go.Abs
attribute [simp] A.bnd zBe AObj.bnd zFt
@[simp] theorem qLI {b k:Nat}:(yv b).bnd k=true:=rfl
section
variable {P:Program}{Qp:Value→Env→St→Prop}{Qd:Value→St→Prop}{K':Env→St→Prop}{env:Env} {σ : St}{d:Option Nat}{x:Operand}
def qBh:A→Option Int
 | .lit (.int _ j)=>some j
 | _=>none
@[simp] theorem qHA {k:IntKind}{j:Int}:qBh (.lit (.int k j))=some j:=rfl
@[simp] theorem zYB {n:Nat}:qM env n none=some (n:Int):=rfl
@[simp] theorem zYC {n:Nat}:qM env n (some x)=qBh (ev env x):=by
 simp only[qM,qBh];cases ev env x with
 | lit u=>cases u<;>rfl
 | _=>rfl
def zD7 (a b:Option Int)(J:Int→Int→Prop):Prop:=match a,b with
 | some l,some h=>J l h
 | _,_=>False
@[simp] theorem qAc {l h:Int}{J:Int→Int→Prop}:zD7 (some l) (some h) J=J l h:=rfl
def zVV (a:A)(lo:Option Int)(hi:Nat→Option Int)(sz:Nat)(J:A→Prop):Prop:=match a with
 | .sl n cs=>zD7 lo (hi n) fun l h=>(0≤l∧l≤h∧h≤n)∧J (.sl (h-l).toNat ((cs.drop (l.toNat*sz)).take ((h-l).toNat*sz)))
 | .fsl n cs=>zD7 lo (hi n) fun l h=>(0≤l∧l≤h∧h≤n)∧J (.sl (h-l).toNat ((cs.drop (l.toNat*sz)).take ((h-l).toNat*sz)))
 | .nil=>zD7 lo (hi 0) fun l h=>(l=0∧h=0)∧J .nil
 | _=>False
@[simp] theorem qKS {n:Nat}{cs:List A}{lo:Option Int}{hi:Nat→Option Int}{sz:Nat}{J:A→Prop}:zVV (.sl n cs) lo hi sz J=zD7 lo (hi n) fun l h=>(0≤l∧l≤h∧h≤n)∧J (.sl (h-l).toNat ((cs.drop (l.toNat*sz)).take ((h-l).toNat*sz))):=rfl
@[simp] theorem qIA {n:Nat}{cs:List A}{lo:Option Int}{hi:Nat→Option Int}{sz:Nat}{J:A→Prop}:zVV (.fsl n cs) lo hi sz J=zD7 lo (hi n) fun l h=>(0≤l∧l≤h∧h≤n)∧J (.sl (h-l).toNat ((cs.drop (l.toNat*sz)).take ((h-l).toNat*sz))):=rfl
@[simp] theorem qIB {lo:Option Int}{hi:Nat→Option Int}{sz:Nat}{J:A→Prop}:zVV .nil lo hi sz J=zD7 lo (hi 0) fun l h=>(l=0∧h=0)∧J .nil:=rfl
@[simp] theorem qLF {sz:Nat}{lo hi:Option Operand}:wpO P Qp K' (.slc d x sz lo hi none) env σ = zVV (ev env x) (qM env 0 lo) (fun n=>qM env n hi) sz fun r=>K' (env.put d r) σ:=by
 show qX (zJ env σ (.slc d x sz lo hi none)) _=_;simp only[zJ,zVV];generalize ev env x=a;cases a<;>try rfl
 all_goals
  simp only[zD7];generalize qM env _ lo=u;generalize qM env _ hi=v;cases u<;>cases v<;>rfl
def zFh (o:Option AObj)(n sz:Nat)(J:Prop):Prop:=match o with
 | some (.row _ _ s m _)=>if n=m∧s=sz then J else False
 | _=>False
@[simp] theorem qBF {fz:Bool}{e s n m sz:Nat}{cs:List A}{J:Prop}:zFh (some (.row fz e s m cs)) n sz J=((n=m∧s=sz)∧J):=by simp only[zFh];by_cases h:n=m∧s=sz<;>simp[h]
def zMy (σ : St)(a:A)(lo:Option Int)(hi:Nat→Option Int)(sz:Nat)(J:A→Prop):Prop:=match a with
 | .row l n=>zFh σ[l]? n sz (zD7 lo (hi n) fun l' h=>(0≤l'∧l'≤h∧h≤n)∧J (.win l n (l'.toNat*sz) (h-l').toNat sz))
 | .win l n o k c=>zFh σ[l]? n sz (zD7 lo (hi k) fun l' h=>((0≤l'∧l'≤h∧h≤k)∧c=sz)∧J (.win l n (o+l'.toNat*sz) (h-l').toNat sz))
 | _=>False
@[simp] theorem qDJ {l n:Nat}{lo:Option Int}{hi:Nat→Option Int}{sz:Nat}{J:A→Prop}:zMy σ (.row l n) lo hi sz J=zFh σ[l]? n sz (zD7 lo (hi n) fun l' h=>(0≤l'∧l'≤h∧h≤n)∧J (.win l n (l'.toNat*sz) (h-l').toNat sz)):=rfl
@[simp] theorem qDK {l n o k c:Nat}{lo:Option Int}{hi:Nat→Option Int}{sz:Nat}{J:A→Prop}:zMy σ (.win l n o k c) lo hi sz J=zFh σ[l]? n sz (zD7 lo (hi k) fun l' h=>((0≤l'∧l'≤h∧h≤k)∧c=sz)∧J (.win l n (o+l'.toNat*sz) (h-l').toNat sz)):=rfl
theorem zMz {sz:Nat}{lo hi:Option Operand}{J:A→Prop}:qX (zJ env σ (.rslc d x sz lo hi)) J=zMy σ (ev env x) (qM env 0 lo) (fun n=>qM env n hi) sz J:=by
 simp only[zJ,zMy];generalize ev env x=a;have key:∀(ob:Option AObj) (n k:Nat) (f:Int→Int→Prop×A),qX (match ob with
  | some (.row _ _ s m _)=>if n=m∧s=sz then (match qM env 0 lo,qM env k hi with
   | some l',some h=>some (f l' h)
   | _,_=>none) else none
  | _=>none) J=zFh ob n sz (zD7 (qM env 0 lo) (qM env k hi) fun l' h=>(f l' h).1∧J (f l' h).2):=by
  intro ob n k f;simp only[zFh,zD7];cases ob with
  | none=>rfl
  | some ob =>
   cases ob<;>try rfl
   simp only;split
   ·generalize qM env 0 lo=u;generalize qM env k hi=v;cases u<;>cases v<;>rfl
   ·rfl
 cases a<;>try rfl
 ·rename_i l n;exact key σ[l]? n n fun l' h=>(0≤l'∧l'≤h∧h≤n,.win l n (l'.toNat*sz) (h-l').toNat sz)
 ·rename_i l n o k c;exact key σ[l]? n k fun l' h=>((0≤l'∧l'≤h∧h≤k)∧c=sz,.win l n (o+l'.toNat*sz) (h-l').toNat sz)
@[simp] theorem qJl {sz:Nat}{lo hi:Option Operand}:wpO P Qp K' (.rslc d x sz lo hi) env σ = zMy σ (ev env x) (qM env 0 lo) (fun n=>qM env n hi) sz fun r=>K' (env.put d r) σ:=zMz (d:=d)
@[simp] theorem qCw {fl sz:Nat}{lo hi:Option Operand}:jI P Qd fl K' (.rslc d x sz lo hi) env σ = zMy (zDx fl σ) (ev env x) (qM env 0 lo) (fun n=>qM env n hi) sz fun r=>K' (env.put d r) σ:=zMz (d:=d)
@[simp] theorem qHj {sz l n:Nat}{k:IntKind}{j:Int}{J:A→Prop}:zFF σ sz (.row l n) (.lit (.int k j)) J=zFh σ[l]? n sz ((0≤j∧j<n)∧J (.rwp l n (j.toNat*sz))):=by
 simp only[zFF,zFh];cases σ[l]? with
 | none=>rfl
 | some o=>cases o<;>rfl
@[simp] theorem qHk {sz l n o k' c:Nat}{k:IntKind}{j:Int}{J:A→Prop}:zFF σ sz (.win l n o k' c) (.lit (.int k j)) J=zFh σ[l]? n sz ((0≤j∧j<k')∧J (.rwp l n (o+j.toNat*sz))):=by
 simp only[zFF,zFh];cases σ[l]? with
 | none=>rfl
 | some o=>cases o<;>rfl
def zJm (o:Option AObj)(n:Nat)(J:Prop):Prop:=match o with
 | some (.row _ _ _ m _)=>if n=m then J else False
 | _=>False
@[simp] theorem qBE {fz:Bool}{e s n m:Nat}{cs:List A}{J:Prop}:zJm (some (.row fz e s m cs)) n J=(n=m∧J):=by simp only[zJm];by_cases h:n=m<;>simp[h]
@[simp] theorem qH7 {l n:Nat}{J:A→Prop}:zFm σ (.row l n) J=zJm σ[l]? n (J (.lit (.int .i64 n))):=by
 simp only[zFm,zJm];cases σ[l]? with
 | none=>rfl
 | some o=>cases o<;>rfl
@[simp] theorem qH8 {l n o k c:Nat}{J:A→Prop}:zFm σ (.win l n o k c) J=zJm σ[l]? n (J (.lit (.int .i64 k))):=by
 simp only[zFm,zJm];cases σ[l]? with
 | none=>rfl
 | some o=>cases o<;>rfl
@[simp] theorem qH4 {l n o k c:Nat}{J:A→Prop}:zLs σ (.win l n o k c) J=zJm σ[l]? n (J (.lit (.int .i64 k))):=by
 simp only[zLs,zJm];cases σ[l]? with
 | none=>rfl
 | some o=>cases o<;>rfl
def zUd (ob:Option AObj)(l n o off:Nat):Option A:=match ob with
 | some (.row _ _ _ m _)=>if n=m then some (.rwp l n (o+off)) else none
 | _=>none
@[simp] theorem zZT {fz:Bool}{e s n m l o off:Nat}{cs:List A}:zUd (some (.row fz e s m cs)) l n o off=if n=m then some (.rwp l n (o+off)) else none:=rfl
@[simp] theorem qC7 {l n o off:Nat}:zIO σ off (.rwp l n o)=zUd σ[l]? l n o off:=by
 simp only[zIO,zUd];cases σ[l]? with
 | none=>rfl
 | some o=>cases o<;>rfl
end
mutual
theorem zLb {rf:Bool→Nat→Nat→A}{g:Nat→Option Nat}{k:Nat}(hg:∀l,l<k→g l=some l):∀(a:A),a.bnd k=true→vw rf g a=a
 | .any,_=>by simp
 | .nil,_=>by simp
 | .lit _,_=>by simp
 | .agg cs,h=>by simp[zCx hg cs h]
 | .tup cs,h=>by simp[zCx hg cs h]
 | .sl _ cs,h=>by simp[zCx hg cs h]
 | .fsl _ cs,h=>by simp[zCx hg cs h]
 | .rptr cs,h=>by simp[zCx hg cs h]
 | .ptr l _,h=>by simp[hg l (by simpa using h)]
 | .row l _,h=>by simp[hg l (by simpa using h)]
 | .rwp l _ _,h=>by simp[hg l (by simpa using h)]
 | .win l _ _ _ _,h=>by simp[hg l (by simpa [A.bnd] using h)]
 | .map l,h=>by simp only[vw]; rw[hg l (by simpa using h)]
 | .clo _ fs cs,h=>by simp only[A.bnd,jA6]at h;simp[zCx hg fs h.1,zCx hg cs h.2]
theorem zCx {rf:Bool→Nat→Nat→A}{g:Nat→Option Nat}{k:Nat}(hg:∀l,l<k→g l=some l):∀(cs:List A),zBe k cs=true→vwL rf g cs=cs
 | [],_=>by simp
 | c::cs,h=>by simp only[zBe,jA6]at h;simp[zLb hg c h.1,zCx hg cs h.2]
end
theorem zN8 {rf:Bool→Nat→Nat→A}{g:Nat→Option Nat}{k:Nat}(hg:∀l,l<k→g l=some l)(o:AObj)(h:o.bnd k=true):vwO rf g o=o:=by
 cases o with
 | dead=>rfl
 | box cs=>simp only[AObj.bnd]at h; simp[zCx hg cs h]
 | row fz e sz n cs=>simp only[AObj.bnd]at h; simp[zCx hg cs h]
 | lp b r M es =>
  simp only[AObj.bnd,jAz]at h;simp only[qCc,AObj.lp.injEq,true_and]
  conv=>rhs; rw[←List.map_id es]
  exact jBp fun p hp=>by rw[zLb hg _ (h p hp)]; rfl
 | mp fr nk es =>
  simp only[AObj.bnd,jAz]at h;simp only[qCd,AObj.mp.injEq,true_and]
  conv=>rhs; rw[←List.map_id es]
  exact jBp fun p hp=>by rw[zLb hg _ (h p hp)]; rfl
 | it m n met =>
  simp only[AObj.bnd,decide_eq_true_eq]at h;rw[qCb,hg m h]
 | rsv=>rfl
theorem zID:∀{l:List Nat} {x:Nat} {r:List Nat},x∉l→qA (l++r) x=(qA r x).map (· + l.length)
 | [],x,r,_=>by simp
 | y::l,x,r,h=>by
  simp only[jA7,not_or]at h;simp only[jB0,zHh,h.1,if_false,zID h.2,Option.map_map]
  congr 1
theorem zHg:∀{l:List Nat} {x i:Nat} {r:List Nat},qA l x=some i→qA (l++r) x=some i
 | [],x,i,r,h=>by simp at h
 | y::l,x,i,r,h=>by
  simp only[jB0,zHh]at h⊢;split
  ·rename_i e; simpa [e] using h
  ·rename_i e;simp only[e,if_false,jAe]at h;obtain⟨j,hj,rfl⟩:=h;rw[zHg hj]; rfl
theorem zFQ:∀{k l:Nat},l<k→qA (List.range k) l=some l
 | k+1,l,h=>by
  rw[List.range_succ];rcases jAo l k with hl | hl
  ·exact zHg (zFQ hl)
  ·have e:l=k:=by omega
   subst e;rw[zID (by simp)];simp
def Cl (m:Nat)(S:St):Prop:=S.length=m∧∀o∈S,o.bnd m=true
theorem Cl.app {m k:Nat}{S own:St}(h:Cl m S)(hk:own.length=k)(ho:∀o∈own,o.bnd (m+k)=true):Cl (m+k) (S++own):=by
 refine⟨by simp[h.1,hk],fun o hm=>?_⟩;rcases jAb.1 hm with hm | hm
 ·exact AObj.bnd_mono (Nat.le_add_right m k) _ (h.2 o hm)
 ·exact ho o hm
section
variable {P:Program}{n0:Nat}{Qp:Value→Env→St→Prop}{Qd:Value→St→Prop}{K':Env→St→Prop}{KD:Env→Prop}{Q:Ex→Env→St→Prop}{env:Env} {σ : St}{d:Option Nat}
theorem yY {m k:Nat}{S own:St}(h:S.length=m):(S++own)[m+k]?=own[k]?:=by rw[jAp (by omega)]; congr 1; omega
theorem zAc {m:Nat}{S own:St}(h:S.length=m):(S++own)[m]?=own[0]?:=by rw[jAp (by omega)]; congr 1; omega
theorem zAE {m k:Nat}{S own:St}{o:AObj}(h:S.length=m):(S++own).set (m+k) o=S++own.set k o:=by rw[List.set_append_right _ _ (by omega)]; congr 2; omega
theorem zHZ {m:Nat}{S own:St}{o:AObj}(h:S.length=m):(S++own).set m o=S++own.set 0 o:=by rw[List.set_append_right _ _ (by omega)]; congr 2; omega
theorem zKS {rf:Bool→Nat→Nat→A}{g:Nat→Option Nat}{m:Nat}(hg:∀l,l<m→g l=some l) {σ : St}:∀(k:Nat) (S:St),k+S.length≤m→(∀i o,S[i]?=some o→σ[k+i]?=some o)→(∀o∈S,o.bnd m=true)→yR σ rf g (List.range' k S.length) S
 | _,[],_,_,_=>trivial
 | k,o::S,hk,h,hb=>by simp only[jAl,List.range'_succ,zRc];refine⟨?_,zKS hg (k+1) S (by simp only[jAl]at hk; omega) (fun i o' hi=>by have:=h (i+1) o' (by simpa using hi); rwa [show k+1+i=k+(i+1) by omega]) (fun o' ho'=>hb o' (jAh _ ho'))⟩;have:=h 0 o (by simp);simp only[jBl]at this;rw[this];exact .inl (zN8 hg o (hb o (jAk ..))).symm
theorem zRZ {rf:Bool→Nat→Nat→A}{m:Nat}{S own:St}(h:Cl m S):yR (S++own) rf (qA (List.range m)) (List.range m) S:=by have:=zKS (rf:=rf) (g:=qA (List.range m)) (m:=m) (fun l hl=>zFQ hl) (σ:=S++own) 0 S (by rw[h.1]; omega) (fun i o hi=>by rw[jAq,jAd (jA1.1 hi).1]; exact hi) h.2;rw[h.1,←List.range_eq_range']at this;exact this
theorem zIQ:∀{k j n l:Nat},l<k→back (List.range' j k) n l=j+l
 | k+1,j,n,0,_=>by simp[List.range'_succ]
 | k+1,j,n,l+1,h=>by simp only[List.range'_succ,zSl];rw[zIQ (by omega)]; omega
theorem zJH {k n l:Nat}(h:l<k):back (List.range k) n l=l:=by rw[List.range_eq_range',zIQ h]; omega
theorem zHl:∀{S' S own:St} (k:Nat) (pre:St),pre.length=k→S'.length=S.length→qN (pre++S++own) (List.range' k S.length) S'=pre++S'++own
 | [],[],own,k,pre,_,_=>by simp
 | o'::S',o::S,own,k,pre,hk,hl=>by
  simp only[jAl,List.range'_succ,zJk];have e:(pre++(o::S)++own).set k o'=(pre++[o'])++S++own:=by subst hk;simp
  rw[e,zHl (k+1) (pre++[o']) (by simp[hk]) (by simpa using hl)];simp
 | [],o::S,_,_,_,_,hl=>by simp at hl
 | _::_,[],_,_,_,_,hl=>by simp at hl
theorem zIp {b m:Nat}{S S' own:St}{x args:List A}(h:Cl m S)(h':Cl m S')(hy:zCg P b x S fun o τ=>o=.ret (.lit (.bool true))∧τ = S')(ha:zBg (List.range m) args x){Q:Out→St→Prop}(hq:Q (.ret (.lit (.bool true))) (S'++own)) :
 zCg P b args (S++own) Q:=by
 refine zSs hy (List.range m) List.nodup_range (zRZ h) ha ?_;have e:S'.map (zAQ (List.range m) (S++own).length)=S':=by
  conv=>rhs; rw[←List.map_id S']
  exact jBp fun o ho=>by simp only[zAQ,id];exact zN8 (fun l hl=>by rw[zJH hl]) o (h'.2 o ho)
 rw[e];have:=zHl (own:=own) 0 [] rfl (by rw[h.1,h'.1]:S'.length=S.length);rw[h.1,←List.range_eq_range']at this;simp only[jBj]at this;rw[this]
 simpa [ren] using hq
theorem zNn {H:Mem}{L:List LI}{w:World}(hs:RelSt H L σ w){l n:Nat}{e:TypeId}{sz:Nat}{cs:List A}{v:Value}(hσ : σ[l]?=some (.row false e sz n cs))(hv:Rel H L (.row l n) v) :
 ∃H',Nxt H L w H' L (σ.set l (.row true e sz n cs)) w∧Rel H' L (.sl n cs) v:=by
 simp only[Rel]at hv;obtain⟨_,li,e1,e2,e3,hv⟩:=hv;have hob:=hs.obj l li _ e1 hσ;simp only[zN]at hob;obtain⟨_,hln,hcl,hob⟩:=hob;have hv:=hv hln.symm;rcases hob with ⟨hb,h0⟩ | ⟨b,cur,hb,hh,k1,k2,k3,k4,k5,k6⟩
 ·rw[hb]at hv;subst h0;have hcs:cs=[]:=jBn (by simpa using hcl);refine⟨H,⟨⟨hs.pers,by simp[hs.len],fun i x o hL ho=>?_,hs.inj,hs.lt⟩,Step.refl _ _ _,LLe.refl _,fun _ h=>.inl h⟩,?_⟩
  ·by_cases hi:i=l
   ·subst hi;rw[e1]at hL;cases hL;rw[jAi (jA1.1 hσ).1]at ho;cases ho;simp only[zN];exact⟨e2,hln,hcl,.inl ⟨hb,trivial⟩⟩
   ·rw[jA8 (Ne.symm hi)]at ho;exact hs.obj i x o hL ho
  ·simp only[Rel];exact⟨none,0,hv,jA _,jAs _,.inl ⟨trivial,hcs⟩⟩
 ·rw[hb]at hv;have hcell:∀(j:Nat) u,(cur.toList.take (n*sz))[j]?=some u→w.cell? ⟨b,j,none⟩=some u:=fun j u hu=>by
   rw[cell_of_row w b j cur e (0,0) hh];rw[jB6]at hu;split at hu
   ·simpa using hu
   ·cases hu
  have hA:=zEO (H:=H) (B:=b) (us:=cur.toList.take (n*sz)) (fun o v hv'=>by rw[k6]at hv'; cases hv');have hle:HLe H (zLo H b (cur.toList.take (n*sz))):=fun b' o' v' hv'=>by
   simp only[hA];split
   ·rename_i e; subst e; rw[k6]at hv'; cases hv'
   ·exact hv'
  have hat:At (zLo H b (cur.toList.take (n*sz))) b 0 (cur.toList.take (n*sz)):=fun i u hu=>by simp[hA,hu]
  refine⟨zLo H b (cur.toList.take (n*sz)),zGs hs e1 hb rfl rfl rfl rfl (fun d=>by rw[hh]; simp) rfl (fun _ _=>rfl) hle (fun b' o' v' hv'=>?_) (fun o' v' hv'=>?_) ?_,?_⟩
  ·simp only[hA]at hv';split at hv'
   ·rename_i e; exact .inr e
   ·exact .inl hv'
  ·simp only[hA,if_true]at hv';exact hcell _ _ hv'
  ·simp only[zN];refine⟨e2,hln,hcl,.inr ⟨b,cur,hb,hh,k1,k2,k3,zQ.mono hle (LLe.refl _) _ k4,k5,hat,fun o ho=>?_⟩⟩;simp only[hA,if_true];rw[jB7];simp only[jB2];omega
  ·simp only[Rel];exact⟨_,_,hv,k1,k2,.inr ⟨b,0,_,rfl,zQ.mono hle (LLe.refl _) _ k4,k5,hat⟩⟩
theorem zSt {b l n:Nat}{e:TypeId}{sz:Nat}{cs:List A}(hσ : σ[l]?=some (.row false e sz n cs)){Q:Out→St→Prop}(h:zCg P b [.sl n cs] (σ.set l (.row true e sz n cs)) Q):zCg P b [.row l n] σ Q:=by intro H L w vs hs hvs;obtain⟨v,vs',rfl,h1,h2⟩:=zS hvs;have:=qY h2;subst this;obtain⟨H',hn,hr⟩:=zNn hs hσ h1;obtain⟨f,tmps,x,y,k1,k2⟩:=h H' L w [v] hn.st (qH hr jF);refine⟨f,tmps,x,y,k1,k2.mono fun e w' hh=>?_⟩;obtain⟨o,σ',H2,L2,g1,g2,g3⟩:=hh;exact⟨o,σ',H2,L2,g1,hn.trans g2,g3⟩
theorem exY {b m k n:Nat}{S S' own:St}{e:TypeId}{sz:Nat}{cs:List A}{J:A→St→Prop}(ho:own[k]?=some (.row false e sz n cs))(h:Cl m S)(h':Cl m S')(hc:zBe 0 cs=true)
 (hy:zCg P b [.sl n cs] S fun o τ=>o=.ret (.lit (.bool true))∧τ = S')(hq:J (.lit (.bool true)) (S'++own.set k (.row true e sz n cs))) :
 ∃r σ',(zCg P b [.row (m+k) n] (S++own) fun o τ=>o=.ret r∧τ = σ')∧J r σ':=by
 refine⟨_,_,zSt (by rw[yY h.1]; exact ho) ?_,hq⟩;rw[zAE h.1];exact zIp h h' hy (by simp[zCx (k:=0) (fun l hl=>by omega) cs hc]) ⟨rfl,rfl⟩
theorem zIG {H:Mem}{L:List LI}{w:World}(hs:RelSt H L σ w){l:Nat}{o o':AObj}(hl : σ[l]?=some o)(h:∀li,zN H L w li o→zN H L w li o'):RelSt H L (σ.set l o') w:=by
 refine⟨hs.pers,by simp[hs.len],fun i x p hL hp=>?_,hs.inj,hs.lt⟩;by_cases hi:i=l
 ·subst hi;rw[jAi (jA1.1 hl).1]at hp;cases hp;exact h x (hs.obj i x o hL hl)
 ·rw[jA8 (Ne.symm hi)]at hp;exact hs.obj i x p hL hp
theorem zAU {l o:Nat}{cs:List A}(hl : σ[l]?=some (.box cs))(hc:cs[o]?=some .nil)(e:TypeId)(sz:Nat):zA4 n0 env (σ.set l (.box (cs.set o (.row σ.length 0)))++[AObj.row false e sz 0 []]) env σ:=by
 intro H0 L0 w0 H L w N tmps h0 h1 h2;have hn:=zBZ h1.st e sz;have hlt:l < σ.length:=(jA1.1 hl).1;have hl':(σ++[AObj.row false e sz 0 []])[l]?=some (.box cs):=by rw[jAd hlt]; exact hl
 have hs:=zIG (o':=.box (cs.set o (.row σ.length 0))) hn.st hl' (fun li hob=>by
  simp only[zN]at hob ⊢;obtain⟨g0,b,vs,e',g1,g2,g3,g4,g5⟩:=hob;obtain⟨v,hv,hrel⟩:=g3.get hc;simp only[Rel]at hrel;subst hrel;have hset:vs=vs.set o (.slice none 0 0):=by
   apply jC4;intro i;by_cases hi:i=o
   ·subst hi; rw[jAi (jA1.1 hv).1,hv]
   ·rw[jA8 (Ne.symm hi)]
  refine⟨g0,b,vs,e',g1,g2,?_,g4,g5⟩;rw[hset];refine g3.set o ?_;simp only[Rel];exact⟨rfl,⟨none,0,0,true⟩,by rw[←h1.st.len]; simp,rfl,jA _,fun _=>rfl⟩)
 rw[List.set_append_left _ _ hlt]at hs;have hm:=h1.trans hn;exact⟨H,_,⟨hs,hm.step,hm.lle,hm.own⟩,h2.1,fun x=>Rel.mono (HLe.refl _) hn.lle _ (h2.2 x)⟩
theorem zMO {K:Env→St→Prop}{f:FuncId}{args args':List A}{r:A} {σ1:St}(h:Ret P f args [] r σ1)(ha:zBg [] args' args)(hq:K (env.put d (ren [] σ.length r)) (σ++σ1.map (zAQ [] σ.length))):zIg P σ d K f args' env :=
 ⟨_,_,zAj.append _ _,zA7 h [] (by simp) trivial ha ⟨rfl,by simp⟩,hq⟩
theorem zHX {rf:Bool→Nat→Nat→A}{g:Nat→Option Nat} {σ τ : St}(hk:zBi σ τ):∀{js:List Nat} {os:St},(∀o∈os,o≠AObj.rsv)→yR σ rf g js os→yR τ rf g js os
 | [],[],_,h=>h
 | j::js,o::os,hn,h=>by
  simp only[yR]at h⊢;cases hj : σ[j]? with
  | none=>rw[hj]at h; exact h.1.elim
  | some x =>
   rw[hj]at h;have hx:x≠AObj.rsv:=fun e=>by
    subst e;rcases h.1 with e | e
    ·exact hn o (jAk ..) (by simpa [vwO] using e)
    ·exact hn o (jAk ..) (by simpa [vwO] using e)
   rw[hk j x hj hx];exact⟨h.1,zHX hk (fun o ho=>hn o (jAh _ ho)) h.2⟩
 | [],_::_,_,h=>h
 | _::_,[],_,h=>h
theorem zMu {c:Nat}:∀{js:List Nat} {σ s1:St},(∀j∈js,j<c)→(∀j∈js,j < σ.length)→s1.length=js.length→KA c σ (qN σ js s1)
 | [],σ,s1,_,_,hl=>by
  have:s1=[]:=jBn hl;subst this
  simpa [qN] using KA.refl c σ
 | j::js,σ,o::s1,hc,hj,hl=>by have h1:=hc j (jAk ..);have ih:=zMu (c:=c) (js:=js) (σ:=σ.set j o) (s1:=s1) (fun i hi=>hc i (jAh _ hi)) (fun i hi=>by rw[jBi]; exact hj i (jAh _ hi)) (by simpa using hl);intro l cs hle hσ;exact ih l cs hle (by rw[jA8 (by omega)]; exact hσ)
 | _::_,_,[],_,_,hl=>by simp at hl
theorem zM2 {rf:Bool→Nat→Nat→A}{g:Nat→Option Nat} {σ : St}:∀{js:List Nat} {os:St},(∀o∈os,o≠AObj.rsv)→yR σ rf g js os→∀j∈js,∃x,σ[j]?=some x∧x≠AObj.rsv
 | [],_,_,_,j,hj=>by cases hj
 | _::_,[],_,h,_,_=>h.elim
 | i::js,o::os,hn,h,j,hj=>by
  simp only[yR]at h;rcases jA7.1 hj with rfl | hj
  ·cases hx : σ[j]? with
   | none=>rw[hx]at h; exact h.1.elim
   | some x =>
    rw[hx]at h;refine⟨x,rfl,fun e=>?_⟩;subst e;rcases h.1 with e | e
    ·exact hn o (jAk ..) (by simpa [vwO] using e)
    ·exact hn o (jAk ..) (by simpa [vwO] using e)
  ·exact zM2 (fun o ho=>hn o (jAh _ ho)) h.2 j hj
theorem zT3 {js:List Nat}{n:Nat}{o:AObj}(h:o≠AObj.rsv):zAQ js n o≠AObj.rsv:=by cases o<;>first | (exact(h rfl).elim) | (simp only[zAQ,vwO]; first | (split<;>simp) | simp)
theorem zKH:∀{js:List Nat} {s vs:St} {q:Nat},(∀o∈vs,o≠AObj.rsv)→vs.length=js.length→(qN s js vs)[q]?=some AObj.rsv→s[q]?=some AObj.rsv
 | [],s,[],q,_,_,h=>by simpa [qN] using h
 | [],_,_::_,_,_,hl,_=>by simp at hl
 | _::_,_,[],_,_,hl,_=>by simp at hl
 | j::js,s,o::vs,q,hn,hl,h=>by
  have h2:(s.set j o)[q]?=some AObj.rsv:=zKH (js:=js) (fun x hx=>hn x (jAh _ hx)) (by simpa using hl) h;by_cases e:q=j
  ·subst e;rcases jAo q s.length with hlt | hge
   ·rw[jAi hlt]at h2;cases h2;exact(hn _ (jAk ..) rfl).elim
   ·rw[jB7 (by simpa using hge)]at h2; cases h2
  ·rw[jA8 (Ne.symm e)]at h2;exact h2
theorem zKI:∀{js:List Nat} {s vs:St} {q:Nat} {o:AObj},q∉js→vs.length=js.length→qN (s.set q o) js vs=(qN s js vs).set q o
 | [],s,[],q,o,_,_=>by simp[qN]
 | [],_,_::_,_,_,_,hl=>by simp at hl
 | _::_,_,[],_,_,_,hl=>by simp at hl
 | j::js,s,x::vs,q,o,hq,hl=>by
  have hne:q≠j:=fun e=>hq (by simp[e])
  show qN ((s.set q o).set j x) js vs=(qN (s.set j x) js vs).set q o;rw[List.set_comm _ _ hne];exact zKI (fun h=>hq (jAh _ h)) (by simpa using hl)
theorem zR1 {K:Env→St→Prop}{f:FuncId}{args args':List A}{r:A}{s0 s1:St}(h:Ret P f args s0 r s1)(js:List Nat)(hjs:js.Nodup)(hn0:∀o∈s0,o≠AObj.rsv)(hn1:∀o∈s1,o≠AObj.rsv)(hd:yR σ jN (qA js) js s0)(ha:zBg js args' args)
 (hl:s1.length=js.length)(hq:K (env.put d (ren js σ.length r)) (qN σ js (s1.map (zAQ js σ.length)))):zLe P σ d K f args' env:=by
 have hn1':∀o∈s1.map (zAQ js σ.length),o≠AObj.rsv:=fun o ho=>by obtain⟨x,hx,rfl⟩:=jAm.1 ho;exact zT3 (hn1 x hx)
 refine⟨ren js σ.length r,fun τ=>qN τ js (s1.map (zAQ js σ.length)),⟨fun q hq=>zKH hn1' (by simpa using hl) hq,fun τ q o _ _ hq=>zKI (fun hm=>?_) (by simpa using hl)⟩,fun τ hlt hk=>?_,hq⟩
 ·obtain⟨x,hx,hne⟩:=zM2 hn0 hd q hm;rw[hq]at hx;cases hx;exact hne rfl
 ·rw[←hlt];exact zA7 h js hjs (zHX hk hn0 hd) ha ⟨rfl,rfl⟩
theorem zAK {K:Env→St→Prop}{f:FuncId}{args args':List A}{r:A}{s0 s1:St}(h:Ret P f args s0 r s1)(js:List Nat)(hjs:js.Nodup)(hd:yR σ jN (qA js) js s0)(ha:zBg js args' args)
 (hq:K (env.put d (ren js σ.length r)) (qN σ js (s1.map (zAQ js σ.length)))):zIi P σ d K f args' env:=⟨_,_,zA7 h js hjs hd ha ⟨rfl,rfl⟩,hq⟩
theorem zBo {K:Env→St→Prop}{c:Nat}{f:FuncId}{args args':List A}{r:A}{s0 s1:St}(h:Ret P f args s0 r s1)(js:List Nat)(hjs:js.Nodup)(hd:yR σ jN (qA js) js s0)(ha:zBg js args' args)
 (hc:∀j∈js,j<c)(hlt:∀j∈js,j < σ.length)(hl:s1.length=js.length)(hq:K (env.put d (ren js σ.length r)) (qN σ js (s1.map (zAQ js σ.length)))):zLd P c σ d K f args' env :=
 ⟨_,_,zMu hc hlt (by simpa using hl),zA7 h js hjs hd ha ⟨rfl,rfl⟩,hq⟩
theorem zNx {m:Nat}{S own:St}{r:A}(h:Cl m S)(hr:r.bnd 0=true):zFq m r S (.ret r) (S++own) :=
 zH (List.range m) 0 (fun i hi=>by simp[hi]) List.nodup_range (zRZ h) (.inl (zLb (k:=0) (fun l hl=>by omega) r hr).symm)
theorem zFH {g:FuncId}{first cap:List A}{X:List (List A)}(h:∀(b m:Nat)(T:Nat→St),(∀i,i≤X.length→Cl m (T i))→(∀i (h:i<X.length),zCg P b X[i] (T i) fun o τ=>o=.ret (.lit (.bool true))∧τ = T (i+1)) →
 Ret P g (first++[yv b]++cap) (T 0) (.tup []) (T X.length)):zRq P g first cap X:=fun b m T hT hY=>yV.mono (h b m T hT hY) fun _ _ ⟨h1,h2⟩=>⟨⟨_,h1⟩,h2⟩
end
end Go.Abs
namespace Go.Proofs.YtdnelmeboihpkaaGreatDoor
open Go.Abs
def K70:K:=G [kMb 2 false] (G [M 3 0,M 4 0,kQ 5 3 4 true,M 2 5] kr)
theorem c70:zR prog Tryz.f122.ntmps (Tryz.f122.body.getD .skip)=some K70.erase:=by kernel_rfl
@[simp] theorem qO1:zA prog 122=true:=by kernel_rfl
def K47:K:=G [kMi 4 0] (G [M 7 0,kC 8 122 [(kt 7)],M 5 8] (G [M 9 1,kC 10 122 [(kt 9)],M 6 10] (Z (G [M 11 5] (Y 11 (Z (G [M 12 6] (Y 12 (G [kMi 4 0] kr) ks)) (G [⟨none,.mov (some 4) (kc (-1))⟩] kr)) ks)) (Z (G [M 13 6] (Y 13 (G [kMi 4 1] kr) ks)) (Z (G [M 14 0,M 15 1,kB 16 14 15 .lss] (Y 16 (G [⟨none,.mov (some 4) (kc (-1))⟩] kr) ks)) (Z (G [M 17 0,M 18 1,kB 19 17 18 .gtr] (Y 19 (G [kMi 4 1] kr) ks)) (G [kMi 4 0] kr)))))))
theorem c47:zR prog Tryz.f80.ntmps (Tryz.f80.body.getD .skip)=some K47.erase:=by kernel_rfl
@[simp] theorem qOz:zA prog 80=true:=by kernel_rfl
def K46:K:=G [kMi 2 0] (G [kMi 3 0] (Z (G [M 6 0,kN 7 6,kMi 8 0] (K.block 0 (K.loop (G [kB 9 8 7 .lss] (Z (Y 9 ks (K.exit 0)) (Z (K.block 1 (G [kX 10 6 8 1,L 11 10 1,M 5 11] (G [M 12 5,M 13 3,kQ 14 12 13 true] (Y 14 (G [M 15 5,M 2 15] kr) ks)))) (K.ops [kBi 16 8 1 .add,M 8 16]))))))) (G [M 17 3,M 2 17] kr)))
theorem c46:zR prog Tryz.f79.ntmps (Tryz.f79.body.getD .skip)=some K46.erase:=by kernel_rfl
@[simp] theorem qOy:zA prog 79=true:=by kernel_rfl
theorem zOK (n:Int):Ret prog 122 [int n] [] (bl false) []:=by refine zI Tryz.func122 rfl c70 (rs:=[.slot 2]) (by kernel_rfl) ?_;unfold K70;simp;exact zB 0 (by simp)
def zA2 (a b:Int):Int:=if a<b then -1 else if b<a then 1 else 0
theorem zBW (a b:Int):Ret prog 80 [int a,int b] [] (int (zA2 a b)) []:=by
 refine zI Tryz.func80 rfl c47 (rs:=[.slot 4]) (by kernel_rfl) ?_;unfold K47;simp;refine qD (zOK a) (by simp) (by simp) ?_;simp;refine qD (zOK b) (by simp) (by simp) ?_;simp;refine qR (fun h=>?_) (fun h=>?_)<;>simp at h<;>simp
 ·exact zB 0 (by simp[zA2,h])
 refine qR (fun h'=>?_) (fun h'=>?_)<;>simp at h'<;>simp
 ·exact zB 0 (by simp[zA2,h',Int.not_lt.2 h])
 ·exact zB 0 (by simp[zA2,Int.not_lt.2 h,Int.not_lt.2 h'])
def orI:List Int→Int
 | []=>0
 | a::l=>if a=0 then orI l else a
def zAM (l:List Int):List A:=l.map int
theorem zHc:∀(l:List Int),qF (zAM l)
 | []=>qF.nil
 | _::l=>qF.lit (zHc l)
@[simp] theorem qHl (l:List Int):(zAM l).length=l.length:=by simp[zAM]
@[simp] theorem qD4 (l:List Int):qV (zAM l)=zAM l:=(zHc l).1
@[simp] theorem qLl {rf g}(l:List Int):vwL rf g (zAM l)=zAM l:=(zHc l).2 _ _
@[simp] theorem qHm:zAM []=[]:=rfl
@[simp] theorem qDh (n:Int)(l:List Int):zAM (n::l)=.lit (.int .i64 n)::zAM l:=rfl
@[simp] theorem zFG (a b:List Int):zAM (a++b)=zAM a++zAM b:=by simp[zAM]
theorem zEk {l:List Int}{i:Nat}(h:i<l.length):(zAM l).drop i=.lit (.int .i64 l[i])::zAM (l.drop (i+1)):=by rw[zAM,←List.map_drop,jAu h]; rfl
theorem zWs {n:Nat}(h:n≤maxLen):IntKind.i64.wrap (n:Int)=n:=IntWalk.i64_in _ (by simp[maxLen]at h; omega)
theorem qP {i n:Nat}(h:i<n)(hn:n≤maxLen):IntKind.i64.wrap ((i:Int)+1)=(i:Int)+1:=IntWalk.i64_in _ (by simp[maxLen]at hn; omega)
theorem zVE (l:List Int):Ret prog 79 [.sl l.length (zAM l)] [] (int (orI l)) []:=by
 refine zI Tryz.func79 rfl c46 (rs:=[.slot 2]) (by kernel_rfl) ?_;unfold K46;simp;intro hl;refine jM (S:=Nat) (fun i=>[(3,int 0),(6,.sl l.length (zAM l)),(7,int l.length),(8,int i)]) (fun s=>[]) (fun i=>i≤l.length∧orI l=orI (l.drop i)) (fun i=>l.length-i) 0 (by simp)
  (zO [] 0 (by simp) (by simp) (by simp) (by simp)) ?_
 rintro i ⟨hi,ho⟩;simp;refine qR (fun h=>?_) (fun h=>?_)<;>simp at h
 ·simp[h,zEk h];have hd:l.drop i=l[i]::l.drop (i+1):=jAu h;refine qR (fun h'=>?_) (fun h'=>?_)<;>simp at h'<;>simp
  ·exact zB 0 (by rw[ho,hd]; simp[orI,h'])
  ·refine zP (i+1) ⟨h,by rw[ho,hd]; simp[orI,h']⟩ (by omega) (zO [] 0 (by simp) (by simp) (by simp) (by simp[qP h hl]))
 ·simp;have:i=l.length:=by omega
  exact zB 0 (by rw[ho,this]; simp[orI])
structure Id where
 a:Int
 b:Int
 c:Int
 deriving DecidableEq
theorem Id.eq_iff {x y:Id}:x=y↔x.a=y.a∧x.b=y.b∧x.c=y.c:=by cases x; cases y; simp
def zC (d:Id):List A:=[.lit (.int .i64 d.a),.lit (.int .i64 d.b),.lit (.int .i64 d.c)]
def zHd (d:Id):List Int:=[d.a,d.b,d.c]
def zL:List Id→List A
 | []=>[]
 | d::l=>.lit (.int .i64 d.a)::.lit (.int .i64 d.b)::.lit (.int .i64 d.c)::zL l
@[simp] theorem qAw:zL []=[]:=rfl
@[simp] theorem zCG (d:Id)(l:List Id):zL (d::l)=.lit (.int .i64 d.a)::.lit (.int .i64 d.b)::.lit (.int .i64 d.c)::zL l:=rfl
@[simp] theorem zPW:∀l:List Id,(zL l).length=l.length*3
 | []=>rfl
 | d::l=>by simp[zPW l]; omega
theorem zAi:∀(a b:List Id),zL (a++b)=zL a++zL b
 | [],b=>rfl
 | d::a,b=>by simp[zAi a b]
theorem zBl:∀(l:List Id),qF (zL l)
 | []=>qF.nil
 | _::l=>qF.lit (qF.lit (qF.lit (zBl l)))
@[simp] theorem zZr (l:List Id):qV (zL l)=zL l:=(zBl l).1
@[simp] theorem qEe {rf g}(l:List Id):vwL rf g (zL l)=zL l:=(zBl l).2 _ _
theorem yW:∀{l:List Id} {i:Nat} (h:i<l.length),(zL l).drop (i*3)=.lit (.int .i64 l[i].a)::.lit (.int .i64 l[i].b)::.lit (.int .i64 l[i].c)::zL (l.drop (i+1))
 | v::l,0,h=>by simp
 | v::l,i+1,h=>by
  have e:(i+1)*3=i*3+3:=by omega
  rw[e,zCG]
  simpa using yW (l:=l) (i:=i) (by simpa using h)
theorem zOd:∀(l:List Id) (i:Nat),(zL l).take (i*3)=zL (l.take i)
 | [],i=>by simp
 | v::l,0=>by simp
 | v::l,i+1=>by
  have e:(i+1)*3=i*3+3:=by omega
  rw[e,zCG]
  simpa using zOd l i
theorem zE5:∀(l:List Id) (i:Nat),(zL l).drop (i*3)=zL (l.drop i)
 | [],i=>by simp
 | v::l,0=>by simp
 | v::l,i+1=>by
  have e:(i+1)*3=i*3+3:=by omega
  rw[e,zCG]
  simpa using zE5 l i
theorem zIr {l:List Id}{i:Nat}(h:i<l.length):zL (l.take (i+1))=zL (l.take i)++zC l[i]:=by rw[jAa h,zAi]; rfl
def zIs (x y:Id):Int:=orI [zA2 x.a y.a,zA2 x.b y.b,zA2 x.c y.c]
def zBu (x y:Id):Bool:=if x.a≠y.a then decide (x.a<y.a) else if x.b≠y.b then decide (x.b<y.b) else decide (x.c<y.c)
end Go.Proofs.YtdnelmeboihpkaaGreatDoor
