/- Contracts of functions that work on some objects, and how a call meets them in any state. -/
import Derived.Test.YtdnelmeboihpkaaGreatDoorX7
import Derived.IntWalk
set_option linter.unusedVariables false
set_option maxHeartbeats 8000000
set_option maxRecDepth 100000
set_option linter.unusedSimpArgs false
open Go.Proofs.Tryz
namespace Go.Abs
def Ret(P:Program)(f:FuncId)(args:wE) (U0:St)(r:A) (U1:St):Prop:=aH P f args U0 fun o U'=>o=.ret r/\U' = U1
def jX:Bool->Nat->Nat->A:=fun _ _ _=>.any
def qS{α:Type}:List α->List Nat->List α->List α
 |s,[],t=>s++t
 |s,j::js,o::os=>qS (s.set j o) js os
 |s,_::_,[]=>s
theorem lI{α:Type}:∀{js:wA} {s t:List α},js.length<=t.length->(qS s js t).length=s.length+(t.length-js.length)
 |[],s,t,_=>by simp[qS]
 |j::js,s,[],h=>by simp at h
 |j::js,s,o::os,h=>by simp only[qS,jAb]at h⊢;rw[lI (by omega)];simp
theorem sE{α:Type}:∀{js:wA} {s t:List α} {x:Nat},js.length<=t.length->x<s.length->x∉js->(qS s js t)[x]?=s[x]?
 |[],s,t,x,_,hx,_=>by simp[qS,jAj hx]
 |j::js,s,[],x,h,_,_=>by simp at h
 |j::js,s,o::os,x,h,hx,hn=>by simp only[qS,jAb,jA1,not_or]at h hn ⊢;rw[sE (by omega) (by simpa using hx) hn.2,jA9 (Ne.symm hn.1)]
theorem mS{α:Type}:∀{js:wA} {s t:List α} {i x:Nat},js.length<=t.length->js.Nodup->(∀y∈js,y<s.length)->js[i]?=some x->(qS s js t)[x]?=t[i]?
 |[],s,t,i,x,_,_,_,h=>by simp at h
 |j::js,s,[],i,x,h,_,_,_=>by simp at h
 |j::js,s,o::os,i,x,h,hd,hb,hi=>by
  rw[jD3]at hd;simp only[qS,jAb]at h⊢;cases i with
  |zero =>
   simp only[jB,jA2]at hi;subst hi;have hj:=hb j (jAs ..);rw[sE (by omega) (by simpa using hj) hd.1,jAm hj];rfl
  |succ i =>
   simp only[jBo]at hi ⊢;exact mS (by omega) hd.2 (fun y hy=>by simpa using hb y (jAo _ hy)) hi
theorem zAc{α:Type}:∀{js:wA} {s t:List α} {k:Nat},js.length<=t.length->(qS s js t)[s.length+k]?=t[js.length+k]?
 |[],s,t,k,_=>by simp only[qS,jBc,jAz];rw[jAw (by omega),Nat.add_sub_cancel_left]
 |j::js,s,[],k,h=>by simp at h
 |j::js,s,o::os,k,h=>by
  simp only[qS,jAb]at h⊢;have:=zAc (js:=js) (s:=s.set j o) (t:=os) (k:=k) (by omega);rw[jBy]at this;rw[this];have e:js.length+1+k=js.length+k+1:=by omega
  rw[e,jBo]
def back(js:wA)(n l:Nat):Nat:=match js,l with
 |[],l=>n+l
 |j::_,0=>j
 |_::js,l+1=>back js n l
theorem zCV:∀{js:wA} {n i x:Nat},js[i]?=some x->back js n i=x
 |[],n,i,x,h=>by simp at h
 |j::js,n,0,x,h=>by simpa[back]using h
 |j::js,n,i+1,x,h=>by simp only[back];exact zCV (by simpa using h)
theorem zAu:∀{js:wA} {n k:Nat},back js n (js.length+k)=n+k
 |[],n,k=>by simp[back]
 |j::js,n,k=>by
  have e:(j::js).length+k=js.length+k+1:=by simp;omega
  rw[e];simp only[back];exact zAu
def ren(js:wA)(n:Nat)(a:A):A:=vw jX (fun l=>some (back js n l)) a
def zY0(js:wA)(n:Nat)(cs:wE):wE:=vwL jX (fun l=>some (back js n l)) cs
def bX(js:wA)(n:Nat)(o:AObj):AObj:=vwO jX (fun l=>some (back js n l)) o
def cZ(js:wA):List A->List A->Prop
 |[],[]=>True
 |a'::aS',a::aS=>(a=vw jX (qH js) a'\/a=nrm0 (vw jX (qH js) a'))/\cZ js aS' aS
 |_,_=>False
section
variable{P:Program}{H H':Mem}{L L':wL} {U:St}{w:World}
theorem zV.vw{H':Mem}{L':wL}{w':World}{rf:Bool->Nat->Nat->A}{g:Nat->wC}{li:LI}{o:AObj}(h:zV H L w li o)(hrel:∀cs vs,z8 H L cs vs->z8 H' L' (vwL rf g cs) vs)
 (hw:∀b,li.block=some b->w'.heap[b]?=w.heap[b]?)(hh:HLe H H')(hb:∀b,li.block=some b->∀o,H' b o=H b o):zV H' L' w' li (vwO rf g o):=by
 cases o with
 |dead=>trivial
 |box cs =>
  simp only[zV,vwO]at h⊢;obtain⟨h0,b,vs,e,h1,h2,h3,h4,h5⟩:=h;exact⟨h0,b,vs,e,h1,by rw[hw b h1];exact h2,hrel _ _ h3,h4,fun o=>by rw[hb b h1];exact h5 o⟩
 |row fz e sz n cs =>
  simp only[zV,vwO]at h⊢;obtain⟨h0,h1,h2,h3⟩:=h;refine⟨h0,h1,by rw[zAo];exact h2,?_⟩;rcases h3 with h3|⟨b,cur,g1,g2,g3,g4,g5,g6,g7,g8⟩
  .exact .inl h3
  .refine .inr ⟨b,cur,g1,by rw[hw b g1];exact g2,g3,g4,g5,hrel _ _ g6,g7,?_⟩;cases fz with
   |false=>exact fun o=>by rw[hb b g1];exact g8 o
   |true=>exact⟨g8.1.mono hh,fun o ho=>by rw[hb b g1];exact g8.2 o ho⟩
 |lp b r M es =>
  simp only[zV,vwO]at h⊢;obtain⟨h0,h1,tmps,h2,h3,h4⟩:=h;exact⟨h0,h1,tmps,by rw[hw b h1];exact h2,h3,h4.map _ fun a v ha=>by have:=hrel [a] [v] (qV ha jR);simp only[vwL]at this;obtain⟨u,us,k1,k2,_⟩:=qC this;cases k1;exact k2⟩
 |mp fr nk es =>
  simp only[zV,vwO]at h⊢;obtain⟨h0,b,ents,ck,h1,h2,h3,h4⟩:=h;refine⟨h0,b,ents,ck,h1,by rw[hw b h1];exact h2,aV.map _ (fun p _ v ha=>?_) h3,h4.1,zDU h4.2⟩;have:=hrel [p.2] [v] (qV ha jR);simp only[vwL]at this;obtain⟨u,us,k1,k2,_⟩:=qC this;cases k1;exact k2
 |it m n met =>
  simp only[vwO];split
  .rename_i i0 hi0;simp only[zV]at h⊢;obtain⟨h0,b,mb,lm,h1,h2,h3,h4,h5⟩:=h;have hp:Rel H L (.ptr m 0) (.pointer (some ⟨mb,0,none⟩)):=by simp only[Rel];exact⟨lm,mb,h2,h3,h4,rfl⟩
   have:=hrel [_] [_] (qV hp jR);simp only[vwL,Abs.vw,hi0]at this;obtain⟨u,us,k1,k2,_⟩:=qC this;cases k1;simp only[Rel]at k2;obtain⟨lm',mb',g2,g3,g4,g5⟩:=k2;cases g5;exact⟨h0,b,mb,lm',h1,g2,g3,g4,by rw[hw b h1];exact h5⟩
  .trivial
 |rsv=>exact h
variable{U0:St}
theorem zUa{js:wA} (hs:RelSt H L U w)(hd:js.Nodup)(ho:yX U jX (qH js) js U0) :
 ∃L0:wL,L0.length=js.length/\(∀i j:Nat,js[i]?=some j->∃li,L[j]?=some li/\L0[i]?=some li)/\RelSt H L0 U0 w/\∀a v,Rel H L a v->Rel H L0 (Abs.vw jX (qH js) a) v:=by
 let L0:wL:=js.map fun k=>L.getD k ⟨none,0,0,false⟩
 have hin:∀(i j:Nat),js[i]?=some j->∃li,L[j]?=some li/\L0[i]?=some li:=by
  intro i j hij;have hi:i < U0.length:=by rw[pW ho];exact(jA4.1 hij).1
  obtain⟨o,hU,_⟩:=pV ho hij (jA0 hi);have hj:j<L.length:=by rw[hs.len];exact(jA4.1 hU).1
  refine⟨L[j],jA0 hj,?_⟩;simp[L0,hij,hj]
 have hback:∀{i:Nat} {li:LI},L0[i]?=some li->∃j,js[i]?=some j/\L[j]?=some li:=by
  intro i li hi;have hi':i<js.length:=by simpa[L0]using (jA4.1 hi).1
  obtain⟨li',h1,h2⟩:=hin i js[i] (jA0 hi');rw[hi]at h2;cases h2;exact⟨_,jA0 hi',h1⟩
 have hg:∀l i,qH js l=some i->L0[i]?=L[l]?:=by intro l i hl;obtain⟨li,h1,h2⟩:=hin i l (zBX hl);rw[h1,h2]
 have hr0:∀(l n:Nat) (v:Value),qH js l=none->Rel H L (.row l n) v->Rel H L0 (jX false l n) v:=fun _ _ _ _ _=>by simp[jX,Rel]
 have hp0:∀(l n:Nat) (v:Value),qH js l=none->Rel H L (.ptr l n) v->Rel H L0 (jX true l n) v:=fun _ _ _ _ _=>by simp[jX,Rel]
 refine⟨L0,by simp[L0],hin,⟨hs.pers,by simp[L0,pW ho],fun i li o hL hU=>?_,fun i j x y b hi hj hx hy=>?_,fun i li b hi hb=>?_⟩,fun a v ha=>Rel.vw (HLe.refl _) hg hr0 hp0 a ha⟩
 .obtain⟨j,hj,hLj⟩:=hback hL;obtain⟨o0,hU0,heq⟩:=pV ho hj hU;have key:=(hs.obj j li o0 hLj hU0).vw (H':=H) (L':=L0) (w':=w) (rf:=jX) (g:=qH js) (fun cs vs h=>z8.vw (HLe.refl _) hg hr0 hp0 cs h) (fun _ _=>rfl) (HLe.refl _) (fun _ _ _=>rfl);rcases heq with rfl|rfl
  .exact key
  .exact key.nrm
 .obtain⟨i',hi',hLi⟩:=hback hi;obtain⟨j',hj',hLj⟩:=hback hj;have:=hs.inj i' j' x y b hLi hLj hx hy;subst this;exact zBQ hd hi' hj'
 .obtain⟨j,_,hLj⟩:=hback hi;exact hs.lt j li b hLj hb
def zMf(C:List Value->World->(Ending->World->Prop)->Prop)(args:wE) (U:St)(Q:Out->St->Prop):Prop :=
 ∀(H:Mem) (L:wL) (w:World) (vs:wK),RelSt H L U w->z8 H L args vs->C vs w fun e w'=>∃o U' H' L',xE H' L' o e/\Nxt H L w H' L' U' w'/\Q o U'
def zLD(js:wA)(n:Nat):Out->Out
 | .ret r=>.ret (ren js n r)
 | .pan v=>.pan v
variable{C:List Value->World->(Ending->World->Prop)->Prop}{Q0 Q:Out->St->Prop}
theorem zBz(hmono:∀vs w R R',C vs w R->(∀e w',R e w'->R' e w')->C vs w R'){args args':wE} (h:zMf C args U0 Q0)(js:wA)(hd:js.Nodup)(ho:yX U jX (qH js) js U0)(ha:cZ js args' args)
 (hq:∀o U1,Q0 o U1->Q (zLD js U.length o) (qS U js (U1.map (bX js U.length)))):zMf C args' U Q:=by
 intro H L w vs hs hvs;obtain⟨L0,hL0,hin,hs0,hrel0⟩:=zUa hs hd ho;have hvs0:z8 H L0 args vs:=by
  clear hq h;induction args' generalizing args vs with
  |nil=>cases args with
   |nil=>rw[jK hvs];exact jR
   |cons _ _=>exact ha.elim
  |cons a' aS' ih=>cases args with
   |nil=>exact ha.elim
   |cons a aS =>
    obtain⟨u,us,rfl,h1,h2⟩:=qC hvs;refine qV ?_ (ih (vs:=us) ha.2 h2);rcases ha.1 with e|e
    .rw[e];exact hrel0 _ _ h1
    .rw[e];exact Rel.nrm0 _ (hrel0 _ _ h1)
 refine hmono _ _ _ _ (h H L0 w vs hs0 hvs0) fun e w' hh=>?_
 obtain⟨o,U',H1,L1,g1,g2,hq0⟩:=hh;have hq:=hq o U' hq0;have hjs:js.length<=L1.length:=by
  rcases jAv L1.length js.length with hlt|hge
  .have hlt0:L1.length<L0.length:=by omega
   obtain⟨l',hl',_⟩:=g2.lle L1.length L0[L1.length] (jA0 hlt0);exact absurd (jA4.1 hl').1 (Nat.lt_irrefl _)
  .exact hge
 have hjs1:js.length<=(U'.map (bX js U.length)).length:=by rw[jAd,<-g2.st.len];exact hjs
 have hjb:∀y∈js,y<L.length:=by intro y hy;obtain⟨i,hi⟩:=jCv hy;obtain⟨li,h1,_⟩:=hin i y hi;exact(jA4.1 h1).1
 have hjb':∀y∈js,y < U.length:=fun y hy=>by rw[<-hs.len];exact hjb y hy
 let L':=qS L js L1;have hlen':L'.length=(qS U js (U'.map (bX js U.length))).length:=by rw[lI hjs,lI hjs1,jAd,hs.len,g2.st.len]
 have hgf:∀l,L'[back js U.length l]?=L1[l]?:=by
  intro l;rcases jAv l js.length with hl|hl
  .have:=jA0 hl;rw[zCV this];exact mS hjs hd hjb this
  .obtain⟨k,rfl⟩:=Nat.le.dest hl;rw[zAu,<-hs.len];exact zAc hjs
 have hgs:∀l,(qS U js (U'.map (bX js U.length)))[back js U.length l]?=(U'[l]?).map (bX js U.length):=by
  intro l;rw[<-jC];rcases jAv l js.length with hl|hl
  .have:=jA0 hl;rw[zCV this];exact mS hjs1 hd hjb' this
  .obtain⟨k,rfl⟩:=Nat.le.dest hl;rw[zAu];exact zAc hjs1
 have hg:∀l i,(fun l=>some (back js U.length l)) l=some i->L'[i]?=L1[l]?:=by intro l i hl;simp only[jA2]at hl;subst hl;exact hgf l
 have hr0:∀(l n:Nat) (v:Value),(fun l=>some (back js U.length l)) l=none->Rel H1 L1 (.row l n) v->Rel H1 L' (jX false l n) v:=fun _ _ _ _ _=>by simp[jX,Rel]
 have hp0:∀(l n:Nat) (v:Value),(fun l=>some (back js U.length l)) l=none->Rel H1 L1 (.ptr l n) v->Rel H1 L' (jX true l n) v:=fun _ _ _ _ _=>by simp[jX,Rel]
 have hcase:∀x,x<L'.length->(∃l,l<L1.length/\back js U.length l=x)\/(x<L.length/\x∉js):=by
  intro x hx;by_cases hm:x∈js
  .obtain⟨i,hi⟩:=jCv hm;exact .inl ⟨i,by have:=(jA4.1 hi).1;omega,zCV hi⟩
  .rcases jAv x L.length with h|h
   .exact .inr ⟨h,hm⟩
   .obtain⟨k,rfl⟩:=Nat.le.dest h;refine .inl ⟨js.length+k,?_,by rw[zAu,hs.len]⟩;rw[lI hjs]at hx;omega
 have hold:∀x,x<L.length->x∉js->L'[x]?=L[x]?:=fun x hx hm=>sE hjs hx hm
 have holds:∀x,x<L.length->x∉js->(qS U js (U'.map (bX js U.length)))[x]? = U[x]?:=fun x hx hm=>sE hjs1 (by rw[<-hs.len];exact hx) hm
 have hown0:∀b,zJ5 L0 b->∃(j:Nat) (li:LI),j∈js/\L[j]?=some li/\li.block=some b:=by
  rintro b ⟨i,li,h1,h2⟩;have hi:i<js.length:=by rw[<-hL0];exact(jA4.1 h1).1
  obtain⟨li',h3,h4⟩:=hin i js[i] (jA0 hi);rw[h1]at h4;cases h4;exact⟨_,li,jA3 hi,h3,h2⟩
 have hnot:∀x li b,x∉js->L[x]?=some li->li.block=some b->¬zJ5 L0 b:=by intro x li b hx h1 h2 ho;obtain⟨j,li',hj,h3,h4⟩:=hown0 b ho;have:=hs.inj x j li li' b h1 h3 h2 h4;subst this;exact hx hj
 have hlle:LLe L L':=by
  intro x li hx;have hxl:x<L.length:=(jA4.1 hx).1;by_cases hm:x∈js
  .obtain⟨i,hi⟩:=jCv hm;obtain⟨li',h1,h2⟩:=hin i x hi;rw[hx]at h1;cases h1;obtain⟨l',h3,h4⟩:=g2.lle i li h2;exact⟨l',by rw[mS hjs hd hjb hi];exact h3,h4⟩
  .exact⟨li,by rw[hold x hxl hm];exact hx,.inl rfl⟩
 have hout:xE H1 L' (zLD js U.length o) e:=by
  cases o with
  |ret r =>
   obtain⟨v,rfl,hv⟩:=g1;exact⟨v,rfl,Rel.vw (HLe.refl _) hg hr0 hp0 r hv⟩
  |pan v=>exact g1
 refine⟨zLD js U.length o,qS U js (U'.map (bX js U.length)),H1,L',hout,⟨⟨g2.st.pers,hlen',fun x li o hL hU=>?_,fun x y lx ly b hx hy hbx hby=>?_,fun x li b hx hb=>?_⟩,
  ⟨g2.step.os,g2.step.tape,g2.step.output,g2.step.size,fun k hk hn=>g2.step.keep k hk fun ho=>hn (by obtain⟨j,li,_,h1,h2⟩:=hown0 k ho;exact⟨j,li,h1,h2⟩),g2.step.hle,fun b o v hv=>?_,g2.step.drawn,g2.step.dfr⟩,hlle,fun b ⟨x,li,hx,hb⟩=>?_⟩,hq⟩
 .rcases hcase x (jA4.1 hL).1 with ⟨l,hl,rfl⟩|⟨h1,h2⟩
  .rw[hgf]at hL;rw[hgs,jAf]at hU;obtain⟨o1,ho1,rfl⟩:=hU;exact(g2.st.obj l li o1 hL ho1).vw (fun cs vs h=>z8.vw (HLe.refl _) hg hr0 hp0 cs h) (fun _ _=>rfl) (HLe.refl _) (fun _ _ _=>rfl)
  .rw[hold x h1 h2]at hL;rw[holds x h1 h2]at hU;refine(hs.obj x li o hL hU).carry (fun b hb=>g2.step.keep b (hs.lt x li b hL hb) (hnot x li b h2 hL hb)) g2.step.hle hlle (fun b hb o'=>?_);cases hH:H b o' with
   |some u=>exact g2.step.hle _ _ _ hH
   |none =>
    cases hH1:H1 b o' with
    |none=>rfl
    |some u =>
     rcases g2.step.hnew b o' u hH1 with k1|k1|k1
     .rw[hH]at k1;cases k1
     .exact(hnot x li b h2 hL hb k1).elim
     .have:=hs.lt x li b hL hb;omega
 .have cross:∀(l y:Nat) (lx ly:LI),L1[l]?=some lx->lx.block=some b->y∉js->L[y]?=some ly->ly.block=some b->False:=by
   intro l y lx ly k1 k2 k3 k4 k5;rcases g2.own b ⟨l,lx,k1,k2⟩with k|k
   .exact hnot y ly b k3 k4 k5 k
   .have:=hs.lt y ly b k4 k5;omega
  rcases hcase x (jA4.1 hx).1 with ⟨l,hl,rfl⟩|⟨h1,h2⟩
  .rw[hgf]at hx;rcases hcase y (jA4.1 hy).1 with ⟨m,hm,rfl⟩|⟨h3,h4⟩
   .rw[hgf]at hy;rw[g2.st.inj l m lx ly b hx hy hbx hby]
   .rw[hold y h3 h4]at hy;exact(cross l y lx ly hx hbx h4 hy hby).elim
  .rw[hold x h1 h2]at hx;rcases hcase y (jA4.1 hy).1 with ⟨m,hm,rfl⟩|⟨h3,h4⟩
   .rw[hgf]at hy;exact(cross m x ly lx hy hby h2 hx hbx).elim
   .rw[hold y h3 h4]at hy;exact hs.inj x y lx ly b hx hy hbx hby
 .rcases hcase x (jA4.1 hx).1 with ⟨l,hl,rfl⟩|⟨h1,h2⟩
  .rw[hgf]at hx;exact g2.st.lt l li b hx hb
  .rw[hold x h1 h2]at hx;exact jCb (hs.lt x li b hx hb) g2.step.size
 .rcases g2.step.hnew b o v hv with k|k|k
  .exact .inl k
  .obtain⟨j,li,_,h1,h2⟩:=hown0 b k;exact .inr (.inl ⟨j,li,h1,h2⟩)
  .exact .inr (.inr k)
 .rcases hcase x (jA4.1 hx).1 with ⟨l,hl,rfl⟩|⟨h1,h2⟩
  .rw[hgf]at hx;rcases g2.own b ⟨l,li,hx,hb⟩with k|k
   .obtain⟨j,li',_,h1,h2⟩:=hown0 b k;exact .inl ⟨j,li',h1,h2⟩
   .exact .inr k
  .rw[hold x h1 h2]at hx;exact .inl ⟨x,li,hx,hb⟩
theorem zF2(hmono:∀vs w R R',C vs w R->(∀e w',R e w'->R' e w')->C vs w R'){args args':wE} (h:zMf C args U0 Q0)(js:wA)(hd:js.Nodup)(ho:yX U jX (qH js) js U0)(ha:cZ js args' args)
 (hnp:∀v U1,¬Q0 (.pan v) U1)(hq:∀r U1,Q0 (.ret r) U1->Q (.ret (ren js U.length r)) (qS U js (U1.map (bX js U.length)))):zMf C args' U Q :=
 zBz hmono h js hd ho ha fun o U1 h0=>by
  cases o with
  |ret r=>exact hq r U1 h0
  |pan v=>exact(hnp v U1 h0).elim
theorem xI(P:Program)(f:FuncId):∀(vs:wK) (w:World) (R R':Ending->World->Prop),Calls P f vs.toArray w R->(∀e w',R e w'->R' e w')->Calls P f vs.toArray w R':=fun _ _ _ _ h k=>h.mono k
variable{f:FuncId}{U1:St}{r:A}
theorem b6{args args':wE} (h:Ret P f args U0 r U1)(js:wA)(hd:js.Nodup)(ho:yX U jX (qH js) js U0)(ha:cZ js args' args)
 (hq:Q (.ret (ren js U.length r)) (qS U js (U1.map (bX js U.length)))):aH P f args' U Q :=
 zF2 (C:=fun vs w R=>Calls P f vs.toArray w R) (xI P f) (Q0:=fun o U'=>o=.ret r/\U' = U1) h js hd ho ha (fun v U1 h=>by cases h.1) (fun r' U' h=>by obtain⟨h1,rfl⟩:=h;cases h1;exact hq)
theorem zKz(P:Program)(b:Nat):∀(vs:wK) (w:World) (R R':Ending->World->Prop),(∃f tmps x y,(Instr.yield b vs.toArray).run P w=.ok (.round b f tmps x y) w/\RoundIn Fence.wide 0 P b f tmps x y w R)->(∀e w',R e w'->R' e w') ->
 ∃f tmps x y,(Instr.yield b vs.toArray).run P w=.ok (.round b f tmps x y) w/\RoundIn Fence.wide 0 P b f tmps x y w R':=fun _ _ _ _ ⟨f,tmps,x,y,h1,h2⟩ k=>⟨f,tmps,x,y,h1,h2.mono k⟩
theorem zN5{b:Nat}{args args':wE} (h:gZ P b args U0 fun o τ=>o=.ret r/\τ = U1)(js:wA)(hd:js.Nodup)(ho:yX U jX (qH js) js U0)(ha:cZ js args' args)
 (hq:Q (.ret (ren js U.length r)) (qS U js (U1.map (bX js U.length)))):gZ P b args' U Q :=
 zF2 (C:=fun vs w R=>∃f tmps x y,(Instr.yield b vs.toArray).run P w=.ok (.round b f tmps x y) w/\RoundIn Fence.wide 0 P b f tmps x y w R) (zKz P b) (Q0:=fun o U'=>o=.ret r/\U' = U1) h js hd ho ha (fun v U1 h=>by cases h.1)
  (fun r' U' h=>by obtain⟨h1,rfl⟩:=h;cases h1;exact hq)
theorem zAg{args:wE} 
 (h:aH P f args U0 fun o U'=>∃(r':A)(ks:wA)(fuel:Nat),o=.ret r'/\(∀i,i < U0.length->ks[i]?=some i)/\ks.Nodup/\yX U' (seen U' (qH ks) fuel) (qH ks) ks U1 /\
  (r=vw (seen U' (qH ks) fuel) (qH ks) r'\/r=nrm0 (vw (seen U' (qH ks) fuel) (qH ks) r'))):Ret P f args U0 r U1:=by
 intro H L w vs hs ha;refine(h H L w vs hs ha).mono fun e w' hh=>?_
 obtain⟨o,U',H',L',g1,g2,r',ks,fuel,rfl,hk,hd,ho,hr⟩:=hh;obtain⟨v,rfl,hv⟩:=g1;obtain⟨H2,L2,k1,_,k3⟩:=zNa ks fuel (by rw[hs.len];exact hk) hd ho g2;refine⟨.ret r,U1,H2,L2,⟨v,rfl,?_⟩,k1,rfl,rfl⟩;rcases hr with e|e
 .rw[e];exact k3 _ _ hv
 .rw[e];exact Rel.nrm0 _ (k3 _ _ hv)
end
end Go.Abs
namespace Go.Abs
attribute [simp] KOp.dst
@[simp]theorem zXS{a b n:Nat}(h:a<=b):(a<=b+n)=True:=eq_true (by omega)
@[simp]def int(n:Int):A:=.lit (.int .i64 n)
@[simp]def bl(b:Bool):A:=.lit (.bool b)
section
variable{P:Program}{n0:Nat}{Qp:Value->wJ}{K':wJ}{KD:Env->Prop}{Q:Ex->wJ}{env:Env} {U:St}{d:wC}
variable{rf:Bool->Nat->Nat->A}{g:Nat->wC}
def lvl(o:wC)(f:Nat->A)(b:A):A:=match o with
 |some i=>f i
 |none=>b
@[simp]theorem qEL{i:Nat}{f:Nat->A}{b:A}:lvl (some i) f b=f i:=rfl
@[simp]theorem qEK{f:Nat->A}{b:A}:lvl none f b=b:=rfl
variable{l:Nat}
@[simp]theorem qL4{o:Nat}:vw rf g (.ptr l o)=lvl (g l) (.ptr · o) (rf true l o):=by simp only[vw,lvl];cases g l<;>rfl
@[simp]theorem qL5{l n:Nat}:vw rf g (.row l n)=lvl (g l) (.row · n) (rf false l n):=by simp only[vw,lvl];cases g l<;>rfl
@[simp]theorem qL6{l n o:Nat}:vw rf g (.rwp l n o)=lvl (g l) (.rwp · n o) .any:=by simp only[vw,lvl];cases g l<;>rfl
@[simp]theorem qL2:vw rf g (.map l)=lvl (g l) .map .any:=by simp only[vw,lvl];cases g l<;>rfl
@[simp]theorem qL8{l n o k c:Nat}:vw rf g (.win l n o k c)=lvl (g l) (.win · n o k c) (zNE o k c (rf false l n)):=by simp only[vw,lvl];cases g l<;>rfl
variable{cs:wE}
@[simp]theorem qH3{n o k c:Nat}:zNE o k c (.sl n cs)=if k=0 then .sl 0 []else .sl k ((cs.drop o).take (k*c)):=rfl
@[simp]theorem zYS:vw rf g (.agg cs)=.agg (vwL rf g cs):=by simp only[vw]
@[simp]theorem qL7:vw rf g (.tup cs)=.tup (vwL rf g cs):=by simp only[vw]
@[simp]theorem qLM{n:Nat}:vw rf g (.sl n cs)=.sl n (vwL rf g cs):=by simp only[vw]
@[simp]theorem qL0{n:Nat}:vw rf g (.fsl n cs)=.fsl n (vwL rf g cs):=by simp only[vw]
@[simp]theorem qI5:vw rf g (.rptr cs)=.rptr (vwL rf g cs):=by simp only[vw]
variable{f:FuncId}
@[simp]theorem qLz{a b:wE}:vw rf g (.clo f a b)=.clo f (vwL rf g a) (vwL rf g b):=by simp only[vw]
@[simp]theorem qLy:vw rf g .any=.any:=by simp only[vw]
@[simp]theorem qL3:vw rf g .nil=.nil:=by simp only[vw]
variable{v:Value}
@[simp]theorem qL1:vw rf g (.lit v)=.lit v:=by simp only[vw]
variable{b:Nat}
@[simp]theorem qLN:vw rf g (yv b)=yv b:=by simp only[yv,vw]
@[simp]theorem zZr{b:Bool}{l n:Nat}:jX b l n=.any:=rfl
@[simp]theorem qIq:vwL rf g []=[]:=by simp only[vwL]
@[simp]theorem qGd{c:A}:vwL rf g (c::cs)=vw rf g c::vwL rf g cs:=by simp only[vwL]
variable{ds:wE}
@[simp]theorem zLY:vwL rf g (cs++ds)=vwL rf g cs++vwL rf g ds:=by
 induction cs with
 |nil=>simp
 |cons c cs ih=>simp[ih]
@[simp]theorem qGe{n:Nat}:vwL rf g (cs.drop n)=(vwL rf g cs).drop n:=by
 induction cs generalizing n with
 |nil=>simp
 |cons c cs ih=>cases n<;>simp[ih]
@[simp]theorem qGf{n:Nat}:vwL rf g (cs.take n)=(vwL rf g cs).take n:=by
 induction cs generalizing n with
 |nil=>simp
 |cons c cs ih=>cases n<;>simp[ih]
@[simp]theorem qFj{o:Nat}:nrm0 (.ptr l o)=.ptr l o:=by simp only[nrm0]
@[simp]theorem qFk{l n:Nat}:nrm0 (.row l n)=.row l n:=by simp only[nrm0]
@[simp]theorem qFl{l n o:Nat}:nrm0 (.rwp l n o)=.rwp l n o:=by simp only[nrm0]
@[simp]theorem qFh:nrm0 (.map l)=.map l:=by simp only[nrm0]
@[simp]theorem qFn{l n o k c:Nat}:nrm0 (.win l n o k c)=.win l n o k c:=by simp only[nrm0]
@[simp]theorem qFc:nrm0 (.agg cs)=.agg (jH cs):=by simp only[nrm0]
@[simp]theorem qFm:nrm0 (.tup cs)=.tup (jH cs):=by simp only[nrm0]
@[simp]theorem qHT{n:Nat}:nrm0 (.sl n cs)=.sl n (jH cs):=by simp only[nrm0]
@[simp]theorem qFf{n:Nat}:nrm0 (.fsl n cs)=.sl n (jH cs):=by simp only[nrm0]
@[simp]theorem qAn:nrm0 (.rptr cs)=.rptr (jH cs):=by simp only[nrm0]
@[simp]theorem qFe{a b:wE}:nrm0 (.clo f a b)=.clo f (jH a) (jH b):=by simp only[nrm0]
@[simp]theorem qFd:nrm0 .any=.any:=by simp only[nrm0]
@[simp]theorem qFi:nrm0 .nil=.sl 0 []:=by simp only[nrm0]
@[simp]theorem qFg:nrm0 (.lit v)=.lit v:=by simp only[nrm0]
@[simp]theorem qHU:nrm0 (yv b)=yv b:=by simp only[yv,nrm0]
@[simp]theorem qAd:jH []=[]:=by simp only[jH]
@[simp]theorem zYf{c:A}:jH (c::cs)=nrm0 c::jH cs:=by simp only[jH]
@[simp]theorem zHq:jH (cs++ds)=jH cs++jH ds:=by
 induction cs with
 |nil=>simp
 |cons c cs ih=>simp[ih]
@[simp]theorem zYg{n:Nat}:jH (cs.drop n)=(jH cs).drop n:=by
 induction cs generalizing n with
 |nil=>simp
 |cons c cs ih=>cases n<;>simp[ih]
@[simp]theorem zYh{n:Nat}:jH (cs.take n)=(jH cs).take n:=by
 induction cs generalizing n with
 |nil=>simp
 |cons c cs ih=>cases n<;>simp[ih]
def qP(cs:wE):Prop:=jH cs=cs/\∀rf g,vwL rf g cs=cs
theorem qP.nil:qP []:=⟨by simp,by simp⟩
theorem qP.append(h:qP cs)(k:qP ds):qP (cs++ds):=⟨by simp[h.1,k.1],fun rf g=>by simp[h.2,k.2]⟩
theorem qP.drop(h:qP cs)(n:Nat):qP (cs.drop n):=⟨by simp[h.1],fun rf g=>by simp[h.2]⟩
theorem qP.take(h:qP cs)(n:Nat):qP (cs.take n):=⟨by simp[h.1],fun rf g=>by simp[h.2]⟩
theorem qP.int{k:IntKind}{n:Int}(h:qP cs):qP (.lit (.int k n)::cs):=⟨by simp[h.1],fun rf g=>by simp[h.2]⟩
theorem qP.lit(h:qP cs):qP (.lit v::cs):=⟨by simp[h.1],fun rf g=>by simp[h.2]⟩
theorem qP.sl{n:Nat}(k:qP ds)(h:qP cs):qP (.sl n ds::cs):=⟨by simp[h.1,k.1],fun rf g=>by simp[h.2,k.2]⟩
@[simp]theorem qAv:qH [] l=none:=rfl
@[simp]theorem x9{k l:Nat}{ks:wA}:qH (k::ks) l=if l=k then some 0 else (qH ks l).map (· + 1):=rfl
@[simp]theorem qCi{n l:Nat}:back [] n l=n+l:=by cases l<;>rfl
variable{js:wA}
@[simp]theorem zZw{j n:Nat}:back (j::js) n 0=j:=rfl
@[simp]theorem zNv{j n l:Nat}:back (j::js) n (l+1)=back js n l:=rfl
@[simp]theorem zYx{s t:St}:qS s [] t=s++t:=by simp only[qS]
@[simp]theorem zC8{s os:St}{j:Nat}{o:AObj}:qS s (j::js) (o::os)=qS (s.set j o) js os:=rfl
@[simp]theorem zZt:cZ js [] []:=trivial
@[simp]theorem zWE{a a':A}{aS aS':wE}:cZ js (a'::aS') (a::aS)=((a=vw jX (qH js) a'\/a=nrm0 (vw jX (qH js) a'))/\cZ js aS' aS):=rfl
def zJ2(o:Option AObj)(J:AObj->Prop):Prop:=match o with
 |some o=>J o
 |none=>False
@[simp]theorem zYl{o:AObj}{J:AObj->Prop}:zJ2 (some o) J=J o:=rfl
@[simp]theorem qAB:yX U rf g [] []:=trivial
@[simp]theorem zLN{j:Nat}{o:AObj}{os:St}:yX U rf g (j::js) (o::os)=(zJ2 U[j]? (fun p=>o=vwO rf g p\/o=vR (vwO rf g p))/\yX U rf g js os):=by simp only[yX,zJ2];cases U[j]?<;>rfl
@[simp]theorem qIr:vwO rf g (.box cs)=.box (vwL rf g cs):=rfl
variable{fz:Bool}{e:TypeId}
@[simp]theorem qIs{sz n:Nat}:vwO rf g (.row fz e sz n cs)=.row fz e sz n (vwL rf g cs):=rfl
variable{fr:Bool}{nk:Nat}{es:List (wB×A)}
@[simp]theorem zYR:vwO rf g (.mp fr nk es)=.mp fr nk (es.map fun p=>(p.1,vw rf g p.2)):=rfl
@[simp]theorem qIt:vwO rf g .rsv=.rsv:=rfl
@[simp]theorem qFq:vR .rsv=.rsv:=rfl
@[simp]theorem qFA{n:Nat}:bX js n .rsv=.rsv:=rfl
variable{met:wA}
@[simp]theorem zYP{m n:Nat}:vwO rf g (.it m n met)=(match g m with|some i=>AObj.it i n met|none=>.dead):=rfl
@[simp]theorem qHX:vR (.mp fr nk es)=.mp fr nk (es.map fun p=>(p.1,nrm0 p.2)):=rfl
@[simp]theorem qHV{m n:Nat}:vR (.it m n met)=.it m n met:=rfl
@[simp]theorem qId{n:Nat}:bX js n (.mp fr nk es)=.mp fr nk (es.map fun p=>(p.1,ren js n p.2)):=rfl
@[simp]theorem qIb{n m k:Nat}:bX js n (.it m k met)=.it (back js n m) k met:=rfl
@[simp]theorem zYQ{M:Nat}{r:Loop}{es:List (Nat×A)}:vwO rf g (.lp b r M es)=.lp b r M (es.map fun p=>(p.1,vw rf g p.2)):=rfl
@[simp]theorem qHW{M:Nat}{r:Loop}{es:List (Nat×A)}:vR (.lp b r M es)=.lp b r M (es.map fun p=>(p.1,nrm0 p.2)):=rfl
@[simp]theorem qIc{n b M:Nat}{r:Loop}{es:List (Nat×A)}:bX js n (.lp b r M es)=.lp b r M (es.map fun p=>(p.1,ren js n p.2)):=rfl
@[simp]theorem qFo:vR (.box cs)=.box (jH cs):=rfl
@[simp]theorem qFp{sz n:Nat}:vR (.row fz e sz n cs)=.row fz e sz n (jH cs):=rfl
@[simp]theorem qF8{n:Nat}:bX js n (.box cs)=.box (zY0 js n cs):=rfl
@[simp]theorem qF9{n:Nat}{sz m:Nat}:bX js n (.row fz e sz m cs)=.row fz e sz m (zY0 js n cs):=rfl
@[simp]theorem qLp{n:Nat}{a:A}:ren js n a=vw jX (fun l=>some (back js n l)) a:=rfl
@[simp]theorem qIa{n:Nat}:zY0 js n cs=vwL jX (fun l=>some (back js n l)) cs:=rfl
def zRS(k:Nat)(o:Option AObj)(n:Nat)(J:List A->A):A:=match o with
 |some (.row _ _ _ m cs)=>if n=m then J cs else .any
 |_=>.any
variable{J:List A->A}
@[simp]theorem zYA{k n m:Nat}{sz:Nat}:zRS k (some (.row fz e sz m cs)) n J=if n=m then J cs else .any:=rfl
@[simp]theorem qAA{b:Bool}{l n:Nat}:seen U g 0 b l n=.any:=rfl
@[simp]theorem qA9{k l n:Nat}:seen U g (k+1) false l n=zRS k U[l]? n (fun cs=>.sl n (vwL (seen U g k) g cs)):=by
 simp only[seen,zRS];cases U[l]? with
 |none=>rfl
 |some o=>cases o<;>rfl
def zJK(o:Option AObj)(J:List A->A):A:=match o with
 |some (.box cs)=>J cs
 |_=>.any
@[simp]theorem qA7:zJK (some (.box cs)) J=J cs:=rfl
@[simp]theorem qA8{sz n:Nat}:zJK (some (.row fz e sz n cs)) J=.any:=rfl
@[simp]theorem zY9:zJK none J=.any:=rfl
@[simp]theorem qFM{k l n:Nat}:seen U g (k+1) true l n=zJK U[l]? (fun cs=>.rptr ((vwL (seen U g k) g cs).drop n)):=by
 simp only[seen,zJK];cases U[l]? with
 |none=>rfl
 |some o=>cases o<;>rfl
def zNr:List A->A
 |[x]=>x
 |l=>.tup l
@[simp]theorem qAG{x:A}:zNr [x]=x:=rfl
@[simp]theorem qAF:zNr []=.tup []:=rfl
@[simp]theorem qAH{x y:A}{l:wE}:zNr (x::y::l)=.tup (x::y::l):=rfl
def zE8(env:Env) (U:St):List RS->(List A->Prop)->Prop
 |[],J=>J []
 | .slot t::rs,J=>zE8 env U rs fun l=>J (env t::l)
 | .cell a n agg::rs,J=>mH ((ldA U n (env a)).bind (fW agg)) fun r=>zE8 env U rs fun l=>J (r::l)
@[simp]theorem qFC{J:List A->Prop}:zE8 env U [] J=J []:=rfl
variable{rs:List RS}
@[simp]theorem qAz{t:Nat}{J:List A->Prop}:zE8 env U (.slot t::rs) J=zE8 env U rs fun l=>J (env t::l):=rfl
@[simp]theorem qAy{a n:Nat}{agg:Bool}{J:List A->Prop}:zE8 env U (.cell a n agg::rs) J=mH ((ldA U n (env a)).bind (fW agg)) fun r=>zE8 env U rs fun l=>J (r::l):=rfl
theorem zH3:∀{rs:List RS} {J:List A->Prop},zE8 env U rs J=match cR env U rs with|some l=>J l|none=>False
 |[],J=>rfl
 | .slot t::rs,J=>by simp only[zE8,cR,oF];rw[zH3];cases cR env U rs<;>rfl
 | .cell a n agg::rs,J=>by
  simp only[zE8,cR,oF];cases (ldA U n (env a)).bind (fW agg)with
  |none=>rfl
  |some r =>
   simp only[mH];rw[zH3];cases cR env U rs<;>rfl
@[simp]theorem qIe{R:Out->St->Prop}:zE9 rs R env U = zE8 env U rs fun l=>R (.ret (zNr l)) U:=by
 rw[zH3,zE9,zOT];cases cR env U rs with
 |none=>rfl
 |some l =>
  cases l with
  |nil=>rfl
  |cons x l=>cases l<;>rfl
def s8(n:Nat)(r:A) (U1:St)(o:Out) (U':St):Prop :=
 ∃(r':A) (ks:wA) (fuel:Nat),o=.ret r'/\(∀i,i<n->ks[i]?=some i)/\ks.Nodup/\yX U' (seen U' (qH ks) fuel) (qH ks) ks U1 /\
  (r=vw (seen U' (qH ks) fuel) (qH ks) r'\/r=nrm0 (vw (seen U' (qH ks) fuel) (qH ks) r'))
variable{r:A}{U0 U1:St}
theorem zJ{fn:Func}{c:Code}{k:K}(hf:P.funcs[f]?=some fn)(hb:fn.body=some c)(hc:zQ P fn.ntmps c=some k.erase)(hr:iR P fn.results.toList=some rs)
 {args:wE} (h:wpF P k rs args U0 (s8 U0.length r U1)):Ret P f args U0 r U1:=zAg (tF hf hb hc hr h)
theorem zO{hint:Nat->Option wD}{fn:Func}{c:Code}{k:K}(hf:P.funcs[f]?=some fn)(hb:fn.body=some c)(hc:qF P fn.ntmps hint c=some k.erase)(hr:iR P fn.results.toList=some rs)
 {args:wE} (h:wpF P k rs args U0 (s8 U0.length r U1)):Ret P f args U0 r U1:=zAg (rC hf hb hc hr h)
variable{r':A}{U':St}
theorem zA(fuel:Nat)(h:r=vw (seen U' (fun _=>none) fuel) (fun _=>none) r'\/r=nrm0 (vw (seen U' (fun _=>none) fuel) (fun _=>none) r')):s8 0 r [] (.ret r') U' :=
 ⟨r',[],fuel,rfl,fun i hi=>by omega,by simp,trivial,h⟩
def kv:List Nat->Bool|[]=>true|a::l=>if l.contains a then false else kv l
theorem ku:∀{l:wA},kv l=true->l.Nodup
 |[],_=>List.nodup_nil
 |a::l,h=>by
  simp[kv] at h;exact List.nodup_cons.2 ⟨h.1,ku h.2⟩
def km(n:Nat)(l:wA):Bool:=if l.take n=List.range n then kv l else false
theorem kh{n:Nat}{l:wA}(h:km n l=true):l.Nodup:=by
 simp[km] at h;exact ku h.2
theorem kg{n:Nat}{l:wA}(h:km n l=true)(i:Nat)(hi:i<n):l[i]?=some i:=by
 simp[km] at h;rw[<-List.getElem?_take_of_lt hi,h.1];simp[hi]
theorem zF{n:Nat} (ks:wA)(fuel:Nat)(hk:∀i,i<n->ks[i]?=some i)(hd:ks.Nodup)(ho:yX U' (seen U' (qH ks) fuel) (qH ks) ks U1)
 (h:r=vw (seen U' (qH ks) fuel) (qH ks) r'\/r=nrm0 (vw (seen U' (qH ks) fuel) (qH ks) r')):s8 n r U1 (.ret r') U':=⟨r',ks,fuel,rfl,hk,hd,ho,h⟩
theorem ke{n:Nat} (ks:wA)(fuel:Nat)(hk:km n ks=true)(ho:yX U' (seen U' (qH ks) fuel) (qH ks) ks U1)
 (h:r=vw (seen U' (qH ks) fuel) (qH ks) r'\/r=nrm0 (vw (seen U' (qH ks) fuel) (qH ks) r')):s8 n r U1 (.ret r') U':=zF ks fuel (kg hk) (kh hk) ho h
theorem mv{n:Nat} (ks:wA)(fuel:Nat)(hk:km n ks=true)(h:(yX U' (seen U' (qH ks) fuel) (qH ks) ks U1)/\(r=vw (seen U' (qH ks) fuel) (qH ks) r'\/r=nrm0 (vw (seen U' (qH ks) fuel) (qH ks) r'))):s8 n r U1 (.ret r') U':=ke ks fuel hk h.1 h.2
theorem zJQ:∀{s:St} {j:Nat} {o:AObj},s[j]?=some o->s.set j o=s
 |[],_,_,h=>by simp at h
 |x::s,0,o,h=>by simp at h;simp[h]
 |x::s,j+1,o,h=>by simp only[jBo]at h;simp[zJQ h]
theorem zX{args args':wE}(h:Ret P f args [] r [])(ha:cZ [] args' args)(hr:∀m,vw jX (fun l=>some (m+l)) r=r)(hq:K' (env.put d r) U):aH P f args' U (outK d env K' Qp):=by
 refine b6 h [] (by simp) trivial ha ?_;have:ren [] U.length r=r:=by
  have:=hr U.length
  simpa[ren]using this
 rw[this]
 simpa[outK]using hq
theorem mu{args args':wE}(h:Ret P f args [] r [])(e:(cZ [] args' args)/\∀m,vw jX (fun l=>some (m+l)) r=r)(hq:K' (env.put d r) U):aH P f args' U (outK d env K' Qp):=zX h e.1 e.2 hq
theorem zZ{args args':wE}(h:Ret P f args [] r [])(ha:cZ [] args' args)(hr:∀m,vw jX (fun l=>some (m+l)) r=r)(hq:KD (env.put d r)):sO P U d KD f args' env:=by
 refine⟨r,b6 h [] (by simp) trivial ha ?_,hq⟩;have:ren [] U.length r=r:=by
  have:=hr U.length
  simpa[ren]using this
 rw[this];simp
theorem zU{args args':wE} (h:Ret P f args U0 r U1)(js:wA)(hd:js.Nodup)(ho:yX U jX (qH js) js U0)(ha:cZ js args' args)
 (hq:K' (env.put d (ren js U.length r)) (qS U js (U1.map (bX js U.length)))):aH P f args' U (outK d env K' Qp):=b6 h js hd ho ha (by simpa[outK]using hq)
theorem mr{args args':wE} (h:Ret P f args U0 r U1)(js:wA)(e:(js.Nodup)/\(yX U jX (qH js) js U0)/\cZ js args' args)
 (hq:K' (env.put d (ren js U.length r)) (qS U js (U1.map (bX js U.length)))):aH P f args' U (outK d env K' Qp):=zU h js e.1 e.2.1 e.2.2 hq
def zVf{S:Type}(E:S->List (Nat×A))(T:S->St)(I:S->Prop) (μ:S->Nat)(n:Nat)(e:Env)(t:St):Prop:=∃s,I s/\μ s=n/\e=qK (E s)/\t=T s
theorem qM{S:Type}{W:(Ex->wJ)->wJ}(E:S->List (Nat×A))(T:S->St)(I:S->Prop) (μ:S->Nat)(s0:S)(h0:I s0)(start:bQ n0 (qK (E s0)) (T s0) env U)
 (round:∀s,I s->W (rnd n0 (zVf E T I μ) (μ s) Q) (qK (E s)) (T s)):zHQ n0 W Q env U:=zTB E T I μ s0 h0 start round
theorem zN{S:Type}{E:S->List (Nat×A)}{T:S->St}{I:S->Prop} {μ:S->Nat}{n:Nat}(s:S)(hs:I s)(hm : μ s<n)(hw:bQ n0 (qK (E s)) (T s) env U):rnd n0 (zVf E T I μ) n Q .norm env U :=
 zY2 s hs hm hw
theorem zK(ks:wA)(fuel:Nat){l:List (Nat×A)} (hk:∀i,i<n0->ks[i]?=some i)(hd:ks.Nodup)(ho:yX U (seen U (qH ks) fuel) (qH ks) ks U')
 (hl:∀p∈l,p.2=vw (seen U (qH ks) fuel) (qH ks) (env p.1)\/p.2=nrm0 (vw (seen U (qH ks) fuel) (qH ks) (env p.1))):bQ n0 (qK l) U' env U:=bQ.sel ks fuel l hk hd ho hl
theorem kf(ks:wA)(fuel:Nat){l:List (Nat×A)} (hk:km n0 ks=true)(ho:yX U (seen U (qH ks) fuel) (qH ks) ks U')
 (hl:∀p∈l,p.2=vw (seen U (qH ks) fuel) (qH ks) (env p.1)\/p.2=nrm0 (vw (seen U (qH ks) fuel) (qH ks) (env p.1))):bQ n0 (qK l) U' env U:=zK ks fuel (kg hk) (kh hk) ho hl
theorem mw(ks:wA)(fuel:Nat){l:List (Nat×A)} (hk:km n0 ks=true)(h:(yX U (seen U (qH ks) fuel) (qH ks) ks U')/\∀p∈l,p.2=vw (seen U (qH ks) fuel) (qH ks) (env p.1)\/p.2=nrm0 (vw (seen U (qH ks) fuel) (qH ks) (env p.1))):bQ n0 (qK l) U' env U:=kf ks fuel hk h.1 h.2
end
end Go.Abs
namespace Go.Abs
section
variable{P:Program}{KD:Env->Prop}{env:Env} {U:St}{d:wC}
variable{f:FuncId}
theorem aO{args args':wE}{r:A}(h:Ret P f args [] r [])(ha:cZ [] args' args)(hr:∀m,vw jX (fun l=>some (m+l)) r=r)(hq:KD (env.put d r)):zBm P U d KD f args' env:=by
 refine⟨r,fun τ _=>b6 h [] (by simp) trivial ha ?_,hq⟩;have:ren [] τ.length r=r:=by
  have:=hr τ.length
  simpa[ren]using this
 rw[this];simp
def sG(U:St)(js:wA):List Nat->St->Prop
 |[],[]=>True
 |j::ks,o::os=>(zJ2 U[j]? fun p=>(∃cs,p=.box cs)/\(∀n,bX js n o=p)/\(o=vwO jX (qH js) p\/o=vR (vwO jX (qH js) p)))/\sG U js ks os
 |_,_=>False
@[simp]theorem zY8{js:wA}:sG U js [] []:=trivial
@[simp]theorem zWq{js ks:wA}{j:Nat}{o:AObj}{os:St}:sG U js (j::ks) (o::os)=((zJ2 U[j]? fun p=>(∃cs,p=.box cs)/\(∀n,bX js n o=p)/\(o=vwO jX (qH js) p\/o=vR (vwO jX (qH js) p)))/\sG U js ks os):=rfl
theorem uT{js:wA} {τ:St}(hk:aU U τ):∀{ks:wA} {os:St},sG U js ks os->sG τ js ks os
 |[],[],_=>trivial
 |j::ks,o::os,h=>by
  obtain⟨h1,h2⟩:=h;refine⟨?_,uT hk h2⟩;cases hj : U[j]? with
  |none=>rw[hj]at h1;exact h1.elim
  |some p =>
   rw[hj]at h1;obtain⟨⟨cs,rfl⟩,h3⟩:=h1;rw[hk j cs hj];exact⟨⟨cs,rfl⟩,h3⟩
 |[],_::_,h=>h.elim
 |_::_,[],h=>h.elim
theorem zEC{js:wA}:∀{ks:wA} {os:St},sG U js ks os->yX U jX (qH js) ks os
 |[],[],_=>trivial
 |j::ks,o::os,h=>by
  obtain⟨h1,h2⟩:=h;refine⟨?_,zEC h2⟩;cases hj : U[j]? with
  |none=>rw[hj]at h1;exact h1.elim
  |some p=>rw[hj]at h1;exact h1.2.2
 |[],_::_,h=>h.elim
 |_::_,[],h=>h.elim
theorem zEB{js:wA}{n:Nat}:∀{ks:wA} {os:St},sG U js ks os->qS U ks (os.map (bX js n)) = U
 |[],[],_=>by simp
 |j::ks,o::os,h=>by
  obtain⟨h1,h2⟩:=h;cases hj : U[j]? with
  |none=>rw[hj]at h1;exact h1.elim
  |some p =>
   rw[hj]at h1;simp only[jAg,zC8];rw[h1.2.1 n,zJQ hj];exact zEB h2
 |[],_::_,h=>h.elim
 |_::_,[],h=>h.elim
theorem zGO{args args':wE} {U0:St}{r:A}(h:Ret P f args U0 r U0)(js:wA)(hd:js.Nodup)(ho:sG U js js U0)(ha:cZ js args' args)(hr:∀n,ren js n r=r)(hq:KD (env.put d r)) :
 zBm P U d KD f args' env:=by
 refine⟨r,fun τ hk=>b6 h js hd (zEC (uT hk ho)) ha ?_,hq⟩;rw[hr,zEB (uT hk ho)];simp
end
end Go.Abs
namespace Go.Abs
section
variable{P:Program}{Qp:Value->wJ}{Qd:Value->St->Prop}{K':wJ}{env:Env} {U:St}{d:wC}{x y:Operand}
def zJx(a:A)(J:A->Prop):Prop:=match a with
 | .ptr l o=>J (.ptr l o)
 | .rptr cs=>J (.rptr cs)
 |_=>False
variable{l:Nat}
@[simp]theorem qAb{o:Nat}{J:A->Prop}:zJx (.ptr l o) J=J (.ptr l o):=rfl
variable{cs:wE}
@[simp]theorem zYe{J:A->Prop}:zJx (.rptr cs) J=J (.rptr cs):=rfl
theorem zOA{J:A->Prop}:jJ (zR env U (.nilc d x)) J=zJx (ev env x) J:=by simp only[zR,zJx,jJ];generalize ev env x=a;cases a<;>simp
@[simp]theorem qGy:wpO P Qp K' (.nilc d x) env U = zJx (ev env x) fun r=>K' (env.put d r) U:=zOA (d:=d)
@[simp]theorem zZd{fl:Nat}:jU P Qd fl K' (.nilc d x) env U = wpO P cO K' (.nilc d x) env U:=by simp[jU,KOp.lite,KOp.keeps]
def zDY:List A->(List Int->Prop)->Prop
 |[],J=>J []
 | .lit (.int .i64 n)::l,J=>zDY l fun ks=>J (n::ks)
 |_,_=>False
variable{J:List Int->Prop}
@[simp]theorem zZW:zDY [] J=J []:=rfl
@[simp]theorem zXV{n:Int}{l:wE}:zDY (.lit (.int .i64 n)::l) J=zDY l fun ks=>J (n::ks):=rfl
theorem zJm:∀(l:wE) (J:List Int->Prop),zDY l J=match zAO l with|some ks=>J ks|none=>False
 |[],J=>rfl
 |a::l,J=>by
  cases a<;>try rfl
  rename_i v;cases v<;>try rfl
  rename_i k n;cases k<;>try rfl
  simp only[zDY,zAO,zJm l];cases zAO l<;>rfl
def zFo(nk:Nat)(k:A)(J:List Int->Prop):Prop:=match zAL nk k with
 |some ks=>J ks
 |none=>False
variable{nk:Nat}
@[simp]theorem qE6:zFo nk (.agg cs) J=zDY cs fun ks=>(ks.length=nk/\nk≠1)/\J ks:=by
 simp only[zFo,zAL,zJm];cases zAO cs with
 |none=>rfl
 |some ks =>
  simp only;by_cases h:ks.length=nk/\nk≠1<;>simp[h]
@[simp]theorem qE7{n:Int}:zFo nk (.lit (.int .i64 n)) J=(nk=1/\J [n]):=by simp only[zFo,zAL];by_cases h:nk=1<;>simp[h]
def zBN(o:Option AObj)(J:Bool->Nat->List (wB×A)->Prop):Prop:=match o with
 |some (.mp fr nk es)=>J fr nk es
 |_=>False
@[simp]theorem qAa{fr:Bool}{es:List (wB×A)}{J:Bool->Nat->List (wB×A)->Prop}:zBN (some (.mp fr nk es)) J=J fr nk es:=rfl
def zRi(o:Option AObj)(J:Nat->Nat->List Nat->Prop):Prop:=match o with
 |some (.it m n met)=>J m n met
 |_=>False
@[simp]theorem zZV{m n:Nat}{met:wA}{J:Nat->Nat->List Nat->Prop}:zRi (some (.it m n met)) J=J m n met:=rfl
@[simp]theorem qIR{m:MOp}{xs:List Operand}:wpO P Qp K' (.mop d m xs) env U = dM m (xs.map (ev env)) (fun r τ=>K' (env.put d r) τ) U:=by simp only[wpO]
variable{K:A->St->Prop}
@[simp]theorem qHS:dM (.mk nk) [] K U = K (.map U.length) (U++[.mp true nk []]):=rfl
@[simp]theorem qEU{z:Value}{ok:Bool}{k:A}:dM (.get nk z ok) [.map l,k] K U = zFo nk k fun ks=>zBN U[l]? fun _ nk' es=>nk'=nk/\K (rX z ok (eU ks es)) U:=by
 simp only[dM,zFo,zBN];cases zAL nk k with
 |none=>rfl
 |some ks =>
  cases U[l]? with
  |none=>rfl
  |some o=>cases o<;>rfl
@[simp]theorem qEY{k v:A}:dM (.set nk) [.map l,k,v] K U = zFo nk k fun ks=>zBN U[l]? fun fr nk' es=>nk'=nk/\K (.lit undef) (U.set l (.mp fr nk (putI ks v es))):=by
 simp only[dM,zFo,zBN];cases zAL nk k with
 |none=>rfl
 |some ks =>
  cases U[l]? with
  |none=>rfl
  |some o=>cases o<;>rfl
@[simp]theorem qES{k:A}:dM (.del nk) [.map l,k] K U = zFo nk k fun ks=>zBN U[l]? fun _ nk' es=>nk'=nk/\K (.tup []) (U.set l (.mp false nk (zB7 ks es))):=by
 simp only[dM,zFo,zBN];cases zAL nk k with
 |none=>rfl
 |some ks =>
  cases U[l]? with
  |none=>rfl
  |some o=>cases o<;>rfl
@[simp]theorem qEX:dM .rng [.map l] K U = zBN U[l]? fun fr _ es=>fr=true/\K (.ptr U.length 0) (U++[.it l es.length []]):=by
 simp only[dM,zBN];cases U[l]? with
 |none=>rfl
 |some o =>
  cases o<;>try rfl
  rename_i fr nk es;cases fr<;>simp
@[simp]theorem qEW{j:Nat}:dM .nxt [.ptr j 0] K U = zRi U[j]? fun l n met=>zBN U[l]? fun fr _ es=>fr=true/\n=es.length /\
 (∀(i:Nat) (p:wB×A),i∉met->es[i]?=some p->K (.tup [.lit (.bool true),zCP p.1,p.2]) (U.set j (.it l n (met++[i]))))/\((∀i,i<n->i∈met)->K (.tup [.lit (.bool false)]) U):=by
 simp only[dM,zBN,zRi];cases U[j]? with
 |none=>rfl
 |some o =>
  cases o<;>try rfl
  rename_i l n met;simp only;cases U[l]? with
  |none=>rfl
  |some o =>
   cases o<;>try rfl
   rename_i fr nk es;cases fr<;>simp
@[simp]theorem qET{j:Nat}:dM .ent [.ptr j 0] K U = zRi U[j]? fun l n met=>zBN U[l]? fun fr _ es=>fr=true/\∃i p,met.getLast?=some i/\es[i]?=some p/\n=es.length/\K (.tup [zCP p.1,p.2]) U:=by
 simp only[dM,zBN,zRi];cases U[j]? with
 |none=>rfl
 |some o =>
  cases o<;>try rfl
  rename_i l n met;simp only;cases U[l]? with
  |none=>rfl
  |some o =>
   cases o<;>try(cases met.getLast?<;>rfl)
   rename_i fr nk es;cases fr
   .cases met.getLast?<;>simp
   .cases met.getLast? with
    |none=>simp
    |some i =>
     simp only;apply propext;cases hp:es[i]? with
     |none =>
      refine⟨fun h=>h.2.elim,?_⟩;rintro⟨_,i',p',h1,h2,_⟩;have h1:=jB5 h1;subst h1;rw[hp]at h2;exact absurd h2 (by simp)
     |some p =>
      refine⟨fun h=>⟨trivial,i,p,rfl,hp,h.1,h.2⟩,?_⟩;rintro⟨_,i',p',h1,h2,h3,h4⟩;have h1:=jB5 h1;subst h1;rw[hp]at h2;have h2:=jB5 h2;subst h2;exact⟨h3,h4⟩
@[simp]theorem qEQ{sz:Nat}{zs:wK}{l n o k c:Nat}:dM (.clr sz zs) [.win l n o k c] K U = (match U[l]? with
 |some (.row fz e s m cs)=>(n=m/\s=sz/\fz=false/\o+k*sz<=cs.length)/\K (.tup []) (U.set l (.row false e sz n (cs.take o++(List.replicate k (zs.map qZ)).flatten++cs.drop (o+k*sz))))
 |_=>False):=rfl
@[simp]theorem qEV{e:TypeId}{sz bytes:Nat}{zs:wK}{k k':IntKind}{n c:Int}:dM (.mks e sz bytes zs) [.lit (.int k n),.lit (.int k' c)] K U = ((0<=n/\c=n/\n<=1000000000000/\bytes*n.toNat<=281474976710656)/\K (.row U.length n.toNat) (U++[.row false e sz n.toNat ((List.replicate n.toNat (zs.map qZ)).flatten)])):=rfl
@[simp]theorem qER{k k':IntKind}{n:Int}:dM (.cvt k) [.lit (.int k' n)] K U = K (.lit (.int k (k.wrap n))) U:=rfl
@[simp]theorem zZZ{n:Nat}:dM .str [.fsl n cs] K U = (match xC cs with
 |some xs=>(xs.length=n/\n≠0)/\K (.lit (.string (strOfNums xs))) U
 |none=>False):=rfl
@[simp]theorem zZY{xs:wE}:dM .boom xs K U = False:=by cases xs<;>rfl
@[simp]theorem qI4{rf:Bool->Nat->Nat->A}{g:Nat->wC}(ks:wB):vw rf g (zCP ks)=zCP ks:=by
 have:∀ks:wB,vwL rf g (ks.map fun n=>A.lit (.int .i64 n))=ks.map fun n=>A.lit (.int .i64 n):=fun ks=>by
  induction ks with
  |nil=>rfl
  |cons k ks ih=>simp[vwL,ih]
 match ks with
 |[]=>simp[zCP]
 |[n]=>simp[zCP]
 |a::b::ks=>simp only[zCP,zYS,this]
end
end Go.Abs
namespace Go.Abs
attribute [simp] A.bnd dK AObj.bnd tD
@[simp]theorem qIZ{b k:Nat}:(yv b).bnd k=true:=rfl
section
variable{P:Program}{Qp:Value->wJ}{Qd:Value->St->Prop}{K':wJ}{env:Env} {U:St}{d:wC}{x:Operand}
def zXU:A->Option Int
 | .lit (.int _ j)=>some j
 |_=>none
variable{j:Int}
@[simp]theorem qEI{k:IntKind}:zXU (.lit (.int k j))=some j:=rfl
@[simp]theorem zVi{n:Nat}:qX env n none=some (n:Int):=rfl
@[simp]theorem zVj{n:Nat}:qX env n (some x)=zXU (ev env x):=by
 simp only[qX,zXU];cases ev env x with
 |lit u=>cases u<;>rfl
 |_=>rfl
def nV(a b:Option Int)(J:Int->Int->Prop):Prop:=match a,b with
 |some l,some h=>J l h
 |_,_=>False
@[simp]theorem zWJ{l h:Int}{J:Int->Int->Prop}:nV (some l) (some h) J=J l h:=rfl
def zRY(a:A)(lo:Option Int)(hi:Nat->Option Int)(sz:Nat)(J:A->Prop):Prop:=match a with
 | .sl n cs=>nV lo (hi n) fun l h=>(0<=l/\l<=h/\h<=n)/\J (.sl (h-l).toNat ((cs.drop (l.toNat*sz)).take ((h-l).toNat*sz)))
 | .fsl n cs=>nV lo (hi n) fun l h=>(0<=l/\l<=h/\h<=n)/\J (.sl (h-l).toNat ((cs.drop (l.toNat*sz)).take ((h-l).toNat*sz)))
 | .nil=>nV lo (hi 0) fun l h=>(l=0/\h=0)/\J .nil
 |_=>False
variable{J:A->Prop}{cs:wE}{lo:Option Int}{hi:Nat->Option Int}{sz:Nat}
@[simp]theorem qIk{n:Nat}:zRY (.sl n cs) lo hi sz J=nV lo (hi n) fun l h=>(0<=l/\l<=h/\h<=n)/\J (.sl (h-l).toNat ((cs.drop (l.toNat*sz)).take ((h-l).toNat*sz))):=rfl
@[simp]theorem qFP{n:Nat}:zRY (.fsl n cs) lo hi sz J=nV lo (hi n) fun l h=>(0<=l/\l<=h/\h<=n)/\J (.sl (h-l).toNat ((cs.drop (l.toNat*sz)).take ((h-l).toNat*sz))):=rfl
@[simp]theorem qFQ:zRY .nil lo hi sz J=nV lo (hi 0) fun l h=>(l=0/\h=0)/\J .nil:=rfl
@[simp]theorem qIX{lo hi:Option Operand}:wpO P Qp K' (.slc d x sz lo hi none) env U = zRY (ev env x) (qX env 0 lo) (fun n=>qX env n hi) sz fun r=>K' (env.put d r) U:=by
 show jJ (zR env U (.slc d x sz lo hi none)) _=_;simp only[zR,zRY];generalize ev env x=a;cases a<;>try rfl
 all_goals
  simp only[nV];generalize qX env _ lo=u;generalize qX env _ hi=v;cases u<;>cases v<;>rfl
def sS(o:Option AObj)(n sz:Nat)(J:Prop):Prop:=match o with
 |some (.row _ _ s m _)=>if n=m/\s=sz then J else False
 |_=>False
variable{fz:Bool}
@[simp]theorem zY5{e s n m sz:Nat}{J:Prop}:sS (some (.row fz e s m cs)) n sz J=((n=m/\s=sz)/\J):=by simp only[sS];by_cases h:n=m/\s=sz<;>simp[h]
def zGu(U:St)(a:A)(lo:Option Int)(hi:Nat->Option Int)(sz:Nat)(J:A->Prop):Prop:=match a with
 | .row l n=>sS U[l]? n sz (nV lo (hi n) fun l' h=>(0<=l'/\l'<=h/\h<=n)/\J (.win l n (l'.toNat*sz) (h-l').toNat sz))
 | .win l n o k c=>sS U[l]? n sz (nV lo (hi k) fun l' h=>((0<=l'/\l'<=h/\h<=k)/\c=sz)/\J (.win l n (o+l'.toNat*sz) (h-l').toNat sz))
 |_=>False
@[simp]theorem qA1{l n:Nat}:zGu U (.row l n) lo hi sz J=sS U[l]? n sz (nV lo (hi n) fun l' h=>(0<=l'/\l'<=h/\h<=n)/\J (.win l n (l'.toNat*sz) (h-l').toNat sz)):=rfl
@[simp]theorem qA2{l n o k c:Nat}:zGu U (.win l n o k c) lo hi sz J=sS U[l]? n sz (nV lo (hi k) fun l' h=>((0<=l'/\l'<=h/\h<=k)/\c=sz)/\J (.win l n (o+l'.toNat*sz) (h-l').toNat sz)):=rfl
theorem zGv{lo hi:Option Operand}:jJ (zR env U (.rslc d x sz lo hi)) J=zGu U (ev env x) (qX env 0 lo) (fun n=>qX env n hi) sz J:=by
 simp only[zR,zGu];generalize ev env x=a;have key:∀(ob:Option AObj) (n k:Nat) (f:Int->Int->Prop×A),jJ (match ob with
  |some (.row _ _ s m _)=>if n=m/\s=sz then (match qX env 0 lo,qX env k hi with
   |some l',some h=>some (f l' h)
   |_,_=>none)else none
  |_=>none) J=sS ob n sz (nV (qX env 0 lo) (qX env k hi) fun l' h=>(f l' h).1/\J (f l' h).2):=by
  intro ob n k f;simp only[sS,nV];cases ob with
  |none=>rfl
  |some ob =>
   cases ob<;>try rfl
   simp only;split
   .generalize qX env 0 lo=u;generalize qX env k hi=v;cases u<;>cases v<;>rfl
   .rfl
 cases a<;>try rfl
 .rename_i l n;exact key U[l]? n n fun l' h=>(0<=l'/\l'<=h/\h<=n,.win l n (l'.toNat*sz) (h-l').toNat sz)
 .rename_i l n o k c;exact key U[l]? n k fun l' h=>((0<=l'/\l'<=h/\h<=k)/\c=sz,.win l n (o+l'.toNat*sz) (h-l').toNat sz)
@[simp]theorem qG0{lo hi:Option Operand}:wpO P Qp K' (.rslc d x sz lo hi) env U = zGu U (ev env x) (qX env 0 lo) (fun n=>qX env n hi) sz fun r=>K' (env.put d r) U:=zGv (d:=d)
@[simp]theorem zZf{fl:Nat}{lo hi:Option Operand}:jU P Qd fl K' (.rslc d x sz lo hi) env U = zGu (nK fl U) (ev env x) (qX env 0 lo) (fun n=>qX env n hi) sz fun r=>K' (env.put d r) U:=zGv (d:=d)
@[simp]theorem qEs{sz l n:Nat}{k:IntKind}:uC U sz (.row l n) (.lit (.int k j)) J=sS U[l]? n sz ((0<=j/\j<n)/\J (.rwp l n (j.toNat*sz))):=by
 simp only[uC,sS];cases U[l]? with
 |none=>rfl
 |some o=>cases o<;>rfl
@[simp]theorem qEt{sz l n o k' c:Nat}{k:IntKind}:uC U sz (.win l n o k' c) (.lit (.int k j)) J=sS U[l]? n sz ((0<=j/\j<k')/\J (.rwp l n (o+j.toNat*sz))):=by
 simp only[uC,sS];cases U[l]? with
 |none=>rfl
 |some o=>cases o<;>rfl
def zCC(o:Option AObj)(n:Nat)(J:Prop):Prop:=match o with
 |some (.row _ _ _ m _)=>if n=m then J else False
 |_=>False
@[simp]theorem zY4{e s n m:Nat}{J:Prop}:zCC (some (.row fz e s m cs)) n J=(n=m/\J):=by simp only[zCC];by_cases h:n=m<;>simp[h]
@[simp]theorem qEF{l n:Nat}:sZ U (.row l n) J=zCC U[l]? n (J (.lit (.int .i64 n))):=by
 simp only[sZ,zCC];cases U[l]? with
 |none=>rfl
 |some o=>cases o<;>rfl
@[simp]theorem qEG{l n o k c:Nat}:sZ U (.win l n o k c) J=zCC U[l]? n (J (.lit (.int .i64 k))):=by
 simp only[sZ,zCC];cases U[l]? with
 |none=>rfl
 |some o=>cases o<;>rfl
@[simp]theorem qEC{l n o k c:Nat}:zFp U (.win l n o k c) J=zCC U[l]? n (J (.lit (.int .i64 k))):=by
 simp only[zFp,zCC];cases U[l]? with
 |none=>rfl
 |some o=>cases o<;>rfl
def zPE(ob:Option AObj)(l n o off:Nat):Option A:=match ob with
 |some (.row _ _ _ m _)=>if n=m then some (.rwp l n (o+off))else none
 |_=>none
@[simp]theorem zWA{e s n m l o off:Nat}:zPE (some (.row fz e s m cs)) l n o off=if n=m then some (.rwp l n (o+off))else none:=rfl
@[simp]theorem zZq{l n o off:Nat}:zCj U off (.rwp l n o)=zPE U[l]? l n o off:=by
 simp only[zCj,zPE];cases U[l]? with
 |none=>rfl
 |some o=>cases o<;>rfl
end
mutual
theorem zES{rf:Bool->Nat->Nat->A}{g:Nat->wC}{k:Nat}(hg:∀l,l<k->g l=some l):∀(a:A),a.bnd k=true->vw rf g a=a
 | .any,_=>by simp
 | .nil,_=>by simp
 | .lit _,_=>by simp
 | .agg cs,h=>by simp[iT hg cs h]
 | .tup cs,h=>by simp[iT hg cs h]
 | .sl _ cs,h=>by simp[iT hg cs h]
 | .fsl _ cs,h=>by simp[iT hg cs h]
 | .rptr cs,h=>by simp[iT hg cs h]
 | .ptr l _,h=>by simp[hg l (by simpa using h)]
 | .row l _,h=>by simp[hg l (by simpa using h)]
 | .rwp l _ _,h=>by simp[hg l (by simpa using h)]
 | .win l _ _ _ _,h=>by simp[hg l (by simpa[A.bnd]using h)]
 | .map l,h=>by simp only[vw];rw[hg l (by simpa using h)]
 | .clo _ fs cs,h=>by simp only[A.bnd,jA6]at h;simp[iT hg fs h.1,iT hg cs h.2]
theorem iT{rf:Bool->Nat->Nat->A}{g:Nat->wC}{k:Nat}(hg:∀l,l<k->g l=some l):∀(cs:wE),dK k cs=true->vwL rf g cs=cs
 |[],_=>by simp
 |c::cs,h=>by simp only[dK,jA6]at h;simp[zES hg c h.1,iT hg cs h.2]
end
theorem zHJ{rf:Bool->Nat->Nat->A}{g:Nat->wC}{k:Nat}(hg:∀l,l<k->g l=some l)(o:AObj)(h:o.bnd k=true):vwO rf g o=o:=by
 cases o with
 |dead=>rfl
 |box cs=>simp only[AObj.bnd]at h;simp[iT hg cs h]
 |row fz e sz n cs=>simp only[AObj.bnd]at h;simp[iT hg cs h]
 |lp b r M es =>
  simp only[AObj.bnd,jB6]at h;simp only[zYQ,AObj.lp.injEq,true_and]
  conv=>rhs;rw[<-List.map_id es]
  exact jC3 fun p hp=>by rw[zES hg _ (h p hp)];rfl
 |mp fr nk es =>
  simp only[AObj.bnd,jB6]at h;simp only[zYR,AObj.mp.injEq,true_and]
  conv=>rhs;rw[<-List.map_id es]
  exact jC3 fun p hp=>by rw[zES hg _ (h p hp)];rfl
 |it m n met =>
  simp only[AObj.bnd,decide_eq_true_eq]at h;rw[zYP,hg m h]
 |rsv=>rfl
theorem zBW:∀{l:wA} {x:Nat} {r:wA},x∉l->qH (l++r) x=(qH r x).map (· + l.length)
 |[],x,r,_=>by simp
 |y::l,x,r,h=>by
  simp only[jA1,not_or]at h;simp only[jBa,x9,h.1,if_false,zBW h.2,Option.map_map]
  congr 1
theorem x8:∀{l:wA} {x i:Nat} {r:wA},qH l x=some i->qH (l++r) x=some i
 |[],x,i,r,h=>by simp at h
 |y::l,x,i,r,h=>by
  simp only[jBa,x9]at h⊢;split
  .rename_i e;simpa[e]using h
  .rename_i e;simp only[e,if_false,jAf]at h;obtain⟨j,hj,rfl⟩:=h;rw[x8 hj];rfl
theorem uL:∀{k l:Nat},l<k->qH (List.range k) l=some l
 |k+1,l,h=>by
  rw[List.range_succ];rcases jAv l k with hl|hl
  .exact x8 (uL hl)
  .have e:l=k:=by omega
   subst e;rw[zBW (by simp)];simp
def Cl(m:Nat)(S:St):Prop:=S.length=m/\∀o∈S,o.bnd m=true
theorem Cl.app{m k:Nat}{S own:St}(h:Cl m S)(hk:own.length=k)(ho:∀o∈own,o.bnd (m+k)=true):Cl (m+k) (S++own):=by
 refine⟨by simp[h.1,hk],fun o hm=>?_⟩;rcases jAa.1 hm with hm|hm
 .exact AObj.bnd_mono (Nat.le_add_right m k) _ (h.2 o hm)
 .exact ho o hm
section
variable{P:Program}{n0:Nat}{Qp:Value->wJ}{Qd:Value->St->Prop}{K':wJ}{KD:Env->Prop}{Q:Ex->wJ}{env:Env} {U:St}{d:wC}
theorem aD{m k:Nat}{S own:St}(h:S.length=m):(S++own)[m+k]?=own[k]?:=by rw[jAw (by omega)];congr 1;omega
variable{m:Nat}
theorem aN{S own:St}(h:S.length=m):(S++own)[m]?=own[0]?:=by rw[jAw (by omega)];congr 1;omega
variable{o:AObj}
theorem cG{m k:Nat}{S own:St}(h:S.length=m):(S++own).set (m+k) o=S++own.set k o:=by rw[List.set_append_right _ _ (by omega)];congr 2;omega
theorem zBg{S own:St}(h:S.length=m):(S++own).set m o=S++own.set 0 o:=by rw[List.set_append_right _ _ (by omega)];congr 2;omega
theorem zEF{rf:Bool->Nat->Nat->A}{g:Nat->wC}{m:Nat}(hg:∀l,l<m->g l=some l) {U:St}:∀(k:Nat) (S:St),k+S.length<=m->(∀i o,S[i]?=some o->U[k+i]?=some o)->(∀o∈S,o.bnd m=true)->yX U rf g (List.range' k S.length) S
 |_,[],_,_,_=>trivial
 |k,o::S,hk,h,hb=>by simp only[jAb,List.range'_succ,zLN];refine⟨?_,zEF hg (k+1) S (by simp only[jAb]at hk;omega) (fun i o' hi=>by have:=h (i+1) o' (by simpa using hi);rwa[show k+1+i=k+(i+1) by omega]) (fun o' ho'=>hb o' (jAo _ ho'))⟩;have:=h 0 o (by simp);simp only[jC6]at this;rw[this];exact .inl (zHJ hg o (hb o (jAs ..))).symm
theorem zNi{rf:Bool->Nat->Nat->A}{S own:St}(h:Cl m S):yX (S++own) rf (qH (List.range m)) (List.range m) S:=by have:=zEF (rf:=rf) (g:=qH (List.range m)) (m:=m) (fun l hl=>uL hl) (U:=S++own) 0 S (by rw[h.1];omega) (fun i o hi=>by rw[jAz,jAj (jA4.1 hi).1];exact hi) h.2;rw[h.1,<-List.range_eq_range']at this;exact this
theorem zCl:∀{k j n l:Nat},l<k->back (List.range' j k) n l=j+l
 |k+1,j,n,0,_=>by simp[List.range'_succ]
 |k+1,j,n,l+1,h=>by simp only[List.range'_succ,zNv];rw[zCl (by omega)];omega
theorem zDm{k n l:Nat}(h:l<k):back (List.range k) n l=l:=by rw[List.range_eq_range',zCl h];omega
theorem zAd:∀{S' S own:St} (k:Nat) (pre:St),pre.length=k->S'.length=S.length->qS (pre++S++own) (List.range' k S.length) S'=pre++S'++own
 |[],[],own,k,pre,_,_=>by simp
 |o'::S',o::S,own,k,pre,hk,hl=>by
  simp only[jAb,List.range'_succ,zC8];have e:(pre++(o::S)++own).set k o'=(pre++[o'])++S++own:=by subst hk;simp
  rw[e,zAd (k+1) (pre++[o']) (by simp[hk]) (by simpa using hl)];simp
 |[],o::S,_,_,_,_,hl=>by simp at hl
 |_::_,[],_,_,_,_,hl=>by simp at hl
theorem zBy{b:Nat}{S S' own:St}{x args:wE}(h:Cl m S)(h':Cl m S')(hy:gZ P b x S fun o τ=>o=.ret (.lit (.bool true))/\τ = S')(ha:cZ (List.range m) args x){Q:Out->St->Prop}(hq:Q (.ret (.lit (.bool true))) (S'++own)) :
 gZ P b args (S++own) Q:=by
 refine zN5 hy (List.range m) List.nodup_range (zNi h) ha ?_;have e:S'.map (bX (List.range m) (S++own).length)=S':=by
  conv=>rhs;rw[<-List.map_id S']
  exact jC3 fun o ho=>by simp only[bX,id];exact zHJ (fun l hl=>by rw[zDm hl]) o (h'.2 o ho)
 rw[e];have:=zAd (own:=own) 0 [] rfl (by rw[h.1,h'.1]:S'.length=S.length);rw[h.1,<-List.range_eq_range']at this;simp only[jBm]at this;rw[this]
 simpa[ren]using hq
variable{e:TypeId}{sz:Nat}{cs:wE}
theorem zMZ{H:Mem}{L:wL}{w:World}(hs:RelSt H L U w){l n:Nat}{v:Value}(hU:U[l]?=some (.row false e sz n cs))(hv:Rel H L (.row l n) v) :
 ∃H',Nxt H L w H' L (U.set l (.row true e sz n cs)) w/\Rel H' L (.sl n cs) v:=by
 simp only[Rel]at hv;obtain⟨_,li,e1,e2,e3,hv⟩:=hv;have hob:=hs.obj l li _ e1 hU;simp only[zV]at hob;obtain⟨_,hln,hcl,hob⟩:=hob;have hv:=hv hln.symm;rcases hob with ⟨hb,h0⟩|⟨b,cur,hb,hh,k1,k2,k3,k4,k5,k6⟩
 .rw[hb]at hv;subst h0;have hcs:cs=[]:=jC5 (by simpa using hcl);refine⟨H,⟨⟨hs.pers,by simp[hs.len],fun i x o hL ho=>?_,hs.inj,hs.lt⟩,Step.refl _ _ _,LLe.refl _,fun _ h=>.inl h⟩,?_⟩
  .by_cases hi:i=l
   .subst hi;rw[e1]at hL;cases hL;rw[jAm (jA4.1 hU).1]at ho;cases ho;simp only[zV];exact⟨e2,hln,hcl,.inl ⟨hb,trivial⟩⟩
   .rw[jA9 (Ne.symm hi)]at ho;exact hs.obj i x o hL ho
  .simp only[Rel];exact⟨none,0,hv,jA _,jB3 _,.inl ⟨trivial,hcs⟩⟩
 .rw[hb]at hv;have hcell:∀(j:Nat) u,(cur.toList.take (n*sz))[j]?=some u->w.cell? ⟨b,j,none⟩=some u:=fun j u hu=>by
   rw[cell_of_row w b j cur e (0,0) hh];rw[jBg]at hu;split at hu
   .simpa using hu
   .cases hu
  have hA:=rZ (H:=H) (B:=b) (us:=cur.toList.take (n*sz)) (fun o v hv'=>by rw[k6]at hv';cases hv');have hle:HLe H (zFk H b (cur.toList.take (n*sz))):=fun b' o' v' hv'=>by
   simp only[hA];split
   .rename_i e;subst e;rw[k6]at hv';cases hv'
   .exact hv'
  have hat:At (zFk H b (cur.toList.take (n*sz))) b 0 (cur.toList.take (n*sz)):=fun i u hu=>by simp[hA,hu]
  refine⟨zFk H b (cur.toList.take (n*sz)),vJ hs e1 hb rfl rfl rfl rfl (fun d=>by rw[hh];simp) rfl (fun _ _=>rfl) hle (fun b' o' v' hv'=>?_) (fun o' v' hv'=>?_) ?_,?_⟩
  .simp only[hA]at hv';split at hv'
   .rename_i e;exact .inr e
   .exact .inl hv'
  .simp only[hA,if_true]at hv';exact hcell _ _ hv'
  .simp only[zV];refine⟨e2,hln,hcl,.inr ⟨b,cur,hb,hh,k1,k2,k3,z8.mono hle (LLe.refl _) _ k4,k5,hat,fun o ho=>?_⟩⟩;simp only[hA,if_true];rw[jB7];simp only[jAq];omega
  .simp only[Rel];exact⟨_,_,hv,k1,k2,.inr ⟨b,0,_,rfl,z8.mono hle (LLe.refl _) _ k4,k5,hat⟩⟩
theorem zN6{b l n:Nat}(hU:U[l]?=some (.row false e sz n cs)){Q:Out->St->Prop}(h:gZ P b [.sl n cs] (U.set l (.row true e sz n cs)) Q):gZ P b [.row l n] U Q:=by intro H L w vs hs hvs;obtain⟨v,vs',rfl,h1,h2⟩:=qC hvs;have:=jK h2;subst this;obtain⟨H',hn,hr⟩:=zMZ hs hU h1;obtain⟨f,tmps,x,y,k1,k2⟩:=h H' L w [v] hn.st (qV hr jR);refine⟨f,tmps,x,y,k1,k2.mono fun e w' hh=>?_⟩;obtain⟨o,U',H2,L2,g1,g2,g3⟩:=hh;exact⟨o,U',H2,L2,g1,hn.trans g2,g3⟩
theorem exY{b m k n:Nat}{S S' own:St}{J:A->St->Prop}(ho:own[k]?=some (.row false e sz n cs))(h:Cl m S)(h':Cl m S')(hc:dK 0 cs=true)
 (hy:gZ P b [.sl n cs] S fun o τ=>o=.ret (.lit (.bool true))/\τ = S')(hq:J (.lit (.bool true)) (S'++own.set k (.row true e sz n cs))) :
 ∃r U',(gZ P b [.row (m+k) n] (S++own) fun o τ=>o=.ret r/\τ = U')/\J r U':=by
 refine⟨_,_,zN6 (by rw[aD h.1];exact ho) ?_,hq⟩;rw[cG h.1];exact zBy h h' hy (by simp[iT (k:=0) (fun l hl=>by omega) cs hc]) ⟨rfl,rfl⟩
theorem zCa{H:Mem}{L:wL}{w:World}(hs:RelSt H L U w){l:Nat}{o':AObj}(hl : U[l]?=some o)(h:∀li,zV H L w li o->zV H L w li o'):RelSt H L (U.set l o') w:=by
 refine⟨hs.pers,by simp[hs.len],fun i x p hL hp=>?_,hs.inj,hs.lt⟩;by_cases hi:i=l
 .subst hi;rw[jAm (jA4.1 hl).1]at hp;cases hp;exact h x (hs.obj i x o hL hl)
 .rw[jA9 (Ne.symm hi)]at hp;exact hs.obj i x p hL hp
theorem yU{l o:Nat}(hl : U[l]?=some (.box cs))(hc:cs[o]?=some .nil)(e:TypeId)(sz:Nat):bQ n0 env (U.set l (.box (cs.set o (.row U.length 0)))++[AObj.row false e sz 0 []]) env U:=by
 intro H0 L0 w0 H L w N tmps h0 h1 h2;have hn:=gM h1.st e sz;have hlt:l < U.length:=(jA4.1 hl).1;have hl':(U++[AObj.row false e sz 0 []])[l]?=some (.box cs):=by rw[jAj hlt];exact hl
 have hs:=zCa (o':=.box (cs.set o (.row U.length 0))) hn.st hl' (fun li hob=>by
  simp only[zV]at hob ⊢;obtain⟨g0,b,vs,e',g1,g2,g3,g4,g5⟩:=hob;obtain⟨v,hv,hrel⟩:=g3.get hc;simp only[Rel]at hrel;subst hrel;have hset:vs=vs.set o (.slice none 0 0):=by
   apply jCe;intro i;by_cases hi:i=o
   .subst hi;rw[jAm (jA4.1 hv).1,hv]
   .rw[jA9 (Ne.symm hi)]
  refine⟨g0,b,vs,e',g1,g2,?_,g4,g5⟩;rw[hset];refine g3.set o ?_;simp only[Rel];exact⟨rfl,⟨none,0,0,true⟩,by rw[<-h1.st.len];simp,rfl,jA _,fun _=>rfl⟩)
 rw[List.set_append_left _ _ hlt]at hs;have hm:=h1.trans hn;exact⟨H,_,⟨hs,hm.step,hm.lle,hm.own⟩,h2.1,fun x=>Rel.mono (HLe.refl _) hn.lle _ (h2.2 x)⟩
variable{f:FuncId}{r:A}
theorem zGN{K:wJ}{args args':wE} {U1:St}(h:Ret P f args [] r U1)(ha:cZ [] args' args)(hq:K (env.put d (ren [] U.length r)) (U++U1.map (bX [] U.length))):zBn P U d K f args' env :=
 ⟨_,_,aU.append _ _,b6 h [] (by simp) trivial ha ⟨rfl,by simp⟩,hq⟩
theorem sI{rf:Bool->Nat->Nat->A}{g:Nat->wC} {U τ:St}(hk:cS U τ):∀{js:wA} {os:St},(∀o∈os,o≠AObj.rsv)->yX U rf g js os->yX τ rf g js os
 |[],[],_,h=>h
 |j::js,o::os,hn,h=>by
  simp only[yX]at h⊢;cases hj : U[j]? with
  |none=>rw[hj]at h;exact h.1.elim
  |some x =>
   rw[hj]at h;have hx:x≠AObj.rsv:=fun e=>by
    subst e;rcases h.1 with e|e
    all_goals
     exact hn o (jAs ..) (by simpa[vwO]using e)
   rw[hk j x hj hx];exact⟨h.1,sI hk (fun o ho=>hn o (jAo _ ho)) h.2⟩
 |[],_::_,_,h=>h
 |_::_,[],_,h=>h
variable{s0:St}
theorem zM0{K:wJ}{args args':wE}(h:Ret P f args s0 r s0)(js:wA)(hjs:js.Nodup)(hn:∀o∈s0,o≠AObj.rsv)(hd:yX U jX (qH js) js s0)(ha:cZ js args' args)
 (hput:∀τ:St,cS U τ->qS τ js (s0.map (bX js τ.length)) = τ)(hq:K (env.put d (ren js U.length r)) U):zEV P U d K f args' env :=
 ⟨ren js U.length r,[],fun o ho=>(by cases ho),fun τ hl hk=>by rw[<-hl];exact b6 h js hjs (sI hk hn hd) ha ⟨rfl,by simp[hput τ hk]⟩,by simpa using hq⟩
theorem zBZ{c:Nat}:∀{js:wA} {U s1:St},(∀j∈js,j<c)->(∀j∈js,j < U.length)->s1.length=js.length->KA c U (qS U js s1)
 |[],U,s1,_,_,hl=>by
  have:s1=[]:=jC5 hl;subst this
  simpa[qS]using KA.refl c U
 |j::js,U,o::s1,hc,hj,hl=>by have h1:=hc j (jAs ..);have ih:=zBZ (c:=c) (js:=js) (U:=U.set j o) (s1:=s1) (fun i hi=>hc i (jAo _ hi)) (fun i hi=>by rw[jBy];exact hj i (jAo _ hi)) (by simpa using hl);intro l cs hle hU;exact ih l cs hle (by rw[jA9 (by omega)];exact hU)
 |_::_,_,[],_,_,hl=>by simp at hl
theorem zGz{rf:Bool->Nat->Nat->A}{g:Nat->wC} {U:St}:∀{js:wA} {os:St},(∀o∈os,o≠AObj.rsv)->yX U rf g js os->∀j∈js,∃x,U[j]?=some x/\x≠AObj.rsv
 |[],_,_,_,j,hj=>by cases hj
 |_::_,[],_,h,_,_=>h.elim
 |i::js,o::os,hn,h,j,hj=>by
  simp only[yX]at h;rcases jA1.1 hj with rfl|hj
  .cases hx : U[j]? with
   |none=>rw[hx]at h;exact h.1.elim
   |some x =>
    rw[hx]at h;refine⟨x,rfl,fun e=>?_⟩;subst e;rcases h.1 with e|e
    all_goals
     exact hn o (jAs ..) (by simpa[vwO]using e)
  .exact zGz (fun o ho=>hn o (jAo _ ho)) h.2 j hj
theorem zOR{js:wA}{n:Nat}(h:o≠AObj.rsv):bX js n o≠AObj.rsv:=by cases o<;>first|(exact(h rfl).elim)|(simp only[bX,vwO];first|(split<;>simp)|simp)
theorem zEt:∀{js:wA} {s vs:St} {q:Nat},(∀o∈vs,o≠AObj.rsv)->vs.length=js.length->(qS s js vs)[q]?=some AObj.rsv->s[q]?=some AObj.rsv
 |[],s,[],q,_,_,h=>by simpa[qS]using h
 |[],_,_::_,_,_,hl,_=>by simp at hl
 |_::_,_,[],_,_,hl,_=>by simp at hl
 |j::js,s,o::vs,q,hn,hl,h=>by
  have h2:(s.set j o)[q]?=some AObj.rsv:=zEt (js:=js) (fun x hx=>hn x (jAo _ hx)) (by simpa using hl) h;by_cases e:q=j
  .subst e;rcases jAv q s.length with hlt|hge
   .rw[jAm hlt]at h2;cases h2;exact(hn _ (jAs ..) rfl).elim
   .rw[jB7 (by simpa using hge)]at h2;cases h2
  .rw[jA9 (Ne.symm e)]at h2;exact h2
theorem zEu:∀{js:wA} {s vs:St} {q:Nat} {o:AObj},q∉js->vs.length=js.length->qS (s.set q o) js vs=(qS s js vs).set q o
 |[],s,[],q,o,_,_=>by simp[qS]
 |[],_,_::_,_,_,_,hl=>by simp at hl
 |_::_,_,[],_,_,_,hl=>by simp at hl
 |j::js,s,x::vs,q,o,hq,hl=>by
  have hne:q≠j:=fun e=>hq (by simp[e])
  show qS ((s.set q o).set j x) js vs=(qS (s.set j x) js vs).set q o;rw[List.set_comm _ _ hne];exact zEu (fun h=>hq (jAo _ h)) (by simpa using hl)
variable{s1:St}
theorem zM2{K:wJ}{args args':wE}(h:Ret P f args s0 r s1)(js:wA)(hjs:js.Nodup)(hn0:∀o∈s0,o≠AObj.rsv)(hn1:∀o∈s1,o≠AObj.rsv)(hd:yX U jX (qH js) js s0)(ha:cZ js args' args)
 (hl:s1.length=js.length)(hq:K (env.put d (ren js U.length r)) (qS U js (s1.map (bX js U.length)))):zEX P U d K f args' env:=by
 have hn1':∀o∈s1.map (bX js U.length),o≠AObj.rsv:=fun o ho=>by obtain⟨x,hx,rfl⟩:=jAk.1 ho;exact zOR (hn1 x hx)
 refine⟨ren js U.length r,fun τ=>qS τ js (s1.map (bX js U.length)),⟨fun q hq=>zEt hn1' (by simpa using hl) hq,fun τ q o _ _ hq=>zEu (fun hm=>?_) (by simpa using hl)⟩,fun τ hlt hk=>?_,hq⟩
 .obtain⟨x,hx,hne⟩:=zGz hn0 hd q hm;rw[hq]at hx;cases hx;exact hne rfl
 .rw[<-hlt];exact b6 h js hjs (sI hk hn0 hd) ha ⟨rfl,rfl⟩
theorem cE{K:wJ}{args args':wE}(h:Ret P f args s0 r s1)(js:wA)(hjs:js.Nodup)(hd:yX U jX (qH js) js s0)(ha:cZ js args' args)
 (hq:K (env.put d (ren js U.length r)) (qS U js (s1.map (bX js U.length)))):zBp P U d K f args' env:=⟨_,_,b6 h js hjs hd ha ⟨rfl,rfl⟩,hq⟩
theorem aK{K:wJ}{c:Nat}{args args':wE}(h:Ret P f args s0 r s1)(js:wA)(hjs:js.Nodup)(hd:yX U jX (qH js) js s0)(ha:cZ js args' args)
 (hc:∀j∈js,j<c)(hlt:∀j∈js,j < U.length)(hl:s1.length=js.length)(hq:K (env.put d (ren js U.length r)) (qS U js (s1.map (bX js U.length)))):zEW P c U d K f args' env :=
 ⟨_,_,zBZ hc hlt (by simpa using hl),b6 h js hjs hd ha ⟨rfl,rfl⟩,hq⟩
theorem zM1{K:wJ}{c:Nat}{args args':wE}(h:Ret P f args s0 r s1)(js:wA)(hjs:js.Nodup)(hd:yX U jX (qH js) js s0)(ha:cZ js args' args)
 (hc:∀j∈js,j<c)(hlt:∀j∈js,j < U.length)(hl:s1.length=js.length)(hr:zFb U (qS U js (s1.map (bX js U.length))))(hq:K (env.put d (ren js U.length r)) (qS U js (s1.map (bX js U.length)))):zEU P c U d K f args' env :=
 ⟨_,_,⟨zBZ hc hlt (by simpa using hl),hr⟩,b6 h js hjs hd ha ⟨rfl,rfl⟩,hq⟩
theorem zH4{S own:St}(h:Cl m S)(hr:r.bnd 0=true):s8 m r S (.ret r) (S++own) :=
 zF (List.range m) 0 (fun i hi=>by simp[hi]) List.nodup_range (zNi h) (.inl (zES (k:=0) (fun l hl=>by omega) r hr).symm)
theorem uD{g:FuncId}{first cap:wE}{X:List wE}(h:∀(b m:Nat)(T:Nat->St),(∀i,i<=X.length->Cl m (T i))->(∀i (h:i<X.length),gZ P b X[i] (T i) fun o τ=>o=.ret (.lit (.bool true))/\τ = T (i+1)) ->
 Ret P g (first++[yv b]++cap) (T 0) (.tup []) (T X.length)):zMg P g first cap X:=fun b m T hT hY=>aH.mono (h b m T hT hY) fun _ _ ⟨h1,h2⟩=>⟨⟨_,h1⟩,h2⟩
end
end Go.Abs
namespace Go.Proofs.YtdnelmeboihpkaaGreatDoor
open Go.Abs
def kH(w b:wA)(k:K):K:=K.chg w b k
noncomputable def kq(f:Func)(e:List (Nat×wA)):K:=zY Tryz.prog f qB e
variable{f:FuncId}{fn:Func}{U0 U1:St}{r:A}
theorem mq(e:List (Nat×wA))(rs:List RS)(hf:Tryz.prog.funcs[f]?=some fn)(q:(fn.body.isSome,zQ Tryz.prog fn.ntmps (fn.body.getD .skip),iR Tryz.prog fn.results.toList)=(true,some (kq fn e).erase,some rs)){args:wE} (h:wpF Tryz.prog (kq fn e) rs args U0 (s8 U0.length r U1)):Ret Tryz.prog f args U0 r U1:=by
 simp only[Prod.mk.injEq] at q;obtain⟨a,b,c⟩:=q;obtain⟨x,hx⟩:=Option.isSome_iff_exists.1 a;rw[hx] at b;exact zJ hf hx b c h
theorem mn(hint:Nat->Option wD)(e:List (Nat×wA))(rs:List RS)(hf:Tryz.prog.funcs[f]?=some fn)(q:(fn.body.isSome,qF Tryz.prog fn.ntmps hint (fn.body.getD .skip),iR Tryz.prog fn.results.toList)=(true,some (zY Tryz.prog fn hint e).erase,some rs)){args:wE} (h:wpF Tryz.prog (zY Tryz.prog fn hint e) rs args U0 (s8 U0.length r U1)):Ret Tryz.prog f args U0 r U1:=by
 simp only[Prod.mk.injEq] at q;obtain⟨a,b,c⟩:=q;obtain⟨x,hx⟩:=Option.isSome_iff_exists.1 a;rw[hx] at b;exact zO hf hx b c h
theorem ml(hint:Nat->Option wD)(w b:wA)(e:List (Nat×wA))(rs:List RS)(hf:Tryz.prog.funcs[f]?=some fn)(q:(fn.body.isSome,qF Tryz.prog fn.ntmps hint (fn.body.getD .skip),iR Tryz.prog fn.results.toList)=(true,some (kH w b (zY Tryz.prog fn hint e)).erase,some rs)){args:wE} (h:wpF Tryz.prog (kH w b (zY Tryz.prog fn hint e)) rs args U0 (s8 U0.length r U1)):Ret Tryz.prog f args U0 r U1:=by
 simp only[Prod.mk.injEq] at q;obtain⟨a,b,c⟩:=q;obtain⟨x,hx⟩:=Option.isSome_iff_exists.1 a;rw[hx] at b;exact zO hf hx b c h
theorem mj(w b:wA)(e:List (Nat×wA))(rs:List RS)(hf:Tryz.prog.funcs[f]?=some fn)(q:(fn.body.isSome,zQ Tryz.prog fn.ntmps (fn.body.getD .skip),iR Tryz.prog fn.results.toList)=(true,some (kH w b (kq fn e)).erase,some rs)){args:wE} (h:wpF Tryz.prog (kH w b (kq fn e)) rs args U0 (s8 U0.length r U1)):Ret Tryz.prog f args U0 r U1:=by
 simp only[Prod.mk.injEq] at q;obtain⟨a,b,c⟩:=q;obtain⟨x,hx⟩:=Option.isSome_iff_exists.1 a;rw[hx] at b;exact zJ hf hx b c h
abbrev ky(f:Func)(k:K):Prop:=zQ Tryz.prog f.ntmps (f.body.getD .skip)=some k.erase
theorem m_{f:Func}{k:K}(h:zQ Tryz.prog f.ntmps (f.body.getD .skip)=some k.erase):ky f k:=h
@[simp]theorem kw{n:Nat}(a:1<n)(b:n<210):zC Tryz.prog n=true:=by
 have h:(List.range 210).all (fun n=>n<2||zC Tryz.prog n)=true:=by kernel_rfl
 have:=List.all_eq_true.1 h n (List.mem_range.2 b);by_cases q:n<2;omega;simpa[q]using this
abbrev my:=Ret Tryz.prog
theorem zJe(n:Int):my 122 [int n] [] (bl false) []:=by
 refine mq [] [.slot 2] func122 (by kernel_rfl) ?_
 (conv in kq _ _=>cbv)
 simp;exact zA 0 (by simp)
def bM(a b:Int):Int:=if a<b then -1 else if b<a then 1 else 0
theorem gH(a b:Int):my 80 [int a,int b] [] (int (bM a b)) []:=by
 refine mq [] [.slot 4] func80 (by kernel_rfl) ?_
 (conv in kq _ _=>cbv)
 simp;refine mu (zJe a) (by simp) ?_;simp;refine mu (zJe b) (by simp) ?_;simp;refine qY (fun h=>?_) (fun h=>?_)<;>simp at h<;>simp
 .exact zA 0 (by simp[bM,h])
 refine qY (fun h'=>?_) (fun h'=>?_)<;>simp at h'<;>simp
 .exact zA 0 (by simp[bM,h',Int.not_lt.2 h])
 .exact zA 0 (by simp[bM,Int.not_lt.2 h,Int.not_lt.2 h'])
def orI:List Int->Int
 |[]=>0
 |a::l=>if a=0 then orI l else a
def jQ(l:wB):wE:=l.map int
theorem xY:∀(l:wB),qP (jQ l)
 |[]=>qP.nil
 |_::l=>qP.lit (xY l)
@[simp]theorem qEu(l:wB):(jQ l).length=l.length:=by simp[jQ]
@[simp]theorem qAm(l:wB):jH (jQ l)=jQ l:=(xY l).1
@[simp]theorem qI3{rf g}(l:wB):vwL rf g (jQ l)=jQ l:=(xY l).2 _ _
@[simp]theorem qEv:jQ []=[]:=rfl
@[simp]theorem zZP(n:Int)(l:wB):jQ (n::l)=.lit (.int .i64 n)::jQ l:=rfl
@[simp]theorem dO(a b:wB):jQ (a++b)=jQ a++jQ b:=by simp[jQ]
theorem eI{l:wB}{i:Nat}(h:i<l.length):(jQ l).drop i=.lit (.int .i64 l[i])::jQ (l.drop (i+1)):=by rw[jQ,<-List.map_drop,jB0 h];rfl
theorem zS2{n:Nat}(h:n<=maxLen):IntKind.i64.wrap (n:Int)=n:=IntWalk.i64_in _ (by simp[maxLen]at h;omega)
theorem z6{i n:Nat}(h:i<n)(hn:n<=maxLen):IntKind.i64.wrap ((i:Int)+1)=(i:Int)+1:=IntWalk.i64_in _ (by simp[maxLen]at hn;omega)
theorem zRD(l:wB):my 79 [.sl l.length (jQ l)] [] (int (orI l)) []:=by
 refine mq [] [.slot 2] func79 (by kernel_rfl) ?_
 (conv in kq _ _=>cbv)
 simp;intro hl;refine qM (S:=Nat) (fun i=>[(3,int 0),(6,.sl l.length (jQ l)),(7,int l.length),(8,int i)]) (fun s=>[]) (fun i=>i<=l.length/\orI l=orI (l.drop i)) (fun i=>l.length-i) 0 (by simp)
  (mw [] 0 (by rfl) (by simp)) ?_
 rintro i ⟨hi,ho⟩;simp;refine qY (fun h=>?_) (fun h=>?_)<;>simp at h
 .simp[h,eI h];have hd:l.drop i=l[i]::l.drop (i+1):=jB0 h;refine qY (fun h'=>?_) (fun h'=>?_)<;>simp at h'<;>simp
  .exact zA 0 (by rw[ho,hd];simp[orI,h'])
  .refine zN (i+1) ⟨h,by rw[ho,hd];simp[orI,h']⟩ (by omega) (mw [] 0 (by rfl) (by simp[z6 h hl]))
 .simp;have:i=l.length:=by omega
  exact zA 0 (by rw[ho,this];simp[orI])
structure Id where
 a:Int
 b:Int
 c:Int
 deriving DecidableEq
abbrev wF:=List Id
theorem Id.eq_iff{x y:Id}:x=y↔x.a=y.a/\x.b=y.b/\x.c=y.c:=by cases x;cases y;simp
def zG(d:Id):wE:=[.lit (.int .i64 d.a),.lit (.int .i64 d.b),.lit (.int .i64 d.c)]
def xZ(d:Id):wB:=[d.a,d.b,d.c]
def zP:List Id->wE
 |[]=>[]
 |d::l=>.lit (.int .i64 d.a)::.lit (.int .i64 d.b)::.lit (.int .i64 d.c)::zP l
@[simp]theorem zXg:zP []=[]:=rfl
@[simp]theorem fC(d:Id)(l:wF):zP (d::l)=.lit (.int .i64 d.a)::.lit (.int .i64 d.b)::.lit (.int .i64 d.c)::zP l:=rfl
@[simp]theorem zK3:∀l:wF,(zP l).length=l.length*3
 |[]=>rfl
 |d::l=>by simp[zK3 l];omega
theorem j9:∀(a b:wF),zP (a++b)=zP a++zP b
 |[],b=>rfl
 |d::a,b=>by simp[j9 a b]
theorem dS:∀(l:wF),qP (zP l)
 |[]=>qP.nil
 |_::l=>qP.lit (qP.lit (qP.lit (dS l)))
@[simp]theorem zVX(l:wF):jH (zP l)=zP l:=(dS l).1
@[simp]theorem qAM{rf g}(l:wF):vwL rf g (zP l)=zP l:=(dS l).2 _ _
theorem yC:∀{l:wF} {i:Nat} (h:i<l.length),(zP l).drop (i*3)=.lit (.int .i64 l[i].a)::.lit (.int .i64 l[i].b)::.lit (.int .i64 l[i].c)::zP (l.drop (i+1))
 |v::l,0,h=>by simp
 |v::l,i+1,h=>by
  have e:(i+1)*3=i*3+3:=by omega
  rw[e,fC]
  simpa using yC (l:=l) (i:=i) (by simpa using h)
theorem zIn:∀(l:wF) (i:Nat),(zP l).take (i*3)=zP (l.take i)
 |[],i=>by simp
 |v::l,0=>by simp
 |v::l,i+1=>by
  have e:(i+1)*3=i*3+3:=by omega
  rw[e,fC]
  simpa using zIn l i
theorem rF:∀(l:wF) (i:Nat),(zP l).drop (i*3)=zP (l.drop i)
 |[],i=>by simp
 |v::l,0=>by simp
 |v::l,i+1=>by
  have e:(i+1)*3=i*3+3:=by omega
  rw[e,fC]
  simpa using rF l i
def zB5(x y:Id):Int:=orI [bM x.a y.a,bM x.b y.b,bM x.c y.c]
def bP(x y:Id):Bool:=if x.a≠y.a then decide (x.a<y.a)else if x.b≠y.b then decide (x.b<y.b)else decide (x.c<y.c)
end Go.Proofs.YtdnelmeboihpkaaGreatDoor
