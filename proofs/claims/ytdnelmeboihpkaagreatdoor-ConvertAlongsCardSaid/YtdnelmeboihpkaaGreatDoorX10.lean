/- An evaluator of small code at closed abstract states: code, functions, calls. -/
import Derived.Test.YtdnelmeboihpkaaGreatDoorX8
set_option linter.unusedVariables false
set_option maxHeartbeats 8000000
set_option maxRecDepth 100000
set_option linter.unusedSimpArgs false
open Go.Proofs.Tryz
namespace Go.Abs
section
variable{P:Program}{n0:Nat}
abbrev Run:=FuncId->List A->St->Option (A×St)
theorem zTr{env:Env} {U:St}:bW n0 env (U++[AObj.rsv]) env U:=by
 intro H0 L0 w0 H L w N tmps h0 h1 h2;have hll:=LLe.append L [(⟨none,0,0,false⟩:LI)];refine⟨H,L++[(⟨none,0,0,false⟩:LI)],h1.trans ?_,h2.mono (HLe.refl _) hll⟩;have hs:=h1.st;refine⟨⟨hs.pers,by simp[hs.len],fun i l o hL hU=>?_,fun i j x y b hi hj hx hy=>?_,fun i x b hi hx=>?_⟩,Step.refl _ _ _,hll,fun b ⟨i,x,hi,hx⟩=>?_⟩
 .rcases jQ hL with hL'|⟨rfl,rfl⟩
  .have hi:i<L.length:=(jA4.1 hL').1;rw[jAj (by rw[<-hs.len];exact hi)]at hU;exact(hs.obj i l o hL' hU).carry (fun _ _=>rfl) (HLe.refl _) hll (fun _ _ _=>rfl)
  .rw[hs.len]at hU;rw[jAy (jA _)]at hU;simp only[jBx,jB2,jA2]at hU;subst hU;exact⟨rfl,rfl⟩
 .rcases jQ hi with hi'|⟨rfl,rfl⟩
  .rcases jQ hj with hj'|⟨rfl,rfl⟩
   .exact hs.inj i j x y b hi' hj' hx hy
   .cases hy
  .cases hx
 .rcases jQ hi with hi'|⟨rfl,rfl⟩
  .exact hs.lt i x b hi' hx
  .cases hx
 .rcases jQ hi with hi'|⟨rfl,rfl⟩
  .exact .inl ⟨i,x,hi',hx⟩
  .cases hx
theorem yN{env:Env}:∀(n:Nat) {U:St},bW n0 env (U++List.replicate n AObj.rsv) env U
 | 0,U=>by simpa using bW.refl n0 env U
 |n+1,U=>by
  have:=(zTr (n0:=n0) (env:=env) (U:=U)).trans (yN n);rw[List.replicate_succ]
  simpa using this
structure Entry where
 k:K
 rs:List RS
 frz:Bool
def zYS(f:Nat):List (Nat×Entry)->Option Entry
 |[]=>none
 |p::l=>bif Nat.beq f p.1 then some p.2 else zYS f l
end
end Go.Abs
namespace Go.Abs
section
variable{d:wC}{x v:Operand}{n f:Nat}{g:Bool}{env:Env} {U:St}
@[simp]theorem qH2(h1:1000<=f)(h2:f<2000):cQ f (.st d x v n) env=oW (f-1000) (ev env x):=propext (zIx h1 h2)
@[simp]theorem qHz(h1:2000<=f)(h2:f<4000):cQ f (.ld d x n g) env=fH (f-2000) (ev env x):=propext (xQ h1 h2)
@[simp]theorem zU0{c l o:Nat}:oW c (.ptr l o)=(l<c):=rfl
@[simp]theorem zUz{c l o:Nat}:fH c (.ptr l o)=(c<=l):=rfl
@[simp]theorem qHl(h1:2<f):oD f U = U:=by unfold oD;rw[if_neg (by omega),if_neg (by omega)]
@[simp]theorem qH0{o:KOp}(h1:6<f)(h2:f<1000):cQ f o env=True:=by
 unfold cQ;split
 .omega
 .omega
 .rw[if_neg (by omega),if_neg (by omega),if_neg (by omega)]
end
section
variable{n0:Nat}{env:Env} {U:St}
variable{l:Nat}
theorem zFA{nk:Nat}{fr:Bool}{es:List (wB×A)}(hl : U[l]?=some (.mp fr nk es)):bW n0 env (U.set l (.mp false nk es)) env U:=by
 intro H0 L0 w0 H L w N tmps h0 h1 h2;have hs:=zCC (o':=.mp false nk es) h1.st hl (fun li hob=>by simp only[qB]at hob ⊢;obtain⟨g0,b,ents,ck,g1,g2,g3,_,g5⟩:=hob;exact⟨g0,b,ents,ck,g1,g2,g3,(fun h=>by cases h),g5⟩)
 exact⟨H,L,⟨hs,h1.step,h1.lle,h1.own⟩,h2⟩
variable{e:TypeId}{cs:wE}
theorem zTt{t m sz:Nat}{fz:Bool}(ht:env t=.row l m)(hl : U[l]?=some (.row fz e sz m cs)):bW n0 (env.put (some t) (.win l m 0 m sz)) U env U:=by
 intro H0 L0 w0 H L w N tmps h0 h1 h2;refine⟨H,L,h1,h2.1,fun x=>?_⟩;simp only[zUY];split
 .rename_i hx;subst hx;have hr:=h2.2 x;rw[ht]at hr;simp only[Rel]at hr ⊢;obtain⟨g0,li,e1,e2,e3,hv⟩:=hr;refine⟨g0,li,e1,e2,e3,fun hn=>⟨jA _,?_⟩⟩;have hob:=h1.st.obj l li _ e1 hl;simp only[qB]at hob;obtain⟨_,_,_,hob⟩:=hob;rw[hv hn];rcases hob with ⟨hb,hz⟩|⟨b,cur,hb,_,k1,k2,_⟩
  .rw[hb];exact⟨none,0,by rw[hz],by omega,jB4 _,.inl rfl⟩
  .rw[hb];exact⟨_,_,rfl,k1,k2,.inr ⟨b,rfl,rfl,by simp⟩⟩
 .exact h2.2 x
theorem zSE{H:Mem}{L:wM}{w:World}(hs:RelSt H L U w){o o':AObj}(hl : U[l]?=some o)(h:∀li,L[l]?=some li->qB H L w li o->qB H L w li o'):RelSt H L (U.set l o') w:=by
 refine⟨hs.pers,by simp[hs.len],fun i x p hL hp=>?_,hs.inj,hs.lt⟩;by_cases hi:i=l
 .subst hi;rw[jAk (jA4.1 hl).1]at hp;cases hp;exact h x hL (hs.obj i x o hL hl)
 .rw[jAa (Ne.symm hi)]at hp;exact hs.obj i x p hL hp
theorem zZw{H:Mem}{L:wM}{w:World}(hs:RelSt H L U w){l n sz:Nat}{li:LI}(hL:L[l]?=some li)(hr:li.isRow=true)(hU:U[l]?=some (.row false e sz n cs)) :
 Nxt H L w H (L.set l ⟨none,0,li.len+1,true⟩++[li]) (U.set l .dead++[AObj.row false e sz n cs]) w:=by
 have hll:=(oY (li':=(⟨none,0,li.len+1,true⟩:LI)) hL hr rfl (Nat.lt_succ_self _)).trans (LLe.append _ [li]);have hl:l<L.length:=(jA4.1 hL).1;have get:∀(i:Nat) x,(L.set l ⟨none,0,li.len+1,true⟩++[li])[i]?=some x->(i=l/\x.block=none)\/(i≠l/\L[i]?=some x)\/(i=L.length/\x=li):=by
  intro i x hx;rcases jQ hx with hx|⟨rfl,rfl⟩
  .by_cases hi:i=l
   .subst hi;rw[jAk hl]at hx;cases hx;exact .inl ⟨rfl,rfl⟩
   .rw[jAa (Ne.symm hi)]at hx;exact .inr (.inl ⟨hi,hx⟩)
  .exact .inr (.inr ⟨by simp,rfl⟩)
 have hob:=hs.obj l li _ hL hU;refine⟨⟨hs.pers,by simp[hs.len],fun i x o hx ho=>?_,fun i j x y b' hi hj hx hy=>?_,fun i x b' hi hx=>?_⟩,Step.refl _ _ _,hll,fun b' ⟨i,x,hi,hx⟩=>?_⟩
 .rcases get i x hx with ⟨rfl,_⟩|⟨hi,hx'⟩|⟨rfl,rfl⟩
  .rw[jAj (by rw[jBy,<-hs.len];exact hl),jAk (by rw[<-hs.len];exact hl)]at ho;cases ho;trivial
  .rw[jAj (by rw[jBy,<-hs.len];exact(jA4.1 hx').1),jAa (Ne.symm hi)]at ho;exact(hs.obj i x o hx' ho).carry (fun _ _=>rfl) (HLe.refl _) hll (fun _ _ _=>rfl)
  .rw[hs.len,jAy (by simp)]at ho;simp only[jBy,jBx,jB2,jA2]at ho;subst ho;exact hob.carry (fun _ _=>rfl) (HLe.refl _) hll (fun _ _ _=>rfl)
 .rcases get i x hi with ⟨_,h0⟩|⟨hi1,hi'⟩|⟨rfl,rfl⟩
  .rw[h0]at hx;cases hx
  .rcases get j y hj with ⟨_,h0⟩|⟨hj1,hj'⟩|⟨rfl,rfl⟩
   .rw[h0]at hy;cases hy
   .exact hs.inj i j x y b' hi' hj' hx hy
   .exact(hi1 (hs.inj i l x _ b' hi' hL hx hy)).elim
  .rcases get j y hj with ⟨_,h0⟩|⟨hj1,hj'⟩|⟨rfl,rfl⟩
   .rw[h0]at hy;cases hy
   .exact(hj1 (hs.inj j l y _ b' hj' hL hy hx)).elim
   .rfl
 .rcases get i x hi with ⟨_,h0⟩|⟨hi1,hi'⟩|⟨rfl,rfl⟩
  .rw[h0]at hx;cases hx
  .exact hs.lt i x b' hi' hx
  .exact hs.lt l _ b' hL hx
 .rcases get i x hi with ⟨_,h0⟩|⟨hi1,hi'⟩|⟨rfl,rfl⟩
  .rw[h0]at hx;cases hx
  .exact .inl ⟨i,x,hi',hx⟩
  .exact .inl ⟨l,_,hL,hx⟩
theorem zVw{j o l n sz:Nat}{ds:wE}(hj : U[j]?=some (.box ds))(ho:ds[o]?=some (.row l n))(hl : U[l]?=some (.row false e sz n cs)) :
 bW n0 env ((U.set l .dead).set j (.box (ds.set o (.row U.length n)))++[AObj.row false e sz n cs]) env U:=by
 intro H0 L0 w0 H L w N tmps h0 h1 h2;have hjl:j≠l:=fun e=>by subst e;rw[hj]at hl;cases hl
 have hjlt:j < U.length:=(jA4.1 hj).1;have hllt:l < U.length:=(jA4.1 hl).1;have hLl:L[l]?=some (L[l]'(by rw[h1.st.len];exact hllt)):=jA1 _;generalize L[l]'(by rw[h1.st.len];exact hllt)=li at hLl;have hob:=h1.st.obj l li _ hLl hl;have hrow:li.isRow=true:=by simp only[qB]at hob;exact hob.1
 have hn:=zZw h1.st hLl hrow hl;have hj':(U.set l .dead++[AObj.row false e sz n cs])[j]?=some (.box ds):=by rw[jAj (by rw[jBy];exact hjlt),jAa (Ne.symm hjl)];exact hj
 obtain⟨lj,hLj⟩:∃lj,L[j]?=some lj:=⟨_,jA1 (by rw[h1.st.len];exact hjlt)⟩;have hbj:=h1.st.obj j lj _ hLj hj;simp only[qB]at hbj;obtain⟨_,b0,vs0,e0,p1,p2,p3,_⟩:=hbj;obtain⟨v0,hv0,hr0⟩:=p3.get ho;simp only[Rel]at hr0;obtain⟨q0,li',q1,q2,q3,q4⟩:=hr0;rw[hLl]at q1;cases q1;have hs:=zSE (o':=.box (ds.set o (.row U.length n))) hn.st hj' (fun lx hlx hob=>by
  have hlj:lx=lj:=by rw[jAj (by rw[jBy,h1.st.len];exact hjlt),jAa (Ne.symm hjl),hLj]at hlx;exact(jB0 hlx).symm
  subst hlj;simp only[qB]at hob ⊢;obtain⟨g0,b,vs,e',g1,g2,g3,g4,g5⟩:=hob;rw[p1]at g1;cases g1;rw[p2]at g2;cases g2;refine⟨g0,b0,vs0,e0,p1,p2,?_,g4,g5⟩;have hset:vs0=vs0.set o v0:=by
   apply jCa;intro i;by_cases hi:i=o
   .subst hi;rw[jAk (jA4.1 hv0).1,hv0]
   .rw[jAa (Ne.symm hi)]
  rw[hset];refine g3.set o ?_;simp only[Rel];exact⟨q0,li,by rw[<-h1.st.len,jAy (by simp)];simp,q2,q3,q4⟩)
 rw[List.set_append_left _ _ (by rw[jBy];exact hjlt)]at hs;have hm:=h1.trans hn;exact⟨H,_,⟨hs,hm.step,hm.lle,hm.own⟩,h2.1,fun x=>Rel.mono (HLe.refl _) hn.lle _ (h2.2 x)⟩
end
end Go.Abs
namespace Go.Proofs.YtdnelmeboihpkaaGreatDoor
structure Edg where
 id:Id
 fro:Id
 to:Id
abbrev wU:=List Edg
section
variable(L:wU)(to:Id)
def eN:Nat->Id->List Id->List wF
 | 0,at_,_=>if at_=to then [[]]else []
 |n+1,at_,met=>if at_=to then [[]]else L.flatMap fun e=>if e.fro=at_/\e.to∉met then (eN n e.to (met++[e.to])).map (e.id::·)else []
inductive Rchs(met:List Id):Id->Prop
 |here:Rchs met to
 |step (e:Edg) (he:e∈L) (hn:e.to∉met) (h:Rchs met e.to):Rchs met e.fro
def zDe(met:wF):Nat:=(L.filter fun e=>decide (e.to∉met)).length
variable{L to}
theorem p9{met:wF}{e:Edg}(he:e∈L)(hn:e.to∉met):zDe L (met++[e.to])<zDe L met:=by
 unfold zDe;have h1:∀M:wU,(M.filter fun x=>decide (x.to∉met++[e.to])).length<=(M.filter fun x=>decide (x.to∉met)).length:=by
  intro M;induction M with
  |nil=>simp
  |cons x M ih =>
   rw[List.filter_cons,List.filter_cons];by_cases hx:x.to∈met
   .simp[hx];simpa using ih
   .by_cases hx2:x.to=e.to
    .simp[hx,hx2,hn];have:=ih;simp at this;omega
    .simp[hx,hx2]
     simpa using ih
 induction L with
 |nil=>cases he
 |cons x M ih =>
  rw[List.filter_cons,List.filter_cons];rcases jA3.1 he with rfl|he
  .have:=h1 M;simp[hn];simp at this;omega
  .have:=ih he;by_cases hx:x.to∈met
   .simp[hx];simpa using this
   .by_cases hx2:x.to=e.to
    .simp[hx,hx2,hn];simp at this;omega
    .simp[hx,hx2]
     simpa using this
variable{m:wF}{x:Id}
theorem Rchs.mono{m':wF}(hs:∀x∈m',x∈m)(h:Rchs L to m x):Rchs L to m' x:=by
 induction h with
 |here=>exact .here
 |step e he hn _ ih=>exact .step e he (fun h=>hn (hs _ h)) ih
theorem Rchs.last(w:Id)(h:Rchs L to m x):Rchs L to (m++[w]) x\/Rchs L to (m++[w]) w:=by
 induction h with
 |here=>exact .inl .here
 |step e he hn _ ih =>
  rcases ih with ih|ih
  .by_cases hw:e.to=w
   .exact .inr (hw▸ih)
   .exact .inl (.step e he (by simp[hn,hw]) ih)
  .exact .inr ih
theorem Rchs.own(h:Rchs L to m x):Rchs L to (m++[x]) x:=(h.last x).elim id id
theorem zEt:∀(n:Nat) (at_:Id) (met:wF),zDe L met<=n->(eN L to n at_ met≠[]↔Rchs L to met at_)
 | 0,at_,met,hn=>by
  unfold eN;split
  .rename_i h;subst h;simpa using Rchs.here
  .rename_i h;refine⟨fun h=>(h rfl).elim,fun hr=>?_⟩;cases hr with
   |here=>exact(h rfl).elim
   |step e he hm _ =>
    have:=p9 he hm;omega
 |n+1,at_,met,hn=>by
  unfold eN;split
  .rename_i h;subst h;simpa using Rchs.here
  .rename_i h;constructor
   .intro hne;have hx:∃x,x∈L.flatMap fun e=>if e.fro=at_/\e.to∉met then (eN L to n e.to (met++[e.to])).map (e.id::·)else []:=List.exists_mem_of_ne_nil _ hne
    obtain⟨x,hx⟩:=hx;rw[List.mem_flatMap]at hx;obtain⟨e,he,hx⟩:=hx;split at hx
    .rename_i hc;have hlt:=p9 he hc.2;have:=(zEt n e.to (met++[e.to]) (by omega)).1 (fun h0=>by rw[h0]at hx;simp at hx);rw[<-hc.1];exact .step e he hc.2 (this.mono (by simp +contextual))
    .simp at hx
   .intro hr h0;cases hr with
    |here=>exact h rfl
    |step e he hm hr =>
     have hlt:=p9 he hm;have h1:=(zEt n e.to (met++[e.to]) (by omega)).2 hr.own;have h2:=(List.flatMap_eq_nil_iff.1 h0) e he;rw[if_pos ⟨rfl,hm⟩,List.map_eq_nil_iff]at h2;exact h1 h2
theorem zRC(m:wF):zDe L m<=L.length:=jCq _ _
end
end Go.Proofs.YtdnelmeboihpkaaGreatDoor
namespace Go.Proofs.YtdnelmeboihpkaaGreatDoor
open Go.Abs
variable{x y:Id}
theorem xG:bZ x y=true↔x.a<y.a\/(x.a=y.a/\(x.b<y.b\/(x.b=y.b/\x.c<y.c))):=by
 unfold bZ;split
 .simp only[decide_eq_true_eq];omega
 .split
  .simp only[decide_eq_true_eq];omega
  .simp only[decide_eq_true_eq];omega
theorem xH:bZ x y=false↔¬(x.a<y.a\/(x.a=y.a/\(x.b<y.b\/(x.b=y.b/\x.c<y.c)))):=by rw[<-xG];simp
theorem eG(x:Id):bZ x x=false:=by rw[xH];omega
theorem zDi{z:Id}(h:bZ x y=true)(k:bZ y z=true):bZ x z=true:=by rw[xG]at *;omega
theorem nV(h:bZ x y=false)(k:bZ y x=false):x=y:=by
 rw[xH]at *
 rw[Id.eq_iff];omega
theorem zLY(h:bZ x y=true):bZ y x=false:=by rw[xG]at h;rw[xH];omega
theorem pY:zCc x y<0↔bZ x y=true:=by
 rw[xG];simp only[zCc,orI,bT]
 repeat' split
 all_goals omega
theorem nW:Ord zCc where
 irrefl x:=by rw[pY,eG];simp
 trans x y z h k:=by rw[pY]at *;exact zDi h k
 ntrans x y z h k:=by
  rw[pY,jCm]at *
  rw[xH]at *;omega
 anti x y h k:=by
  rw[pY,jCm]at *
  exact nV h k
def SS(l:wF):Prop:=l.Pairwise fun x y=>bZ x y=true
theorem rD{x y:Id}:∀{l:wF},y∈mK l x↔y∈l\/y=x
 |[]=>by simp[mK]
 |z::l=>by
  simp only[mK];split
  .simp only[jA3,rD (l:=l),or_assoc]
  .split
   .rename_i h;subst h;simp only[jA3];constructor
    .exact fun h=>.inl h
    .rintro(h|h)
     .exact h
     .exact .inl h
   .simp only[jA3];constructor
    all_goals
     rintro(h|h)
     .exact .inr h
     .exact .inl h
theorem zHU{x:Id}:∀{l:wF},SS l->SS (mK l x)
 |[],_=>by simp[mK,SS]
 |z::l,h=>by
  have h':=jC5.1 h;simp only[mK];split
  .rename_i hz;refine jC5.2 ⟨fun y hy=>?_,zHU h'.2⟩;rcases rD.1 hy with hy|rfl
   .exact h'.1 y hy
   .exact hz
  .rename_i hz;split
   .exact h
   .rename_i hne;have hxz:bZ x z=true:=by
     cases hh:bZ x z with
     |true=>rfl
     |false=>exact(hne (nV (by simpa using hz) hh)).elim
    refine jC5.2 ⟨fun y hy=>?_,h⟩;rcases jA3.1 hy with rfl|hy
    .exact hxz
    .exact zDi hxz (h'.1 y hy)
theorem zEx:∀{l acc:wF},SS acc->SS (l.foldl mK acc)
 |[],_,h=>h
 |_::l,_,h=>zEx (l:=l) (zHU h)
theorem zCm{y:Id}:∀{l acc:wF},y∈l.foldl mK acc↔y∈acc\/y∈l
 |[],_=>by simp
 |x::l,acc=>by simp only[jBp,zCm (l:=l),rD,jA3,or_assoc]
theorem SS.unique:∀{l l':wF},SS l->SS l'->(∀x,x∈l↔x∈l')->l=l'
 |[],[],_,_,_=>rfl
 |[],y::l',_,_,h=>by have:=(h y).2 (jAr ..);simp at this
 |x::l,[],_,_,h=>by have:=(h x).1 (jAr ..);simp at this
 |x::l,y::l',h1,h2,h=>by
  have p1:=jC5.1 h1;have p2:=jC5.1 h2;have hxy:x=y:=by
   rcases jA3.1 ((h x).1 (jAr ..))with e|e
   .exact e
   .rcases jA3.1 ((h y).2 (jAr ..))with e'|e'
    .exact e'.symm
    .have a:=p2.1 x e;have b:=p1.1 y e';rw[zLY b]at a;cases a
  subst hxy
  congr 1
  refine SS.unique p1.2 p2.2 fun z=>?_
  constructor
  .intro hz;rcases jA3.1 ((h z).1 (jAm _ hz))with e|e
   .have:=p1.1 z hz;subst e;rw[eG]at this;cases this
   .exact e
  .intro hz;rcases jA3.1 ((h z).2 (jAm _ hz))with e|e
   .have:=p2.1 z hz;subst e;rw[eG]at this;cases this
   .exact e
theorem m9{α:Type}{motive:List α->Prop}(nil:motive [])(snoc:∀l y,motive l->motive (l++[y]))(l:List α):motive l:=by
 have h:∀r:List α,motive r.reverse:=fun r=>by
  induction r with
  |nil=>exact nil
  |cons a r ih=>rw[List.reverse_cons];exact snoc _ _ ih
 have:=h l.reverse
 rwa[List.reverse_reverse]at this
def zKE(acc:wF)(y:Id):wF:=if acc.getLast?=some y then acc else acc++[y]
def zAb(l:wF):wF:=l.foldl zKE []
theorem zAn(l:wF)(y:Id):zAb (l++[y])=zKE (zAb l) y:=by simp[zAb,jCh]
theorem zLz:∀(l:wF),(zAb l).getLast?=l.getLast?:=by
 intro l;induction l using m9 with
 |nil=>rfl
 |snoc l y ih =>
  rw[zAn,zKE];split
  .rename_i h;rw[h];simp
  .simp
theorem zGq(l:wF):x∈zAb l↔x∈l:=by
 induction l using m9 with
 |nil=>simp[zAb]
 |snoc l y ih =>
  rw[zAn,zKE];split
  .rename_i h;have hy:y∈zAb l:=List.mem_of_getLast? h;simp only[ih,jAc,jAo];constructor
   .exact .inl
   .rintro(h|rfl)
    .exact h
    .exact ih.1 hy |> fun h=>h
  .simp[ih]
theorem zQY(l:wF)(h:l.Pairwise fun x y=>bZ y x=false):SS (zAb l):=by
 induction l using m9 with
 |nil=>simp[zAb,SS]
 |snoc l y ih =>
  rw[jCr]at h;have hi:=ih h.1;rw[zAn,zKE];split
  .exact hi
  .rename_i hne;unfold SS;rw[jCr];refine⟨hi,by simp,fun z hz y' hy'=>?_⟩;simp only[jAo]at hy';subst hy';have hzl:=(zGq l).1 hz;have h1:=h.2.2 z hzl y' (by simp);cases hh:bZ z y' with
   |true=>rfl
   |false =>
    exfalso;have e:=nV hh h1;subst e;rw[zLz]at hne;have hl:l≠[]:=fun e=>by rw[e]at hzl;simp at hzl
    obtain⟨w,hw⟩:∃w,l.getLast?=some w:=⟨_,List.getLast?_eq_some_getLast hl⟩;have hwl:w∈l:=List.mem_of_getLast? hw;have h2:=h.2.2 w hwl z (by simp);have hwz:w=z\/bZ w z=false:=by
     obtain⟨l',rfl⟩:∃l',l=l'++[w]:=List.getLast?_eq_some_iff.1 hw;rcases jAc.1 hzl with hz'|hz'
     .have:=h.1;rw[jCr]at this;exact .inr (this.2.2 z hz' w (by simp))
     .exact .inl (jAo.1 hz').symm
    have:w=z:=by
     rcases hwz with e|e
     .exact e
     .exact nV e h2
    subst this;exact hne hw
def zSO(l:wF):wF:=zAb (pA zCc l)
theorem zME(l:wF):(pA zCc l).Perm l:=List.mergeSort_perm l _
theorem zIv(l:wF):(pA zCc l).Pairwise fun x y=>bZ y x=false:=by
 have h:=List.pairwise_mergeSort (le:=fun x y=>!decide (zCc y x<0)) (fun a b c h1 h2=>by simp only[jBr,decide_eq_false_iff_not]at *;exact nW.ntrans c b a h2 h1)
  (fun a b=>by
   simp only[jBh,jBr,decide_eq_false_iff_not];by_cases h:zCc b a<0
   .exact .inr fun h'=>nW.irrefl _ (nW.trans _ _ _ h h')
   .exact .inl h) l
 exact h.imp fun h=>by simp only[jBr,decide_eq_false_iff_not,pY,jCm]at h;exact h
theorem zFt{l:wF}:x∈zSO l↔x∈l:=by rw[zSO,zGq,(zME l).mem_iff]
theorem zIs(l:wF):SS (zSO l):=zQY _ (zIv l)
theorem zVj(l:wF):zSO l=l.foldl mK [] :=
 SS.unique (zIs l) (zEx (by simp[SS])) fun x=>by rw[zFt,zCm];simp
@[simp]theorem qFn(d:Id):(zL d).take 3=zL d:=jAe (jA _)
@[simp]theorem qFo(d:Id):(zL d).length=3:=rfl
theorem zEr(d:Id):qV (zL d):=qV.lit (qV.lit (qV.lit qV.nil))
@[simp]theorem qBv(d:Id):jO (zL d)=zL d:=(zEr d).1
@[simp]theorem qJQ(d:Id) {rf g}:vwL rf g (zL d)=zL d:=(zEr d).2 _ _
theorem v7(l:wF):zV l=l.flatMap zL:=by
 induction l with
 |nil=>rfl
 |cons v l ih=>rw[jBb,<-ih];rfl
def zRn(s:ByteArray):wE:=[.lit (.string s)]
def yT(l:List ByteArray):wE:=l.flatMap zRn
theorem zL4(s:ByteArray):qV (zRn s):=qV.lit qV.nil
theorem eB(l:List ByteArray):qV (yT l):=c7 zL4 l
@[simp]theorem zXi(l:List ByteArray):jO (yT l)=yT l:=(eB l).1
@[simp]theorem qCc{rf g}(l:List ByteArray):vwL rf g (yT l)=yT l:=(eB l).2 _ _
@[simp]theorem zYw(l:List ByteArray):(yT l).length=l.length:=by rw[yT,fN (k:=1) (fun _=>rfl),Nat.mul_one]
@[simp]theorem zYx:yT []=[]:=rfl
inductive Typ where
 |mk (k:Int) (id:Id) (kids:List Typ)
abbrev wS:=List Typ
def Typ.k:Typ->Int | .mk k _ _=>k
def Typ.id:Typ->Id | .mk _ d _=>d
def Typ.kids:Typ->wS | .mk _ _ l=>l
variable{l:wS}
@[simp]theorem Typ.k_mk{k:Int}{i:Id}:(Typ.mk k i l).k=k:=rfl
@[simp]theorem Typ.id_mk{k:Int}{i:Id}:(Typ.mk k i l).id=i:=rfl
@[simp]theorem Typ.kids_mk{k:Int}{i:Id}:(Typ.mk k i l).kids=l:=rfl
mutual
def zCS:Typ->A
 | .mk _ _ l=>.sl l.length (jL l)
def jL:List Typ->wE
 |[]=>[]
 |t::l=>.lit (.int .i64 t.k)::.lit (.int .i64 t.id.a)::.lit (.int .i64 t.id.b)::.lit (.int .i64 t.id.c)::zCS t::jL l
end
theorem zQT(t:Typ):zCS t=.sl t.kids.length (jL t.kids):=by cases t;simp only[zCS,Typ.kids]
def zB(t:Typ):wE:=[.lit (.int .i64 t.k),.lit (.int .i64 t.id.a),.lit (.int .i64 t.id.b),.lit (.int .i64 t.id.c),.sl t.kids.length (jL t.kids)]
theorem lK(l:wS):jL l=l.flatMap zB:=by
 induction l with
 |nil=>simp only[jL,List.flatMap_nil]
 |cons t l ih=>simp only[jL,jBb,ih,zQT,zB];rfl
mutual
theorem zIS:∀t:Typ,nrm0 (zCS t)=zCS t/\∀rf g,vw rf g (zCS t)=zCS t
 | .mk k n l=>by have h:=y9 l;simp only[zCS];exact⟨by simp[h.1],fun rf g=>by simp[h.2]⟩
theorem y9:∀l:wS,qV (jL l)
 |[]=>by simp only[jL];exact qV.nil
 |v::l=>by have h:=zIS v;have h':=y9 l;simp only[jL];exact⟨by simp[h.1,h'.1],fun rf g=>by simp[h.2,h'.2]⟩
end
theorem zEs(t:Typ):qV (zB t):=qV.lit (qV.lit (qV.lit (qV.lit (qV.sl (y9 _) qV.nil))))
inductive Exp where
 |mk (id:Id) (k n:Int) (ref:Id) (typ:Typ) (kids:List Exp) (names:List ByteArray)
abbrev wG:=List Exp
def Exp.id:Exp->Id | .mk x _ _ _ _ _ _=>x
def Exp.k:Exp->Int | .mk _ x _ _ _ _ _=>x
def Exp.n:Exp->Int | .mk _ _ x _ _ _ _=>x
def Exp.ref:Exp->Id | .mk _ _ _ x _ _ _=>x
def Exp.typ:Exp->Typ | .mk _ _ _ _ x _ _=>x
def Exp.kids:Exp->wG | .mk _ _ _ _ _ x _=>x
def Exp.names:Exp->List ByteArray | .mk _ _ _ _ _ _ x=>x
variable{a d:Id}{b c:Int}{e:Typ}{f:wG}{g:List ByteArray}
@[simp]theorem Exp.id_mk:(Exp.mk a b c d e f g).id=a:=rfl
@[simp]theorem Exp.k_mk:(Exp.mk a b c d e f g).k=b:=rfl
@[simp]theorem Exp.n_mk:(Exp.mk a b c d e f g).n=c:=rfl
@[simp]theorem Exp.ref_mk:(Exp.mk a b c d e f g).ref=d:=rfl
@[simp]theorem Exp.typ_mk:(Exp.mk a b c d e f g).typ=e:=rfl
@[simp]theorem Exp.kids_mk:(Exp.mk a b c d e f g).kids=f:=rfl
@[simp]theorem Exp.names_mk:(Exp.mk a b c d e f g).names=g:=rfl
mutual
def zCR:Exp->A
 | .mk _ _ _ _ _ l _=>.sl l.length (qQ l)
def qQ:List Exp->wE
 |[]=>[]
 |e::l=>[.lit (.int .i64 e.id.a),.lit (.int .i64 e.id.b),.lit (.int .i64 e.id.c),.lit (.int .i64 e.k),.lit (.int .i64 e.n),.lit (.int .i64 e.ref.a),.lit (.int .i64 e.ref.b),.lit (.int .i64 e.ref.c),.lit (.int .i64 e.typ.k),.lit (.int .i64 e.typ.id.a),.lit (.int .i64 e.typ.id.b),.lit (.int .i64 e.typ.id.c),.sl e.typ.kids.length (jL e.typ.kids),zCR e,.sl e.names.length (yT e.names)]++qQ l
end
theorem zQS(e:Exp):zCR e=.sl e.kids.length (qQ e.kids):=by cases e;simp only[zCR,Exp.kids]
def zJ(e:Exp):wE:=[.lit (.int .i64 e.id.a),.lit (.int .i64 e.id.b),.lit (.int .i64 e.id.c),.lit (.int .i64 e.k),.lit (.int .i64 e.n),.lit (.int .i64 e.ref.a),.lit (.int .i64 e.ref.b),.lit (.int .i64 e.ref.c),.lit (.int .i64 e.typ.k),.lit (.int .i64 e.typ.id.a),.lit (.int .i64 e.typ.id.b),.lit (.int .i64 e.typ.id.c),.sl e.typ.kids.length (jL e.typ.kids),.sl e.kids.length (qQ e.kids),.sl e.names.length (yT e.names)]
theorem fW(l:wG):qQ l=l.flatMap zJ:=by
 induction l with
 |nil=>simp only[qQ,List.flatMap_nil]
 |cons t l ih=>simp only[qQ,jBb,ih,zQS,zJ]
mutual
theorem zIR:∀t:Exp,nrm0 (zCR t)=zCR t/\∀rf g,vw rf g (zCR t)=zCR t
 | .mk _ _ _ _ _ l _=>by have h:=fX l;simp only[zCR];exact⟨by simp[h.1],fun rf g=>by simp[h.2]⟩
theorem fX:∀l:wG,qV (qQ l)
 |[]=>by simp only[qQ];exact qV.nil
 |v::l=>by have h:=zIR v;have h':=fX l;have h1:=y9 v.typ.kids;have h2:=eB v.names;simp only[qQ];exact⟨by simp[h.1,h'.1,h1.1,h2.1],fun rf g=>by simp[h.2,h'.2,h1.2,h2.2]⟩
end
theorem zAs(e:Exp):qV (zJ e):=by have h:=fX e.kids;have h1:=y9 e.typ.kids;have h2:=eB e.names;exact⟨by simp[zJ,h.1,h1.1,h2.1],fun rf g=>by simp[zJ,h.2,h1.2,h2.2]⟩
structure Slt where
 id:Id
 name:ByteArray
 typ:Typ
 most:Int
 place:Int
def j4(s:Slt):wE:=[.lit (.int .i64 s.id.a),.lit (.int .i64 s.id.b),.lit (.int .i64 s.id.c),.lit (.string s.name),.lit (.int .i64 s.typ.k),.lit (.int .i64 s.typ.id.a),.lit (.int .i64 s.typ.id.b),.lit (.int .i64 s.typ.id.c),.sl s.typ.kids.length (jL s.typ.kids),.lit (.int .i64 s.most),.lit (.int .i64 s.place)]
theorem sJ(s:Slt):qV (j4 s):=by have h1:=y9 s.typ.kids;exact⟨by simp[j4,h1.1],fun rf g=>by simp[j4,h1.2]⟩
def jN(l:List Slt):wE:=l.flatMap j4
theorem fZ(l:List Slt):jN l=l.flatMap j4:=rfl
structure Dfn where
 id:Id
 kind:Int
 mod:Id
 name:ByteArray
 slots:List Slt
 res:Typ
 body:Exp
 place:Int
 lay:List ByteArray
abbrev wQ:=List Dfn
def zK(d:Dfn):wE:=[.lit (.int .i64 d.id.a),.lit (.int .i64 d.id.b),.lit (.int .i64 d.id.c),.lit (.int .i64 d.kind),.lit (.int .i64 d.mod.a),.lit (.int .i64 d.mod.b),.lit (.int .i64 d.mod.c),.lit (.string d.name),.sl d.slots.length (jN d.slots),.lit (.int .i64 d.res.k),.lit (.int .i64 d.res.id.a),.lit (.int .i64 d.res.id.b),.lit (.int .i64 d.res.id.c),.sl d.res.kids.length (jL d.res.kids),.lit (.int .i64 d.body.id.a),.lit (.int .i64 d.body.id.b),.lit (.int .i64 d.body.id.c),.lit (.int .i64 d.body.k),.lit (.int .i64 d.body.n),.lit (.int .i64 d.body.ref.a),.lit (.int .i64 d.body.ref.b),.lit (.int .i64 d.body.ref.c),.lit (.int .i64 d.body.typ.k),.lit (.int .i64 d.body.typ.id.a),.lit (.int .i64 d.body.typ.id.b),.lit (.int .i64 d.body.typ.id.c),.sl d.body.typ.kids.length (jL d.body.typ.kids),.sl d.body.kids.length (qQ d.body.kids),.sl d.body.names.length (yT d.body.names),.lit (.int .i64 d.place),.sl d.lay.length (yT d.lay)]
theorem bP(d:Dfn):qV (zK d):=by have h1:=y9 d.res.kids;have h2:=y9 d.body.typ.kids;have h3:=fX d.body.kids;have h4:=eB d.body.names;have h5:=eB d.lay;have h6:=c7 sJ d.slots;exact⟨by simp[zK,jN,h1.1,h2.1,h3.1,h4.1,h5.1,h6.1],fun rf g=>by simp[zK,jN,h1.2,h2.2,h3.2,h4.2,h5.2,h6.2]⟩
def z6(l:wQ):wE:=l.flatMap zK
theorem dL(l:wQ):z6 l=l.flatMap zK:=rfl
structure Md where
 id:Id
 name:ByteArray
 uses:List Id
 defs:List Id
def nQ(m:Md):wE:=[.lit (.int .i64 m.id.a),.lit (.int .i64 m.id.b),.lit (.int .i64 m.id.c),.lit (.string m.name),.sl m.uses.length (zV m.uses),.sl m.defs.length (zV m.defs)]
theorem zAu(m:Md):qV (nQ m):=by have h1:=dZ m.uses;have h2:=dZ m.defs;exact⟨by simp[nQ,h1.1,h2.1],fun rf g=>by simp[nQ,h1.2,h2.2]⟩
def qG(l:List Md):wE:=l.flatMap nQ
theorem v8(l:List Md):qG l=l.flatMap nQ:=rfl
structure Prg where
 mods:List Md
 defs:List Dfn
def zN(p:Prg):wE:=[.sl p.mods.length (qG p.mods),.sl p.defs.length (z6 p.defs)]
theorem eP(p:Prg):zN p=[.sl p.mods.length (qG p.mods),.sl p.defs.length (z6 p.defs)]:=rfl
@[simp]theorem zXk(l:wS):jO (jL l)=jL l:=(y9 l).1
@[simp]theorem qCe{rf g}(l:wS):vwL rf g (jL l)=jL l:=(y9 l).2 _ _
@[simp]theorem zY3:jL []=[]:=by rw[lK];rfl
theorem qN(x:Typ)(l:wS):jL (x::l)=zB x++jL l:=by rw[lK,lK];rfl
theorem pL(l l':wS):jL (l++l')=jL l++jL l':=by simp only[lK,jBz]
@[simp]theorem zY2(l:wS):(jL l).length=l.length*5:=by rw[lK,fN (k:=5) (fun _=>rfl)]
variable{i:Nat}
theorem mC(h:i<l.length):(jL l).drop (i*5)=zB l[i]++jL (l.drop (i+1)):=by rw[lK,lK,eX (k:=5) (fun _=>rfl) h]
@[simp]theorem qFu(d:Typ):(zB d).length=5:=rfl
@[simp]theorem qFt(d:Typ):(zB d).take 5=zB d:=jAe (jA _)
@[simp]theorem qAR(d:Typ)(l:wE):(zB d++l).take 5=zB d:=by rw[jC6 (by simp)];exact jAe (by simp)
@[simp]theorem qBy(d:Typ):jO (zB d)=zB d:=(zEs d).1
@[simp]theorem qJT(d:Typ) {rf g}:vwL rf g (zB d)=zB d:=(zEs d).2 _ _
@[simp]theorem zXd(l:wG):jO (qQ l)=qQ l:=(fX l).1
@[simp]theorem qBX{rf g}(l:wG):vwL rf g (qQ l)=qQ l:=(fX l).2 _ _
@[simp]theorem zYp:qQ []=[]:=by rw[fW];rfl
theorem zO(x:Exp)(l:wG):qQ (x::l)=zJ x++qQ l:=by rw[fW,fW];rfl
theorem zFL(l l':wG):qQ (l++l')=qQ l++qQ l':=by simp only[fW,jBz]
@[simp]theorem zYo(l:wG):(qQ l).length=l.length*15:=by rw[fW,fN (k:=15) (fun _=>rfl)]
theorem y5{l:wG}(h:i<l.length):(qQ l).drop (i*15)=zJ l[i]++qQ (l.drop (i+1)):=by rw[fW,fW,eX (k:=15) (fun _=>rfl) h]
theorem bO{l:wG}(h:i<l.length):qQ (l.take (i+1))=qQ (l.take i)++zJ l[i]:=by rw[fW,fW,iT (k:=15) (fun _=>rfl) h]
@[simp]theorem qFk(d:Exp):(zJ d).length=15:=rfl
@[simp]theorem qFj(d:Exp):(zJ d).take 15=zJ d:=jAe (jA _)
@[simp]theorem qAL(d:Exp)(l:wE):(zJ d++l).take 15=zJ d:=by rw[jC6 (by simp)];exact jAe (by simp)
@[simp]theorem qBt(d:Exp):jO (zJ d)=zJ d:=(zAs d).1
@[simp]theorem qJO(d:Exp) {rf g}:vwL rf g (zJ d)=zJ d:=(zAs d).2 _ _
theorem zBb(l:List Slt):qV (jN l):=c7 sJ l
@[simp]theorem zXj(l:List Slt):jO (jN l)=jN l:=(zBb l).1
@[simp]theorem qCd{rf g}(l:List Slt):vwL rf g (jN l)=jN l:=(zBb l).2 _ _
@[simp]theorem zY1:jN []=[]:=by rw[fZ];rfl
theorem mB(x:Slt)(l:List Slt):jN (x::l)=j4 x++jN l:=by rw[fZ,fZ];rfl
theorem pK(l l':List Slt):jN (l++l')=jN l++jN l':=by simp only[fZ,jBz]
@[simp]theorem zY0(l:List Slt):(jN l).length=l.length*11:=by rw[fZ,fN (k:=11) (fun _=>rfl)]
theorem qW{l:List Slt}(h:i<l.length):(jN l).drop (i*11)=j4 l[i]++jN (l.drop (i+1)):=by rw[fZ,fZ,eX (k:=11) (fun _=>rfl) h]
theorem zCb{l:List Slt}(h:i<l.length):jN (l.take (i+1))=jN (l.take i)++j4 l[i]:=by rw[fZ,fZ,iT (k:=11) (fun _=>rfl) h]
@[simp]theorem qFs(d:Slt):(j4 d).length=11:=rfl
@[simp]theorem qFr(d:Slt):(j4 d).take 11=j4 d:=jAe (jA _)
@[simp]theorem qAQ(d:Slt)(l:wE):(j4 d++l).take 11=j4 d:=by rw[jC6 (by simp)];exact jAe (by simp)
@[simp]theorem qBx(d:Slt):jO (j4 d)=j4 d:=(sJ d).1
@[simp]theorem qJS(d:Slt) {rf g}:vwL rf g (j4 d)=j4 d:=(sJ d).2 _ _
theorem r9(l:wQ):qV (z6 l):=c7 bP l
@[simp]theorem zXc(l:wQ):jO (z6 l)=z6 l:=(r9 l).1
@[simp]theorem qBW{rf g}(l:wQ):vwL rf g (z6 l)=z6 l:=(r9 l).2 _ _
@[simp]theorem zYn:z6 []=[]:=by rw[dL];rfl
theorem uL(x:Dfn)(l:wQ):z6 (x::l)=zK x++z6 l:=by rw[dL,dL];rfl
theorem x7(l l':wQ):z6 (l++l')=z6 l++z6 l':=by simp only[dL,jBz]
@[simp]theorem zLr(l:wQ):(z6 l).length=l.length*31:=by rw[dL,fN (k:=31) (fun _=>rfl)]
theorem yD{l:wQ}(h:i<l.length):(z6 l).drop (i*31)=zK l[i]++z6 (l.drop (i+1)):=by rw[dL,dL,eX (k:=31) (fun _=>rfl) h]
theorem zBZ{l:wQ}(h:i<l.length):z6 (l.take (i+1))=z6 (l.take i)++zK l[i]:=by rw[dL,dL,iT (k:=31) (fun _=>rfl) h]
theorem zLs{l:wQ}(x:Dfn)(h:i<l.length):(z6 l).take (i*31)++(zK x++(z6 l).drop (i*31+31))=z6 (l.set i x):=by rw[dL,dL,zJp (k:=31) (fun _=>rfl) x h]
@[simp]theorem zJg(d:Dfn):(zK d).length=31:=rfl
@[simp]theorem qFi(d:Dfn):(zK d).take 31=zK d:=jAe (jA _)
@[simp]theorem qAK(d:Dfn)(l:wE):(zK d++l).take 31=zK d:=by rw[jC6 (by simp)];exact jAe (by simp)
@[simp]theorem qBs(d:Dfn):jO (zK d)=zK d:=(bP d).1
@[simp]theorem qJN(d:Dfn) {rf g}:vwL rf g (zK d)=zK d:=(bP d).2 _ _
theorem sE(l:List Md):qV (qG l):=c7 zAu l
@[simp]theorem zXh(l:List Md):jO (qG l)=qG l:=(sE l).1
@[simp]theorem qCb{rf g}(l:List Md):vwL rf g (qG l)=qG l:=(sE l).2 _ _
@[simp]theorem zYv:qG []=[]:=by rw[v8];rfl
theorem fM(x:Md)(l:List Md):qG (x::l)=nQ x++qG l:=by rw[v8,v8];rfl
@[simp]theorem zYu(l:List Md):(qG l).length=l.length*6:=by rw[v8,fN (k:=6) (fun _=>rfl)]
@[simp]theorem qFq(d:Md):(nQ d).length=6:=rfl
@[simp]theorem qFp(d:Md):(nQ d).take 6=nQ d:=jAe (jA _)
@[simp]theorem qAP(d:Md)(l:wE):(nQ d++l).take 6=nQ d:=by rw[jC6 (by simp)];exact jAe (by simp)
@[simp]theorem qBw(d:Md):jO (nQ d)=nQ d:=(zAu d).1
@[simp]theorem qJR(d:Md) {rf g}:vwL rf g (nQ d)=nQ d:=(zAu d).2 _ _
def Typ.zero:Typ:=.mk 0 Id.zero []
def Exp.zero:Exp:=.mk Id.zero 0 0 Id.zero Typ.zero [] []
def Dfn.zero:Dfn:=⟨Id.zero,0,Id.zero,⟨#[]⟩,[],Typ.zero,Exp.zero,0,[]⟩
end Go.Proofs.YtdnelmeboihpkaaGreatDoor
namespace Go.Abs
def Pan(P:Program)(f:FuncId)(args:wE) (U0:St)(v:Value):Prop:=aV P f args U0 fun o _=>o=.pan v
section
variable{P:Program}{n0:Nat}{Qp:Value->wK}{Qd:Value->St->Prop}{K':wK}{env:Env} {U:St}{d:wC}
variable{f:FuncId}{U0:St}{v:Value}{Q:Out->St->Prop}
theorem Pan.mono{args:wE} (h:Pan P f args U0 v)(hq:∀τ,Q (.pan v) τ):aV P f args U0 Q:=fun H L w vs h1 h2=>(h H L w vs h1 h2).mono fun e w' hh=>by obtain⟨o,U',H',L',g1,g2,rfl⟩:=hh;exact⟨_,U',H',L',g1,g2,hq U'⟩
variable{rs:List RS}
theorem rK{fn:Func}{c:Code}{k:K}(hf:P.funcs[f]?=some fn)(hb:fn.body=some c)(hc:zU P fn.ntmps c=some k.erase)(hr:i7 P fn.results.toList=some rs)
 {args:wE} {U:St}(h:wpF P k rs args U fun o _=>o=.pan v):Pan P f args U v:=uJ hf hb hc hr h
theorem bF{hint:Nat->Option wD}{fn:Func}{c:Code}{k:K}(hf:P.funcs[f]?=some fn)(hb:fn.body=some c)(hc:qJ P fn.ntmps hint c=some k.erase)(hr:i7 P fn.results.toList=some rs)
 {args:wE} {U:St}(h:wpF P k rs args U fun o _=>o=.pan v):Pan P f args U v:=r8 hf hb hc hr h
theorem zIN{args args':wE} (h:Pan P f args U0 v)(js:wA)(hd:js.Nodup)(ho:aB U j5 (qP js) js U0)(ha:dD js args' args)
 (hq:∀τ:St,Q (.pan v) (q9 U js τ)):aV P f args' U Q :=
 zBX (C:=fun vs w R=>Calls P f vs.toArray w R) (zAm P f) (Q0:=fun o _=>o=.pan v) h js hd ho ha fun o U1 h0=>by subst h0;exact hq _
theorem zAW{args args':wE} (h:Pan P f args U0 v)(js:wA)(hd:js.Nodup)(ho:aB U j5 (qP js) js U0)(ha:dD js args' args)
 (hq:∀τ:St,Qp v env (q9 U js τ)):aV P f args' U (outK d env K' Qp):=zIN h js hd ho ha fun τ=>by simpa[outK]using hq τ
theorem mY{args args':wE} (h:Pan P f args U0 v)(js:wA)(hd:js.Nodup)(ho:aB U j5 (qP js) js U0)(ha:dD js args' args)
 (hq:∀τ:St,Qd v (q9 U js τ)):zBN P Qd U d K' f args' env:=zIN h js hd ho ha fun τ=>.inr ⟨v,rfl,hq τ⟩
theorem gR{args args':wE} {U1:St}{r:A}(h:Ret P f args U0 r U1)(js:wA)(hd:js.Nodup)(ho:aB U j5 (qP js) js U0)(ha:dD js args' args)
 (hq:K' (env.put d (ren js U.length r)) (q9 U js (U1.map (cH js U.length)))):zBN P Qd U d K' f args' env:=cS h js hd ho ha (.inl ⟨_,rfl,hq⟩)
theorem lO{α:Type}:∀{js:wA} {s t:List α} {x:Nat},x<s.length->x∉js->(q9 s js t)[x]?=s[x]?
 |[],s,t,x,hx,_=>by simp[q9,jAj hx]
 |j::js,s,[],x,_,_=>by simp[q9]
 |j::js,s,o::os,x,hx,hn=>by simp only[jA3,not_or]at hn;simp only[q9];rw[lO (by simpa using hx) hn.2,jAa (Ne.symm hn.1)]
end
end Go.Abs
namespace Go.Abs
mutual
theorem zXS{k:Nat}:∀(a:A),(vw j5 (fun _=>none) a=a)->a.bnd k=true
 | .any,_=>by simp
 | .nil,_=>by simp
 | .lit _,_=>by simp
 | .agg cs,h=>by simp at h;simp[mX cs h]
 | .tup cs,h=>by simp at h;simp[mX cs h]
 | .sl _ cs,h=>by simp at h;simp[mX cs h]
 | .fsl _ cs,h=>by simp at h;simp[mX cs h]
 | .rptr cs,h=>by simp at h;simp[mX cs h]
 | .ptr l _,h=>by simp at h
 | .row l _,h=>by simp at h
 | .rwp l _ _,h=>by simp at h
 | .win l _ _ _ _,h=>by simp[zO0]at h
 | .map l,h=>by simp at h
 | .clo _ fs cs,h=>by simp at h;simp[mX fs h.1,mX cs h.2]
theorem mX{k:Nat}:∀(cs:wE),(vwL j5 (fun _=>none) cs=cs)->dT k cs=true
 |[],_=>by simp
 |c::cs,h=>by simp at h;simp[zXS c h.1,mX cs h.2]
end
theorem qV.bnd{cs:wE}(h:qV cs)(k:Nat):dT k cs=true:=mX cs (h.2 _ _)
def shL(m:Nat)(ks:wA):wA:=List.range m++ks.map fun k=>m+k
variable{m:Nat}
theorem zIk{l:Nat}{ks:wA}(h:l<m):qP (shL m ks) l=some l:=zA5 (vJ h)
theorem zGS{m k:Nat}:∀ks:wA,qP (ks.map fun k=>m+k) (m+k)=qP ks k
 |[]=>rfl
 |x::ks=>by
  simp only[jAi,zA6];by_cases h:k=x
  .simp[h]
  .rw[if_neg (by omega),if_neg h,zGS ks]
@[simp]theorem zP0{m k:Nat}{ks:wA}:qP (shL m ks) (m+k)=(qP ks k).map (m + ·):=by unfold shL;rw[zC7 (by simp),zGS,List.length_range];cases qP ks k<;>simp[jCn]
@[simp]theorem zZ6{ks:wA}:qP (shL m ks) m=(qP ks 0).map (m + ·):=by
 have:=zP0 (m:=m) (k:=0) (ks:=ks)
 simpa using this
theorem zCH{ks:wA}(h:ks.Nodup):(shL m ks).Nodup:=by
 unfold shL;rw[jCs];refine⟨List.nodup_range,?_,fun a ha b hb=>?_⟩
 .exact List.Pairwise.map _ (fun a b hab e=>hab (Nat.add_left_cancel e)) h
 .obtain⟨k,_,rfl⟩:=jAg.1 hb;rw[jC]at ha;omega
theorem zNV{c:Nat}{ks:wA}(h:∀j,j<c->ks[j]?=some j):∀i,i<m+c->(shL m ks)[i]?=some i:=by
 intro i hi;unfold shL;by_cases hm:i<m
 .rw[jAj (by simpa using hm),List.getElem?_range hm]
 .rw[jAy (by simp;omega),List.length_range,jBs,h (i-m) (by omega)];simp;omega
theorem zHc{U:St}{rf:Bool->Nat->Nat->A}{g:Nat->wC}:∀{ks js:wA} {a b:St},aB U rf g ks a->aB U rf g js b->aB U rf g (ks++js) (a++b)
 |[],_,[],_,_,h=>h
 |k::ks,js,x::a,b,h,h'=>⟨h.1,zHc h.2 h'⟩
 |[],_,_::_,_,h,_=>h.elim
 |_::_,_,[],_,h,_=>h.elim
theorem zDt{m:Nat}{S own:St}(hS:S.length=m){rf:Bool->Nat->Nat->A}{g:Nat->wC}:∀{ks:wA} {a:St},aB own rf g ks a->aB (S++own) rf g (ks.map fun k=>m+k) a
 |[],[],_=>trivial
 |k::ks,x::a,h=>by simp only[jAi,aB];refine⟨?_,zDt hS h.2⟩;rw[aL hS];exact h.1
 |[],_::_,h=>h.elim
 |_::_,[],h=>h.elim
variable{rf:Bool->Nat->Nat->A}
theorem zIr{S own own':St}(h:Cl m S){ks:wA}(ho:aB own rf (qP (shL m ks)) ks own'):aB (S++own) rf (qP (shL m ks)) (shL m ks) (S++own'):=by refine zHc ?_ (zDt h.1 ho);have:=zFs (rf:=rf) (g:=qP (shL m ks)) (m:=m) (fun l hl=>zIk hl) (U:=S++own) 0 S (by rw[h.1];omega) (fun i o hi=>by rw[jB1,jAj (jA4.1 hi).1];exact hi) h.2;rw[h.1,<-List.range_eq_range']at this;exact this
@[simp]theorem qHB{g:Nat->wC}:vwO rf g .dead=.dead:=rfl
@[simp]theorem qBA{js:wA}{n:Nat}:cH js n .dead=.dead:=rfl
section
variable{P:Program}{n0:Nat}{Qp:Value->wK}{K':wK}{env:Env}{d:wC}
theorem zHe{m c:Nat}{S own own':St}(h:Cl m S)(hn:n0=m+c)(ks:wA)(fuel:Nat){l:List (Nat×A)}(hk:∀j,j<c->ks[j]?=some j)(hd:ks.Nodup)
 (ho:aB own (seen (S++own) (qP (shL m ks)) fuel) (qP (shL m ks)) ks own')
 (hl:∀p∈l,p.2=vw (seen (S++own) (qP (shL m ks)) fuel) (qP (shL m ks)) (env p.1)\/p.2=nrm0 (vw (seen (S++own) (qP (shL m ks)) fuel) (qP (shL m ks)) (env p.1))):bW n0 (qS l) (S++own') env (S++own) :=
 zP (shL m ks) fuel (by subst hn;exact zNV hk) (zCH hd) (zIr h ho) hl
theorem zCE{m c n:Nat}{r r':A}{S own own':St}(h:Cl m S)(hn:n=m+c)(ks:wA)(fuel:Nat)(hk:∀j,j<c->ks[j]?=some j)(hd:ks.Nodup)
 (ho:aB own (seen (S++own) (qP (shL m ks)) fuel) (qP (shL m ks)) ks own')
 (hr:r=vw (seen (S++own) (qP (shL m ks)) fuel) (qP (shL m ks)) r'\/r=nrm0 (vw (seen (S++own) (qP (shL m ks)) fuel) (qP (shL m ks)) r')):rY n r (S++own') (.ret r') (S++own) :=
 zG (shL m ks) fuel (by subst hn;exact zNV hk) (zCH hd) (zIr h ho) hr
theorem zIH:∀{js ks:wA} {n k:Nat},back (js++ks) n (js.length+k)=back ks n k
 |[],ks,n,k=>by simp
 |j::js,ks,n,k=>by
  have e:(j::js).length+k=js.length+k+1:=by simp;omega
  rw[e];simp only[jB6,back];exact zIH
theorem zGf:∀{js ks:wA} {n l:Nat},l<js.length->back (js++ks) n l=back js n l
 |[],_,_,l,h=>by simp at h
 |j::js,ks,n,0,h=>rfl
 |j::js,ks,n,l+1,h=>by simp only[jB6,back];exact zGf (by simpa using h)
@[simp]theorem zQD{m k n:Nat}{ks:wA}:back (shL m ks) n (m+k)=back (ks.map fun k=>m+k) n k:=by
 have:=zIH (js:=List.range m) (ks:=ks.map fun k=>m+k) (n:=n) (k:=k)
 rwa[List.length_range]at this
@[simp]theorem qA8{m n:Nat}{ks:wA}:back (shL m ks) n m=back (ks.map fun k=>m+k) n 0:=by
 have:=zQD (m:=m) (k:=0) (n:=n) (ks:=ks)
 simpa using this
theorem zII{m l n:Nat}{ks:wA}(h:l<m):back (shL m ks) n l=l:=by unfold shL;rw[zGf (by simpa using h),zDU h]
theorem zA8{α:Type}:∀{js ks:wA} {s a b:List α},a.length=js.length->q9 s (js++ks) (a++b)=q9 (q9 s js a) ks b
 |[],ks,s,[],b,_=>by simp[q9]
 |j::js,ks,s,x::a,b,h=>by simp only[jB6,q9];exact zA8 (by simpa using h)
 |[],_,_,_::_,_,h=>by simp at h
 |_::_,_,_,[],_,h=>by simp at h
theorem zB9{m:Nat}{S:St}(hS:S.length=m):∀{ks:wA} {own t:St},q9 (S++own) (ks.map fun k=>m+k) t=S++q9 own ks t
 |[],own,t=>by simp[q9]
 |k::ks,own,[]=>by simp[q9]
 |k::ks,own,x::t=>by simp only[jAi,q9];rw[cM hS];exact zB9 hS
theorem zQP{m:Nat}{S S' own o0 o1:St}(h:Cl m S)(h':Cl m S'){f:FuncId}{args args':wE}{r:A}(hr:Ret P f args (S++o0) r (S'++o1))(ks:wA)(hd:ks.Nodup)
 (ho:aB own j5 (qP (shL m ks)) ks o0)(ha:dD (shL m ks) args' args)
 (hq:K' (env.put d (ren (shL m ks) (m+own.length) r)) (S'++q9 own ks (o1.map (cH (shL m ks) (m+own.length))))):aV P f args' (S++own) (outK d env K' Qp):=by
 refine zW hr (shL m ks) (zCH hd) (zIr h ho) ha ?_;have hlen:(S++own).length=m+own.length:=by rw[jA5,h.1]
 rw[hlen,jC0];have e:S'.map (cH (shL m ks) (m+own.length))=S':=by
  conv=>rhs;rw[<-List.map_id S']
  exact jC2 fun o ho=>by simp only[cH,id];exact zI2 (fun l hl=>by rw[zII hl]) o (h'.2 o ho)
 rw[e];have hput:q9 (S++own) (shL m ks) (S'++o1.map (cH (shL m ks) (m+own.length)))=S'++q9 own ks (o1.map (cH (shL m ks) (m+own.length))):=by have h0:=zAA (own:=own) 0 [] rfl (by rw[h.1,h'.1]:S'.length=S.length);rw[h.1,<-List.range_eq_range']at h0;simp only[jBl]at h0;unfold shL;rw[zA8 (by rw[h'.1,List.length_range]),h0];exact zB9 h'.1
 rw[hput];exact hq
end
end Go.Abs
namespace Go.Proofs.YtdnelmeboihpkaaGreatDoor
section
variable(marked:wF)(x:Id)
def pE:List Edg->List Id->wF
 |[],M=>M
 |e::l,M=>pE l (if e.fro=x/\e.to∉M/\e.to∉marked then M++[e.to]else M)
theorem zGe(e:Edg):∀(l:wU) (M:wF),pE marked x (l++[e]) M=(if e.fro=x/\e.to∉pE marked x l M/\e.to∉marked then pE marked x l M++[e.to]else pE marked x l M)
 |[],M=>rfl
 |a::l,M=>by simp only[jB6,pE];exact zGe e l _
theorem zAP:∀(l:wU) (M:wF),∃N,pE marked x l M=M++N
 |[],M=>⟨[],by simp[pE]⟩
 |e::l,M=>by
  simp only[pE];split
  .obtain⟨N,h⟩:=zAP l (M++[e.to]);exact⟨e.to::N,by rw[h];simp⟩
  .exact zAP l M
variable{marked x}
theorem zH0:∀(l:wU) {M:wF},M.Nodup->(pE marked x l M).Nodup
 |[],_,h=>h
 |e::l,M,h=>by
  simp only[pE];split
  .rename_i hc;refine zH0 l ?_;rw[jCs];refine⟨h,by simp,fun a ha b hb=>?_⟩;rw[jAo]at hb;subst hb;exact fun e=>hc.2.1 (e▸ha)
  .exact zH0 l h
theorem zIB:∀(l:wU) (M:wF) (e:Edg),e∈l->e.fro=x->e.to∈pE marked x l M\/e.to∈marked
 |a::l,M,e,he,hx=>by
  simp only[pE];rcases jA3.1 he with rfl|he
  .obtain⟨N,h⟩:=zAP marked x l (if e.fro=x/\e.to∉M/\e.to∉marked then M++[e.to]else M);rw[h];by_cases h1:e.to∈M
   .exact .inl (by split<;>simp[h1])
   .by_cases h2:e.to∈marked
    .exact .inr h2
    .exact .inl (by rw[if_pos ⟨hx,h1,h2⟩];simp)
  .exact zIB l _ e he hx
theorem zIC:∀(l:wU) (M:wF) (y:Id),y∈pE marked x l M->y∈M\/∃e∈l,e.fro=x/\e.to=y/\y∉marked
 |[],M,y,h=>.inl h
 |a::l,M,y,h=>by
  simp only[pE]at h;rcases zIC l _ y h with h|⟨e,he,h1,h2,h3⟩
  .split at h
   .rename_i hc;rcases jAc.1 h with h|h
    .exact .inl h
    .rw[jAo]at h;subst h;exact .inr ⟨a,by simp,hc.1,rfl,hc.2.2⟩
   .exact .inl h
  .exact .inr ⟨e,by simp[he],h1,h2,h3⟩
end
structure Bfs(L:List Edg)(to:Id)(marked:List Id)(fro:Id)(M:List Id)(k:Nat):Prop where
 nd:M.Nodup
 first:fro∈M
 from_:∀y∈M,y=fro\/∃e∈L,e.to=y
 back:∀y∈M,Rchs L to marked y->Rchs L to marked fro
 not_:∀j (hj:j<M.length),j<k->M[j]≠to
 closed:∀j (hj:j<M.length),j<k->∀e∈L,e.fro=M[j]->e.to∈M\/e.to∈marked
 le:k<=M.length
theorem Bfs.start(L:wU)(to:Id)(marked:wF)(fro:Id):Bfs L to marked fro [fro] 0 :=
 ⟨by simp,by simp,by simp,by simp,by omega,by omega,by simp⟩
variable{L:wU}{to fro:Id}{marked M:wF}
theorem Bfs.len{k:Nat}(h:Bfs L to marked fro M k):M.length<=L.length+1:=by
 have:=h.nd.length_le_of_subset (l₂:=fro::L.map (·.to)) fun y hy=>by
  rcases h.from_ y hy with rfl|⟨e,he,rfl⟩
  .simp
  .simp only[jA3,jAg];exact .inr ⟨e,he,rfl⟩
 simpa using this
theorem Bfs.next{k:Nat}(h:Bfs L to marked fro M k)(hk:k<M.length)(hne:M[k]≠to):Bfs L to marked fro (pE marked M[k] L M) (k+1):=by
 obtain⟨N,hN⟩:=zAP marked M[k] L M;have hall:=zIB (marked:=marked) (x:=M[k]) L M;have hmem:=zIC (marked:=marked) (x:=M[k]) L M;have hnd:=zH0 (marked:=marked) (x:=M[k]) L h.nd;rw[hN]at hall hmem hnd ⊢;refine⟨hnd,jBm _ h.first,fun y hy=>?_,fun y hy hr=>?_,fun j hj hjk=>?_,fun j hj hjk e he hx=>?_,by simp;omega⟩
 .rcases hmem y hy with hy|⟨e,he,_,h2,_⟩
  .exact h.from_ y hy
  .exact .inr ⟨e,he,h2⟩
 .rcases hmem y hy with hy|⟨e,he,h1,h2,h3⟩
  .exact h.back y hy hr
  .refine h.back _ (jA0 hk) ?_;rw[<-h1];exact .step e he (by rw[h2];exact h3) (by rw[h2];exact hr)
 .rw[jBn (by omega)];by_cases hjk':j=k
  .subst hjk';exact hne
  .exact h.not_ j (by omega) (by omega)
 .rw[jBn (by omega)]at hx;by_cases hjk':j=k
  .subst hjk';exact hall e he hx
  .rcases h.closed j (by omega) (by omega) e he hx with h'|h'
   .exact .inl (jBm _ h')
   .exact .inr h'
theorem Bfs.yes{k:Nat}(h:Bfs L to marked fro M k)(hk:k<M.length)(he:M[k]=to):Rchs L to marked fro :=
 h.back _ (jA0 hk) (he▸.here)
theorem Bfs.no{k:Nat}(h:Bfs L to marked fro M k)(hk:k=M.length):¬Rchs L to marked fro:=by
 intro hr;have key:∀y,Rchs L to marked y->y∈M->to∈M:=by
  intro y hy;induction hy with
  |here=>exact fun h=>h
  |step e he hn _ ih =>
   intro hm;obtain⟨j,hj,e'⟩:=jAn hm;rcases h.closed j hj (by omega) e he e'.symm with h'|h'
   .exact ih h'
   .exact(hn h').elim
 obtain⟨j,hj,e⟩:=jAn (key fro hr h.first);exact h.not_ j hj (by omega) e
end Go.Proofs.YtdnelmeboihpkaaGreatDoor
namespace Go.Proofs.YtdnelmeboihpkaaGreatDoor
open Go.Abs
def zKZ:K:=G [kMn 2] (Z (G [M 3 0,⟨none,.isz (some 4) false (kt 3)⟩] (Y 4 (G [kMn 2] kr) ks)) (G [kd 5 31 3 0 [] [],M 6 0,kP 7 31 3 24 5 6,M 2 7] kr))
theorem zQH:ky f100 zKZ:=m_ (by kernel_rfl)
def sC(Ls:List wF):wE:=Ls.map fun l=>A.sl l.length (zV l)
theorem sD:∀(Ls:List wF),qV (sC Ls)
 |[]=>qV.nil
 |l::Ls=>by
  have h1:=sD Ls;have h2:=dZ l;refine⟨?_,fun rf g=>?_⟩
  .show jO (A.sl l.length (zV l)::sC Ls)=_;simp[h1.1];rfl
  .show vwL rf g (A.sl l.length (zV l)::sC Ls)=_;simp[h1.2];rfl
@[simp]theorem zXg(l:List wF):jO (sC l)=sC l:=(sD l).1
@[simp]theorem qCa{rf g}(l:List wF):vwL rf g (sC l)=sC l:=(sD l).2 _ _
@[simp]theorem zYt(l:List wF):(sC l).length=l.length:=by simp[sC]
end Go.Proofs.YtdnelmeboihpkaaGreatDoor
namespace Go.Proofs.YtdnelmeboihpkaaGreatDoor
open Go.Abs
def tX{α:Type}(same : α->α->Bool):List α->List α->Bool
 |[],[]=>true
 |x::a,y::b=>same x y&&tX same a b
 |_,_=>false
theorem zDO{α:Type}{same : α->α->Bool}:∀{a b:List α},a.length≠b.length->tX same a b=false
 |[],[],h=>(h rfl).elim
 |x::a,y::b,h=>by simp only[tX,zDO (a:=a) (b:=b) (by simpa using h),Bool.and_false]
 |[],_::_,_=>rfl
 |_::_,[],_=>rfl
theorem uD{α:Type}{same : α->α->Bool}:∀{a b:List α} (hl:a.length=b.length),tX same a b=true↔∀(j:Nat) (h:j<a.length),same a[j] (b[j]'(hl▸h))=true
 |[],[],_=>by simp[tX]
 |x::a,y::b,hl=>by
  simp only[tX,jA6,uD (a:=a) (b:=b) (by simpa using hl)];constructor
  .rintro⟨h1,h2⟩ j h;cases j with
   |zero=>exact h1
   |succ j=>exact h2 j (by simpa using h)
  .intro h;exact⟨h 0 (by simp),fun j hj=>h (j+1) (by simpa using hj)⟩
 |[],_::_,hl=>by simp at hl
 |_::_,[],hl=>by simp at hl
theorem zTZ(g:FuncId)(hcal:zF prog g=true)(same:Typ->Typ->Bool)(a b:wS)(h:∀x∈a,∀y∈b,my g [.agg (zB x),.agg (zB y)] [] (bl (same x y)) []) :
 my 140 [.sl a.length (jL a),.sl b.length (jL b),.clo g [] []] [] (bl (tX same a b)) []:=by
 refine mq [] [.slot 6] func140 (by kernel_rfl) ?_
 (conv in kq _ _=>cbv)
 by_cases hab:a.length=b.length
 .simp[hab];intro hlb;refine qO (S:=Nat) (fun i=>[(1,.sl b.length (jL b)),(2,.clo g [] []),(15,.sl a.length (jL a)),(16,int a.length),(17,int i)]) (fun s=>[]) (fun i=>i<=a.length/\∀(j:Nat) (h:j<a.length),j<i->same a[j] (b[j]'(hab▸h))=true) (fun i=>a.length-i) 0 (by simp)
   (mw [] 0 (by rfl) (by simp[hab])) ?_
  rintro i ⟨hi,hn⟩;by_cases hia:i<a.length
  .have hib:i<b.length:=by omega
   have hla:i*5<a.length*5:=by omega
   have hlb':i*5<b.length*5:=by omega
   simp[hia,hib,mC hia,mC hib,hcal,zB];refine mu (h a[i] (jA0 hia) b[i] (jA0 hib)) (by simp[zB]) ?_;cases hs:same a[i] b[i]with
   |true =>
    simp;exact zS (i+1) ⟨hia,fun j hj hji=>by
     by_cases e:j=i
     .subst e;exact hs
     .exact hn j hj (by omega)⟩ (by omega) (mw [] 0 (by rfl) (by simp[qF hib hlb]))
   |false =>
    have hf:tX same a b=false:=by
     cases hh:tX same a b with
     |false=>rfl
     |true=>have:=(uD hab).1 hh i hia;rw[hs]at this;cases this
    simp;exact zA 0 (by simp[hf])
  .have hil:i=a.length:=by omega
   subst hil;have ht:tX same a b=true:=(uD hab).2 fun j hj=>hn j hj hj
   simp;exact zA 0 (by simp[ht])
 .have hab':¬(a.length:Int)=b.length:=by omega
  simp[hab'];exact fun _ _=>zA 0 (by simp[zDO hab])
end Go.Proofs.YtdnelmeboihpkaaGreatDoor
namespace Go.Abs
section
variable{P:Program}{n0:Nat}
def xX(H:Mem)(L:wM)(w:World)(N:Nat)(Q:Ex->wK)(dfs:List Deferred):Exit->Act->World->Prop:=fun e a' w' =>
 ∃x env' U' H' L',e=x.exit?/\a'.defers=dfs/\qL H' L' N env' a'.tmps/\Nxt H L w H' L' U' w'/\Q x env' U'
variable{N:Nat}{w:World}{H:Mem}{L:wM}{Q:Ex->wK}{dfs:List Deferred}
theorem xX.next{H':Mem}{L':wM} {U':St}{w':World}(hn:Nxt H L w H' L' U' w'){e:Exit}{b:Act}{v:World}(h:xX H' L' w' N Q dfs e b v):xX H L w N Q dfs e b v:=by obtain⟨x,env'',U'',H'',L'',h1,h2,h3,h4,h5⟩:=h;exact⟨x,env'',U'',H'',L'',h1,h2,h3,hn.trans h4,h5⟩
theorem xX.post{e:Exit}{b:Act}{v:World}(h:xX H L w N Q dfs e b v):zAj H L w N Q dfs e b v:=by obtain⟨x,env'',U'',H'',L'',h1,h2,h3,h4,h5⟩:=h;exact⟨x,env'',U'',H'',L'',h1,h2▸Mk.refl _ _ _,h3,h4,h5⟩
theorem tQ{N:Nat}{ro:wC}{ops:Array Oper}(hall:∀o∈ops.toList,∀x,o.dst=some x->x<N){Q:Ex->wK}{dfs:List Deferred}{Qc:Exit->Act->World->Prop} :
 ∀(l:List Oper) (gs:List KG) {H:Mem} {L:wM} {U:St} {w:World} {env:Env} {a:Act},zCN P N ops l gs->qL H L N env a.tmps->RelSt H L U w->a.defers=dfs ->
  lH P (fun v=>Q (.pan v)) (Q .norm) gs env U->(∀e b v,xX H L w N Q dfs e b v->Qc e b v)->wpListIn (Wr ro) 0 P ops Qc l a w
 |[],gs,H,L,U,w,env,a,hc,he,hs,hd,h,hQ=>by simp only[zCN]at hc;subst hc;exact hQ _ _ _ ⟨.norm,env,U,H,L,rfl,hd,he,Nxt.refl hs,h⟩
 |o::l,gs,H,L,U,w,env,a,hc,he,hs,hd,h,hQ=>by
  simp only[zCN]at hc;obtain⟨g,gs',rfl,hg,hgs⟩:=hc;obtain⟨hk,hdst,hgd⟩:=aF hg;have hkd:=bU hk;have hke:g.erase.op.dst=g.op.dst:=by show g.op.erase.dst=g.op.dst;cases g.op<;>rfl
  rw[hke]at hkd;simp only[lH]at h;have exec:wpO P (fun v=>Q (.pan v)) (lH P (fun v=>Q (.pan v)) (Q .norm) gs') g.op env U->o.wpIn (Wr ro) 0 P a w (wpListIn (Wr ro) 0 P ops Qc l) Qc:=by
   intro h;refine nM hk hdst he hs h (fun env' U' H' L' a' w' h1 h2 h3 h4=>?_) (fun v U' H' L' w' h1 h2=>?_)
   .exact tQ hall l gs' hgs h2 h3.st (h1.trans hd) h4 fun e b v hp=>hQ e b v (hp.next h3)
   .exact hQ _ _ _ ⟨.pan v,env,U',H',L',rfl,hd,he.mono h1.step.hle h1.lle,h1,h2⟩
  have skip:lH P (fun v=>Q (.pan v)) (Q .norm) gs' (env.put g.op.dst (.lit undef)) U->wpListIn (Wr ro) 0 P ops Qc l (a.put o.dst undef) w:=by intro h;refine tQ hall l gs' hgs ?_ hs ((jF _ _).trans hd) h hQ;rw[hkd];exact he.put hdst (by simp[Rel])
  unfold wpListIn;have hge:g.erase.guard=g.guard:=rfl;rw[hge]at hgd;rcases hgd with ⟨ho,hgn⟩|⟨j,want,s,ho,hsl,hgn⟩
  .simp only[wpG,hgn]at h;have hw:Region.wanted o (yielded ops a.tmps)=true:=by simp[Region.wanted,ho]
   rw[if_pos hw];exact exec h
  .simp only[wpG,hgn]at h;have hsN:=sV hsl hall;obtain⟨w1,w2⟩:=mZ (a:=a) ho hsl (jC8 hsN he.1);have hrel:=he.2 s;split at h
   .rename_i b hb;rw[hb]at hrel;simp only[Rel]at hrel;rw[w1 b hrel];by_cases hbw:b=want
    .simp only[hbw,decide_true,if_true];exact exec (h.1 (by simp[hbw]))
    .simp only[hbw,decide_false,jAl,if_false];exact⟨fun _ _=>trivial,skip (h.2 (by simp[hbw]))⟩
   .rename_i t ht;rw[ht]at hrel;simp only[Rel]at hrel;rw[w2 t hrel];simp only[jAl,if_false];exact⟨fun _ _=>trivial,skip h⟩
   .exact h.elim
variable{hint:Nat->Option wD}{U:St}{env:Env}{a:Act}{ops:Array Oper}{Qc:Exit->Act->World->Prop}
theorem zFg{id:Nat}{l:List KG}(hc:qJ P N hint (.region id ops false)=some (K.ops l).erase)
 (he:qL H L N env a.tmps)(hs:RelSt H L U w)(h:wpK P n0 (.ops l) Q env U)(hQ:∀e b v,xX H L w N Q a.defers e b v->Qc e b v):(Code.region id ops false).wpIn Fence.wide 0 P Qc a w:=by
 simp only[qJ,K.erase]at hc;split at hc<;>try(cases hc;done)
 rename_i l' hl;simp only[jAl,if_false,jA2,K.ops.injEq]at hc;subst hc;simp only[wpK]at h;have hall:∀o∈ops.toList,∀x,o.dst=some x->x<N:=by
  obtain⟨hlen,hget⟩:=iQ hl;intro o ho;obtain⟨i,hi⟩:=jCt ho;have hlt:i<(l.map KG.erase).length:=by rw[hlen];exact(jA4.1 hi).1
  exact(aF (hget i o _ hi (jA1 hlt))).2.1
 exact wpIn_region_list (tQ (ro:=none) (Q:=Q) (dfs:=a.defers) hall ops.toList l (zEi hl) he hs rfl h hQ)
theorem lZ{ops:Array Oper}{N:Nat}{ro:wC}{all:List (Nat×Nat×KG)}(hc:Comp P N ops all)(hall:∀o∈ops.toList,∀x,o.dst=some x->x<N){Q:Ex->wK}{dfs:List Deferred}{Qc:Exit->Act->World->Prop} :
 ∀(fuel:Nat) (listed:Array Bool) {H:Mem} {L:wM} {U:St} {w:World} {env:Env} {a:Act},qL H L N env a.tmps->RelSt H L U w->a.defers=dfs ->
  tO P (zEX Q) ops all (Q .norm) fuel listed env U->(∀e b v,xX H L w N Q dfs e b v->Qc e b v)->wpAnyIn (Wr ro) 0 P .any ops Qc fuel listed a w
 | 0,listed,H,L,U,w,env,a,he,hs,hd,h,hQ=>⟨h.1,hQ _ _ _ ⟨.norm,env,U,H,L,rfl,hd,he,Nxt.refl hs,h.2⟩⟩
 |fuel+1,listed,H,L,U,w,env,a,he,hs,hd,h,hQ=>by
  refine⟨fun h0=>hQ _ _ _ ⟨.norm,env,U,H,L,rfl,hd,he,Nxt.refl hs,h.1 h0⟩,fun i hi=>?_⟩;obtain⟨_,o,ho,_⟩:=mem_ready.1 hi;rcases h.2 i hi with ⟨f,g,r,U1,hg,hy,hK⟩|⟨f8,d,fo,args,hf8,hg,hcn⟩
  rotate_left
  .have hcg:=hc.get i f8 o _ ho hg;obtain⟨hk,hdst,hgd⟩:=aF hcg;unfold wpOpIn;simp only[ho];rcases hgd with ⟨hog,hgn⟩|⟨j,want,s,hog,hsl,hgn⟩
   .have hw:Region.wanted o (yielded ops a.tmps)=true:=by simp[Region.wanted,hog]
    rw[if_pos hw];refine nM (k:=.call d fo args) (Qp:=fun v _ τ=>zEX Q v τ) (K:=fun env' τ=>tO P (zEX Q) ops all (Q .norm) fuel (listed.setIfInBounds i true) env' τ) hk hdst he hs ?_ (fun env' U' H' L' a' w' h1 h2 h3 h4=>?_) (fun v U' H' L' w' h1 h2=>hQ _ _ _ ⟨.pan v,env,U',H',L',rfl,hd,he.mono h1.step.hle h1.lle,h1,h2 env⟩)
    .simp only[wpO];unfold zDX at hcn;split at hcn
     .rename_i g first cap hfo
      simp only[hfo];refine⟨hcn.1,fun H L w vs h3 h4=>(hcn.2 H L w vs h3 h4).mono fun e w' hh=>?_⟩;obtain⟨o,U',H',L',g1,g2,hh⟩:=hh;refine⟨o,U',H',L',g1,g2,?_⟩;rcases hh with ⟨r,rfl,g4,g5⟩|⟨v,rfl,g4⟩
      .exact g5
      .exact g4
     .exact hcn.elim
    .exact lZ hc hall fuel _ h2 h3.st (h1.trans hd) h4 fun e b v hp=>hQ e b v (hp.next h3)
   .cases hgn
  have hcg:=hc.get i f o g ho hg;obtain⟨hk,hdst,hgd⟩:=aF hcg;have hkd:=bU hk;rw[show g.erase.op.dst=g.op.dst from xB _]at hkd;unfold wpOpIn;simp only[ho];have exec:eff P env U r U1 g.op->o.wpIn (Wr ro) 0 P a w (wpAnyIn (Wr ro) 0 P .any ops Qc fuel (listed.setIfInBounds i true)) Qc:=by intro hq;refine nM (k:=g.op) (Qp:=fun _ _ _=>False) hk hdst he hs (zFG hq) (fun env' U' H' L' a' w' h1 h2 h3 h4=>?_) (fun v U' H' L' w' h1 h2=>h2.elim);obtain⟨h4,h5⟩:=h4;subst h4;subst h5;exact lZ hc hall fuel _ h2 h3.st (h1.trans hd) hK fun e b v hp=>hQ e b v (hp.next h3)
  have skip:r=.lit undef->U1 = U->wpAnyIn (Wr ro) 0 P .any ops Qc fuel (listed.setIfInBounds i true) (a.put o.dst undef) w:=by rintro rfl rfl;refine lZ hc hall fuel _ ?_ hs ((jF _ _).trans hd) hK hQ;rw[hkd];exact he.put hdst (by simp[Rel])
  replace hy:=hy.1;unfold iK at hy;rcases hgd with ⟨hog,hgn⟩|⟨j,want,s,hog,hsl,hgn⟩
  .replace hgn:g.guard=none:=hgn;simp only[hgn]at hy;have hw:Region.wanted o (yielded ops a.tmps)=true:=by simp[Region.wanted,hog]
   rw[if_pos hw];exact exec hy
  .replace hgn:g.guard=some (s,want):=hgn;simp only[hgn]at hy;have hsN:=sV hsl hall;obtain⟨w1,w2⟩:=mZ (a:=a) hog hsl (jC8 hsN he.1);have hrel:=he.2 s;split at hy
   .rename_i b hb;rw[hb]at hrel;simp only[Rel]at hrel;rw[w1 b hrel];by_cases hbw:b=want
    .simp only[hbw,decide_true,if_true];exact exec (hy.1 hbw)
    .simp only[hbw,decide_false,jAl,if_false];exact⟨fun _ _=>trivial,skip (hy.2 hbw).1 (hy.2 hbw).2⟩
   .rename_i t ht;rw[ht]at hrel;simp only[Rel]at hrel;rw[w2 t hrel];simp only[jAl,if_false];exact⟨fun _ _=>trivial,skip hy.1 hy.2⟩
   .exact hy.elim
variable{l:List (Nat×Nat×KG)}
theorem zMS{ro:wC}{id:Nat}{gs:List KG}(hm:P.follows .mixedOrders=true)(hB:zEm ops l=true)(hlo:oZ ops ops.toList gs=true)(hc:gP P N ops ops.toList=some gs)(hl:∀x∈l,∃g,gs[x.1]?=some g/\x.2.2.erase=g.erase)
 (he:qL H L N env a.tmps)(hs:RelSt H L U w)(hd:a.defers=dfs)
 (h:wpD P (zEX Q) (Q .norm) l env U)(hQ:∀e b v,xX H L w N Q dfs e b v->Qc e b v):(Code.region id ops true).wpIn (Wr ro) 0 P Qc a w:=by
 obtain⟨hlen,hget⟩:=iQ hc;have hcm:Comp P N ops l:=⟨fun i f o g ho hg=>by obtain⟨g0,h1,h2⟩:=hl (i,f,g) hg;have h3:=hget i o g0 (by simpa using ho) h1;rw[show g.erase=g0 from h2.trans (iP h3)];exact h3⟩
 have hf:Fits ops l:=⟨fun i f o g ho hg=>(xB g.op).symm.trans (bU (aF (hcm.get i f o g ho hg)).1),fun i f o g ho hg=>by obtain⟨g0,h1,h2⟩:=hl (i,f,g) hg;have h3:=hget i o g0 (by simpa using ho) h1;have h4:=vF hlo i o g0 (by simpa using ho) h1;rw[<-zCY,show g.erase=g0 from h2.trans (iP h3)];exact h4⟩
 have hall:∀o∈ops.toList,∀x,o.dst=some x->x<N:=by
  intro o ho;obtain⟨i,hi⟩:=jCt ho;have hlt:i<gs.length:=by rw[hlen];exact(jA4.1 hi).1
  exact(aF (hget i o _ hi (jA1 hlt))).2.1
 simp only[zEm,jA6,beq_iff_eq]at hB;obtain⟨⟨hB,hsz⟩,_⟩:=hB;refine wpIn_region_any hm ?_;have hs':RelSt H L U {w with drawn:=w.drawn+1}:=hs.heap_eq rfl;have hlex:=oI hf l (Array.replicate ops.size false) env U (fun _ hx=>hx) hB h;rw[hsz]at hlex;have hn:Nxt H L w H L U {w with drawn:=w.drawn+1}:=⟨hs',⟨rfl,rfl,rfl,jA _,fun _ _ _=>rfl,HLe.refl _,fun _ _ _ h=>.inl h,jCi _,fun _ _ h=>h⟩,LLe.refl _,fun _ h=>.inl h⟩;refine lZ hcm hall _ _ he hs' hd hlex fun e b v hp=>hQ e b v ?_
 exact hp.next hn
theorem zKs{id:Nat}(hc:qJ P N hint (.region id ops true)=some (K.dops l).erase)
 (he:qL H L N env a.tmps)(hs:RelSt H L U w)(h:wpK P n0 (.dops l) Q env U)(hQ:∀e b v,xX H L w N Q a.defers e b v->Qc e b v):(Code.region id ops true).wpIn Fence.wide 0 P Qc a w:=by
 simp only[qJ,K.erase]at hc;split at hc<;>try(cases hc;done)
 rename_i l' hl;simp only[if_true]at hc;split at hc<;>try(cases hc;done)
 rename_i r hr;split at hc<;>try(cases hc;done)
 rename_i hb;simp only[jA6]at hb;simp only[jA2,K.dops.injEq]at hc;subst hc;simp only[wpK]at h;have hmem:∀x∈r,∃g,l'[x.1]?=some g/\x.2.2.erase=g.erase:=fun x hx=>by
  split at hr
  .exact zC4 hr hx
  .cases hr;exact⟨_,zDb hx,rfl⟩
 exact zMS (ro:=none) (Q:=Q) (dfs:=a.defers) hb.1.2 hb.1.1 hb.2 hl hmem he hs rfl h hQ
variable{rest:Code}
theorem zBD{id:Nat}{l:List KG}(hc:qJ P N hint (.region id ops false)=some (K.ops l).erase)
 (he:qL H L N env a.tmps)(hs:RelSt H L U w)(h:wpK P n0 (.ops l) Q env U)
 (hQ:∀env' τ H' L' w' a',a'.defers=a.defers->qL H' L' N env' a'.tmps->Nxt H L w H' L' τ w'->Q .norm env' τ->rest.wpIn Fence.wide 0 P Qc a' w')
 (hX:∀x env' τ H' L' w' a',x≠.norm->a'.defers=a.defers->qL H' L' N env' a'.tmps->Nxt H L w H' L' τ w'->Q x env' τ->Qc x.exit? a' w'):(Code.seq (.region id ops false) rest).wpIn Fence.wide 0 P Qc a w:=by
 refine wpIn_seq (zFg hc he hs h fun e b v hp=>?_);obtain⟨x,env',τ,H',L',rfl,g2,g3,g4,g5⟩:=hp;cases x with
 |norm=>exact hQ env' τ H' L' v b g2 g3 g4 g5
 |exit i=>exact hX _ env' τ H' L' v b (by simp) g2 g3 g4 g5
 |ret=>exact hX _ env' τ H' L' v b (by simp) g2 g3 g4 g5
 |pan v'=>exact hX _ env' τ H' L' v b (by simp) g2 g3 g4 g5
theorem zSM{id:Nat}(hc:qJ P N hint (.region id ops true)=some (K.dops l).erase)
 (he:qL H L N env a.tmps)(hs:RelSt H L U w)(h:wpK P n0 (.dops l) Q env U)
 (hQ:∀env' τ H' L' w' a',a'.defers=a.defers->qL H' L' N env' a'.tmps->Nxt H L w H' L' τ w'->Q .norm env' τ->rest.wpIn Fence.wide 0 P Qc a' w')
 (hX:∀x env' τ H' L' w' a',x≠.norm->a'.defers=a.defers->qL H' L' N env' a'.tmps->Nxt H L w H' L' τ w'->Q x env' τ->Qc x.exit? a' w'):(Code.seq (.region id ops true) rest).wpIn Fence.wide 0 P Qc a w:=by
 refine wpIn_seq (zKs hc he hs h fun e b v hp=>?_);obtain⟨x,env',τ,H',L',rfl,g2,g3,g4,g5⟩:=hp;cases x with
 |norm=>exact hQ env' τ H' L' v b g2 g3 g4 g5
 |exit i=>exact hX _ env' τ H' L' v b (by simp) g2 g3 g4 g5
 |ret=>exact hX _ env' τ H' L' v b (by simp) g2 g3 g4 g5
 |pan v'=>exact hX _ env' τ H' L' v b (by simp) g2 g3 g4 g5
end
end Go.Abs
namespace Go.Proofs.YtdnelmeboihpkaaGreatDoor
open Go.Abs
inductive Val where
 |mk (k n:Int) (kids:List Val)
abbrev wI:=List Val
def Val.k:Val->Int | .mk k _ _=>k
def Val.n:Val->Int | .mk _ n _=>n
def Val.kids:Val->wI | .mk _ _ l=>l
mutual
def xZ:Val->A
 | .mk _ _ l=>.sl l.length (zR l)
def zR:List Val->wE
 |[]=>[]
 |v::l=>.lit (.int .i64 v.k)::.lit (.int .i64 v.n)::xZ v::zR l
end
def zC(v:Val):wE:=[.lit (.int .i64 v.k),.lit (.int .i64 v.n),.sl v.kids.length (zR v.kids)]
theorem zIT(v:Val):xZ v=.sl v.kids.length (zR v.kids):=by cases v;simp only[xZ,Val.kids]
@[simp]theorem zEc:zR []=[]:=by simp only[zR]
@[simp]theorem iC(v:Val)(l:wI):zR (v::l)=.lit (.int .i64 v.k)::.lit (.int .i64 v.n)::.sl v.kids.length (zR v.kids)::zR l:=by simp only[zR,zIT]
@[simp]theorem zLv:∀l:wI,(zR l).length=l.length*3
 |[]=>by simp
 |v::l=>by simp[zLv l];omega
mutual
theorem zIU:∀v:Val,nrm0 (xZ v)=xZ v/\∀rf g,vw rf g (xZ v)=xZ v
 | .mk k n l=>by have h:=eD l;simp only[xZ];exact⟨by simp[h.1],fun rf g=>by simp[h.2]⟩
theorem eD:∀l:wI,qV (zR l)
 |[]=>by simp only[zR];exact qV.nil
 |v::l=>by have h:=zIU v;have h':=eD l;simp only[zR];exact⟨by simp[h.1,h'.1],fun rf g=>by simp[h.2,h'.2]⟩
end
@[simp]theorem zXl(l:wI):jO (zR l)=zR l:=(eD l).1
@[simp]theorem qCf{rf g}(l:wI):vwL rf g (zR l)=zR l:=(eD l).2 _ _
theorem qT:∀{l:wI} {i:Nat} (h:i<l.length),(zR l).drop (i*3)=.lit (.int .i64 l[i].k)::.lit (.int .i64 l[i].n)::.sl l[i].kids.length (zR l[i].kids)::zR (l.drop (i+1))
 |v::l,0,h=>by simp
 |v::l,i+1,h=>by
  have e:(i+1)*3=i*3+3:=by omega
  rw[e,iC]
  simpa using qT (l:=l) (i:=i) (by simpa using h)
mutual
def zZ:Val->Nat
 | .mk _ _ l=>1+qK l
def qK:List Val->Nat
 |[]=>0
 |v::l=>zZ v+qK l
end
theorem rU:∀{l:wI} {v:Val},v∈l->zZ v<=qK l
 |x::l,v,h=>by
  simp only[qK];rcases jA3.1 h with rfl|h
  .omega
  .have:=rU h;omega
theorem y4{v x:Val}(h:x∈v.kids):zZ x<zZ v:=by
 cases v with
 |mk k n l=>have:=rU (l:=l) h;simp only[zZ];omega
def mU:Val->Int
 | .mk _ _ l=>l.attach.foldl (fun s x=>w64 (s+mU x.1)) 1
termination_by v=>zZ v
decreasing_by
 have:=rU x.2;simp only[zZ];omega
def zF1(l:wI):Int:=l.foldl (fun s x=>w64 (s+mU x)) 1
theorem zFv(v:Val):mU v=zF1 v.kids:=by
 cases v with
 |mk k n l =>
  rw[mU];simp only[Val.kids,zF1];rw[List.foldl_attach (f:=fun s x=>w64 (s+mU x))]
theorem zCI{l:wI}{i:Nat}(h:i<l.length):zF1 (l.take (i+1))=IntKind.i64.wrap (zF1 (l.take i)+mU l[i]):=by rw[zF1,jA8 h,jCh];rfl
def zMg(a b:Int):Int:=if a<b then b else a
def gM:Val->Int
 | .mk _ _ l=>w64 (l.attach.foldl (fun s x=>zMg s (gM x.1)) 0+1)
termination_by v=>zZ v
decreasing_by
 have:=rU x.2;simp only[zZ];omega
def zEF(l:wI):Int:=l.foldl (fun s x=>zMg s (gM x)) 0
theorem zCf(v:Val):gM v=w64 (zEF v.kids+1):=by
 cases v with
 |mk k n l =>
  rw[gM];simp only[Val.kids,zEF];rw[List.foldl_attach (f:=fun s x=>zMg s (gM x))]
theorem zCw{l:wI}{i:Nat}(h:i<l.length):zEF (l.take (i+1))=zMg (zEF (l.take i)) (gM l[i]):=by rw[zEF,jA8 h,jCh];rfl
theorem fT(v:Val):my 41 [.agg (zC v)] [] (int (mU v)) []:=by
 refine mq [] [.slot 2] func41 (by kernel_rfl) ?_
 (conv in kq _ _=>cbv)
 simp[zC];refine qO (S:=Nat) (fun i=>[(1,.ptr 0 0),(3,int (zF1 (v.kids.take i))),(4,int i)]) (fun s=>[.box (zC v)]) (fun i=>i<=v.kids.length) (fun i=>v.kids.length-i) 0 (by simp)
  (mw [0] 0 (by rfl) (by simp[zC,zF1])) ?_
 intro i hi;by_cases h:i<v.kids.length
 .simp[zC,h,qT h];intro hl;refine mu (fT v.kids[i]) (by simp[zC]) ?_;simp;exact zS (i+1) h (by omega) (mw [0] 0 (by rfl) (by simp[zC,qF h hl,zCI h]))
 .have:i=v.kids.length:=by omega
  subst this;simp[zC];exact fun _=>zA 0 (by simp[zFv v])
termination_by zZ v
decreasing_by exact y4 (jA0 _)
theorem iH(v:Val):my 42 [.agg (zC v)] [] (int (gM v)) []:=by
 refine mq [] [.slot 2] func42 (by kernel_rfl) ?_
 (conv in kq _ _=>cbv)
 simp[zC];refine qO (S:=Nat) (fun i=>[(1,.ptr 0 0),(3,int (zEF (v.kids.take i))),(4,int i)]) (fun s=>[.box (zC v)]) (fun i=>i<=v.kids.length) (fun i=>v.kids.length-i) 0 (by simp)
  (mw [0] 0 (by rfl) (by simp[zC,zEF])) ?_
 intro i hi;by_cases h:i<v.kids.length
 .simp[zC,h,qT h];intro hl;refine mu (iH v.kids[i]) (by simp[zC]) ?_;simp;exact zS (i+1) h (by omega) (mw [0] 0 (by rfl) (by simp[zC,qF h hl,zCw h,zMg]))
 .have:i=v.kids.length:=by omega
  subst this;simp[zC];exact fun _=>zA 0 (by simp[zCf v,w64])
termination_by zZ v
decreasing_by exact y4 (jA0 _)
mutual
def gU:Val->Val->Int
 | .mk k n l,.mk k' n' l'=>if orI [bT k k',bT n n',bT l.length l'.length]≠0 then orI [bT k k',bT n n',bT l.length l'.length]else bN l l'
def bN:List Val->List Val->Int
 |[],[]=>0
 |[],_::_=>-1
 |_::_,[]=>1
 |a::l,b::l'=>if gU a b≠0 then gU a b else bN l l'
end
def dG(a b:Val):Int:=orI [bT a.k b.k,bT a.n b.n,bT a.kids.length b.kids.length]
theorem fD(a b:Val):gU a b=if dG a b≠0 then dG a b else bN a.kids b.kids:=by cases a;cases b;rw[gU];rfl
theorem zEj(xs ys:wI)(h:∀a∈xs,∀b∈ys,my 60 [.agg (zC a),.agg (zC b)] [] (int (gU a b)) []) :
 my 103 [.sl xs.length (zR xs),.sl ys.length (zR ys),.clo 60 [] []] [] (int (bN xs ys)) []:=by
 refine mq [] [.slot 6] func103 (by kernel_rfl) ?_
 (conv in kq _ _=>cbv)
 simp;intro hl;refine qO (S:=Nat) (fun i=>[(0,.sl xs.length (zR xs)),(1,.sl ys.length (zR ys)),(2,.clo 60 [] []),(11,.sl xs.length (zR xs)),(12,int xs.length),(13,int i)]) (fun s=>[])
  (fun i=>i<=xs.length/\i<=ys.length/\bN xs ys=bN (xs.drop i) (ys.drop i)) (fun i=>xs.length-i) 0 (by simp)
  (mw [] 0 (by rfl) (by simp)) ?_
 rintro i ⟨hi,hi',ho⟩;simp;refine jM (fun h1=>?_) (fun h1=>?_)<;>simp at h1
 .have hd:xs.drop i=xs[i]::xs.drop (i+1):=jAp h1;simp[h1,qT h1];intro hl';refine jM (fun h2=>?_) (fun h2=>?_)<;>simp at h2
  .simp;have hn:ys.drop i=[]:=jCj h2;exact zA 0 (by rw[ho,hd,hn];simp[bN])
  .have hd':ys.drop i=ys[i]::ys.drop (i+1):=jAp h2;simp[h2,qT h2];refine mu (h xs[i] (jA0 _) ys[i] (jA0 _)) (by simp[zC]) ?_;simp;refine jM (fun h3=>?_) (fun h3=>?_)<;>simp at h3
   .simp;exact zA 0 (by rw[ho,hd,hd'];simp[bN,h3])
   .simp;refine zS (i+1) ⟨h1,h2,by rw[ho,hd,hd'];simp[bN,h3]⟩ (by omega) (mw [] 0 (by rfl) (by simp[qF h1 hl]))
 .have:i=xs.length:=by omega
  subst this;simp;have hn:xs.drop xs.length=[]:=by simp
  intro _ hl';refine jM (fun h2=>?_) (fun h2=>?_)<;>simp at h2
  .have hd':ys.drop xs.length=ys[xs.length]::ys.drop (xs.length+1):=jAp h2;simp;exact zA 0 (by rw[ho,hn,hd'];simp[bN])
  .have hn':ys.drop xs.length=[]:=jCj h2;simp;exact zA 0 (by rw[ho,hn,hn'];simp[bN])
theorem zDB(a b:Val):my 60 [.agg (zC a),.agg (zC b)] [] (int (gU a b)) []:=by
 refine mq [] [.slot 4] func60 (by kernel_rfl) ?_
 (conv in kq _ _=>cbv)
 simp[zC];refine qA (gV a.k b.k) (by simp) (by simp) ?_;simp;refine qA (gV a.n b.n) (by simp) (by simp) ?_;simp;refine qA (gV a.kids.length b.kids.length) (by simp) (by simp) ?_;simp;refine qA (zS6 [bT a.k b.k,bT a.n b.n,bT a.kids.length b.kids.length]) (by simp) (by simp) ?_;simp;refine jM (fun h=>?_) (fun h=>?_)<;>simp at h
 .simp;exact zA 0 (by rw[fD];simp[dG,h])
 .simp;refine mu (zEj a.kids b.kids fun x hx y hy=>zDB x y) (by simp) ?_;simp;exact zA 0 (by rw[fD];simp[dG,h])
termination_by zZ a
decreasing_by exact y4 hx
variable{a b:Int}
theorem zH8(h:a<b):bT a b = -1:=by simp[bT,h]
theorem zH7(h:b<a):bT a b=1:=by simp[bT,h,Int.not_lt.2 (Int.le_of_lt h)]
theorem zH6(h:b<=a)(h':a<=b):bT a b=0:=by simp[bT,Int.not_lt.2 h,Int.not_lt.2 h']
theorem gQ(a b:Val):my 18 [.agg (zC a),.agg (zC b)] [] (int (gU a b)) []:=by
 refine mq [] [.slot 4] func18 (by kernel_rfl) ?_
 (conv in kq _ _=>cbv)
 simp[zC];intro hl hl';refine qO (S:=Nat) (fun i=>[(2,.ptr 0 0),(3,.ptr 1 0),(5,.sl 3 [int a.k,int a.n,int a.kids.length]),(6,.sl 3 [int b.k,int b.n,int b.kids.length]),(7,int i)])
  (fun s=>[.box [int a.k,int a.n,.sl a.kids.length (zR a.kids)],.box [int b.k,int b.n,.sl b.kids.length (zR b.kids)]])
  (fun i=>i<=3/\dG a b=orI (([bT a.k b.k,bT a.n b.n,bT a.kids.length b.kids.length]).drop i)) (fun i=>3-i) 0 (by simp[dG])
  (mw [0,1] 0 (by rfl) (by simp)) ?_
 rintro i ⟨hi,ho⟩;rcases (by omega:i=0\/i=1\/i=2\/i=3)with rfl|rfl|rfl|rfl
 .simp;refine jM (fun h1=>?_) (fun h1=>?_)<;>simp at h1
  .simp;exact zA 0 (by rw[fD,ho];simp[orI,zH8 h1])
  simp;refine jM (fun h2=>?_) (fun h2=>?_)<;>simp at h2
  .simp;exact zA 0 (by rw[fD,ho];simp[orI,zH7 h2])
  simp;exact zS 1 ⟨by omega,by rw[ho];simp[orI,zH6 h1 h2]⟩ (by omega) (kf [0,1] 0 (by rfl) (by simp) (by simp;rfl))
 .simp;refine jM (fun h1=>?_) (fun h1=>?_)<;>simp at h1
  .simp;exact zA 0 (by rw[fD,ho];simp[orI,zH8 h1])
  simp;refine jM (fun h2=>?_) (fun h2=>?_)<;>simp at h2
  .simp;exact zA 0 (by rw[fD,ho];simp[orI,zH7 h2])
  simp;exact zS 2 ⟨by omega,by rw[ho];simp[orI,zH6 h1 h2]⟩ (by omega) (kf [0,1] 0 (by rfl) (by simp) (by simp;rfl))
 .simp;refine jM (fun h1=>?_) (fun h1=>?_)<;>simp at h1
  .simp;exact zA 0 (by rw[fD,ho];simp[orI,zH8 (Int.ofNat_lt.2 h1)])
  simp;refine jM (fun h2=>?_) (fun h2=>?_)<;>simp at h2
  .simp;exact zA 0 (by rw[fD,ho];simp[orI,zH7 (Int.ofNat_lt.2 h2)])
  simp;exact zS 3 ⟨by omega,by rw[ho];simp[orI,zH6 (Int.ofNat_le.2 h1) (Int.ofNat_le.2 h2)]⟩ (by omega) (kf [0,1] 0 (by rfl) (by simp) (by simp;rfl))
 have hlen:a.kids.length=b.kids.length:=by
  have h0:dG a b=0:=by rw[ho];rfl
  simp only[dG,orI]at h0;split at h0<;>try contradiction
  split at h0<;>try contradiction
  split at h0<;>try contradiction
  rename_i _ _ h;simp only[bT]at h;split at h
  .cases h
  .split at h
   .cases h
   .omega
 simp;refine qO (S:=Nat) (fun i=>[(2,.ptr 0 0),(3,.ptr 1 0),(8,int i)])
  (fun s=>[.box [int a.k,int a.n,.sl a.kids.length (zR a.kids)],.box [int b.k,int b.n,.sl b.kids.length (zR b.kids)]])
  (fun i=>i<=a.kids.length/\gU a b=bN (a.kids.drop i) (b.kids.drop i)) (fun i=>a.kids.length-i) 0 ⟨by omega,by rw[fD,ho];simp[orI]⟩
  (mw [0,1] 0 (by rfl) (by simp)) ?_
 rintro i ⟨hi,ho⟩;simp;intro _;refine jM (fun h1=>?_) (fun h1=>?_)<;>simp at h1
 .have h2:i<b.kids.length:=by omega
  have hd:a.kids.drop i=a.kids[i]::a.kids.drop (i+1):=jAp h1;have hd':b.kids.drop i=b.kids[i]::b.kids.drop (i+1):=jAp h2;simp[h1,h2,qT h1,qT h2];refine qA (gQ a.kids[i] b.kids[i]) (by simp[zC]) (by simp) ?_;simp;refine jM (fun h3=>?_) (fun h3=>?_)<;>simp at h3
  .simp;exact zA 0 (by rw[ho,hd,hd'];simp[bN,h3])
  .simp;exact zS (i+1) ⟨h1,by rw[ho,hd,hd'];simp[bN,h3]⟩ (by omega) (mw [0,1] 0 (by rfl) (by simp[qF h1 hl]))
 .simp;have e1:a.kids.drop i=[]:=jCj h1;have e2:b.kids.drop i=[]:=jCj (by omega);exact zA 0 (by rw[ho,e1,e2];simp[bN])
termination_by zZ a
decreasing_by exact y4 (jA0 _)
theorem zEa:∀{R:wF} {k:Nat} (x:Id),k<R.length->(zV R).take (k*3)++(.lit (.int .i64 x.a)::.lit (.int .i64 x.b)::.lit (.int .i64 x.c)::(zV R).drop (k*3+3))=zV (R.set k x)
 |v::R,0,x,h=>by simp
 |v::R,k+1,x,h=>by
  have e:(k+1)*3=k*3+3:=by omega
  have:=zEa (R:=R) (k:=k) x (by simpa using h);rw[e,fL,List.set_cons_succ,fL,<-this];simp
def vX(n:Nat):wF:=List.replicate n Id.zero
theorem zAZ:∀n:Nat,zV (vX n)=(List.replicate n [A.lit (.int .i64 0),A.lit (.int .i64 0),A.lit (.int .i64 0)]).flatten
 | 0=>rfl
 |n+1=>by have:=zAZ n;simp only[vX,List.replicate_succ,List.flatten_cons]at this ⊢;rw[<-this];rfl
@[simp]theorem zQN:zF prog 90=true:=by kernel_rfl
mutual
def y7:Typ->Typ->Bool
 | .mk k i l,.mk k' i' l'=>decide (k=k')&&(decide (i=i')&&mN l l')
def mN:List Typ->List Typ->Bool
 |[],[]=>true
 |x::a,y::b=>y7 x y&&mN a b
 |_,_=>false
end
theorem zHb:∀(a b:wS),mN a b=tX y7 a b
 |[],[]=>by simp only[mN,tX]
 |x::a,y::b=>by simp only[mN,tX,zHb a b]
 |[],_::_=>by simp only[mN,tX]
 |_::_,[]=>by simp only[mN,tX]
theorem zHa(a b:Typ):y7 a b=(decide (a.k=b.k)&&(decide (a.id=b.id)&&tX y7 a.kids b.kids)):=by cases a;cases b;simp only[y7,zHb];rfl
mutual
theorem rR:∀(a b:Typ),y7 a b=true↔a=b
 | .mk k i l,.mk k' i' l'=>by simp only[y7,jA6,decide_eq_true_eq,zFq l l',Typ.mk.injEq]
theorem zFq:∀(a b:wS),mN a b=true↔a=b
 |[],[]=>by simp[mN]
 |x::a,y::b=>by simp only[mN,jA6,rR x y,zFq a b,jBf]
 |[],_::_=>by simp[mN]
 |_::_,[]=>by simp[mN]
end
mutual
theorem zDs:∀(a b:Typ),my 90 [.agg (zB a),.agg (zB b)] [] (bl (y7 a b)) []
 | .mk k i l,b=>by
  have ih:=zBC l;generalize ha:Typ.mk k i l=a;have hal:a.kids=l:=by rw[<-ha];rfl
  rw[<-hal]at ih;refine mq [] [.slot 4] func90 (by kernel_rfl) ?_
  (conv in kq _ _=>cbv)
  have hd:=zHa a b;by_cases h1:a.k=b.k
  .by_cases h2:a.id=b.id
   .simp[zB,h1,h2];refine mu (zTZ 90 zQN y7 a.kids b.kids fun x hx y hy=>ih x hx y) (by simp) ?_;simp;exact zA 0 (by simp[hd,h1,h2])
   .have h3:o8 a.id.a a.id.b a.id.c b.id.a b.id.b b.id.c=false:=by rw[eQ];exact decide_eq_false h2
    simp[zB,h1,h3];exact zA 0 (by simp[hd,h2])
  .simp[zB,h1];exact zA 0 (by simp[hd,h1])
theorem zBC:∀(l:wS),∀x∈l,∀y:Typ,my 90 [.agg (zB x),.agg (zB y)] [] (bl (y7 x y)) []
 |[],x,hx,_=>by simp at hx
 |z::l,x,hx,y=>by
  rcases jA3.1 hx with e|hx
  .rw[e];exact zDs z y
  .exact zBC l x hx y
end
def zBU(k:Int):Bool:=decide (k=2)||(decide (k=3)||(decide (k=4)||decide (k=5)))
end Go.Proofs.YtdnelmeboihpkaaGreatDoor
