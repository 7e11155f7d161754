/- An evaluator of small code at closed abstract states: code, functions, calls. -/
import Derived.Test.YtdnelmeboihpkaaGreatDoorX8
set_option linter.unusedVariables false
set_option maxHeartbeats 8000000
set_option maxRecDepth 100000
set_option linter.unusedSimpArgs false
open Go.Proofs.Tryz
namespace Go.Abs
section
variable{P:Program}{n0:Nat}
abbrev Run:=FuncId->List A->St->Option (A×St)
theorem zTG{env:Env} {U:St}:b9 n0 env (U++[AObj.rsv]) env U:=by
 intro H0 L0 w0 H L w N tmps h0 h1 h2;have hll:=LLe.append L [(⟨none,0,0,false⟩:LI)];refine⟨H,L++[(⟨none,0,0,false⟩:LI)],h1.trans ?_,h2.mono (HLe.refl _) hll⟩;have hs:=h1.st;refine⟨⟨hs.pers,by simp[hs.len],fun i l o hL hU=>?_,fun i j x y b hi hj hx hy=>?_,fun i x b hi hx=>?_⟩,Step.refl _ _ _,hll,fun b ⟨i,x,hi,hx⟩=>?_⟩
 .rcases jW hL with hL'|⟨rfl,rfl⟩
  .have hi:i<L.length:=(jA4.1 hL').1;rw[jAl (by rw[<-hs.len];exact hi)]at hU;exact(hs.obj i l o hL' hU).carry (fun _ _=>rfl) (HLe.refl _) hll (fun _ _ _=>rfl)
  .rw[hs.len]at hU;rw[jAy (jA _)]at hU;simp only[jBv,jB3,jA2]at hU;subst hU;exact⟨rfl,rfl⟩
 .rcases jW hi with hi'|⟨rfl,rfl⟩
  .rcases jW hj with hj'|⟨rfl,rfl⟩
   .exact hs.inj i j x y b hi' hj' hx hy
   .cases hy
  .cases hx
 .rcases jW hi with hi'|⟨rfl,rfl⟩
  .exact hs.lt i x b hi' hx
  .cases hx
 .rcases jW hi with hi'|⟨rfl,rfl⟩
  .exact .inl ⟨i,x,hi',hx⟩
  .cases hx
theorem aX{env:Env}:∀(n:Nat) {U:St},b9 n0 env (U++List.replicate n AObj.rsv) env U
 | 0,U=>by simpa using b9.refl n0 env U
 |n+1,U=>by
  have:=(zTG (n0:=n0) (env:=env) (U:=U)).trans (aX n);rw[List.replicate_succ]
  simpa using this
structure Entry where
 k:K
 rs:List RS
 frz:Bool
def zZi(f:Nat):List (Nat×Entry)->Option Entry
 |[]=>none
 |p::l=>bif Nat.beq f p.1 then some p.2 else zZi f l
end
end Go.Abs
namespace Go.Abs
section
variable{d:wC}{x v:Operand}{n f:Nat}{g:Bool}{env:Env} {U:St}
@[simp]theorem qHP(h1:1000<=f)(h2:f<2000):c9 f (.st d x v n) env=pI (f-1000) (ev env x):=propext (zIN h1 h2)
@[simp]theorem qHM(h1:2000<=f)(h2:f<4000):c9 f (.ld d x n g) env=fW (f-2000) (ev env x):=propext (x7 h1 h2)
@[simp]theorem zUM{c l o:Nat}:pI c (.ptr l o)=(l<c):=rfl
@[simp]theorem zUL{c l o:Nat}:fW c (.ptr l o)=(c<=l):=rfl
@[simp]theorem qH9(h1:2<f):oR f U = U:=by unfold oR;rw[if_neg (by omega),if_neg (by omega)]
@[simp]theorem qHN{o:KOp}(h1:6<f)(h2:f<1000):c9 f o env=True:=by
 unfold c9;split
 .omega
 .omega
 .rw[if_neg (by omega),if_neg (by omega),if_neg (by omega)]
end
section
variable{n0:Nat}{env:Env} {U:St}
variable{l:Nat}
theorem zFZ{nk:Nat}{fr:Bool}{es:List (wB×A)}(hl : U[l]?=some (.mp fr nk es)):b9 n0 env (U.set l (.mp false nk es)) env U:=by
 intro H0 L0 w0 H L w N tmps h0 h1 h2;have hs:=zCW (o':=.mp false nk es) h1.st hl (fun li hob=>by simp only[qA]at hob ⊢;obtain⟨g0,b,ents,ck,g1,g2,g3,_,g5⟩:=hob;exact⟨g0,b,ents,ck,g1,g2,g3,(fun h=>by cases h),g5⟩)
 exact⟨H,L,⟨hs,h1.step,h1.lle,h1.own⟩,h2⟩
variable{e:TypeId}{cs:wE}
theorem zTI{t m sz:Nat}{fz:Bool}(ht:env t=.row l m)(hl : U[l]?=some (.row fz e sz m cs)):b9 n0 (env.put (some t) (.win l m 0 m sz)) U env U:=by
 intro H0 L0 w0 H L w N tmps h0 h1 h2;refine⟨H,L,h1,h2.1,fun x=>?_⟩;simp only[zVt];split
 .rename_i hx;subst hx;have hr:=h2.2 x;rw[ht]at hr;simp only[Rel]at hr ⊢;obtain⟨g0,li,e1,e2,e3,hv⟩:=hr;refine⟨g0,li,e1,e2,e3,fun hn=>⟨jA _,?_⟩⟩;have hob:=h1.st.obj l li _ e1 hl;simp only[qA]at hob;obtain⟨_,_,_,hob⟩:=hob;rw[hv hn];rcases hob with ⟨hb,hz⟩|⟨b,cur,hb,_,k1,k2,_⟩
  .rw[hb];exact⟨none,0,by rw[hz],by omega,jB4 _,.inl rfl⟩
  .rw[hb];exact⟨_,_,rfl,k1,k2,.inr ⟨b,rfl,rfl,by simp⟩⟩
 .exact h2.2 x
theorem zSZ{H:Mem}{L:wM}{w:World}(hs:RelSt H L U w){o o':AObj}(hl : U[l]?=some o)(h:∀li,L[l]?=some li->qA H L w li o->qA H L w li o'):RelSt H L (U.set l o') w:=by
 refine⟨hs.pers,by simp[hs.len],fun i x p hL hp=>?_,hs.inj,hs.lt⟩;by_cases hi:i=l
 .subst hi;rw[jAm (jA4.1 hl).1]at hp;cases hp;exact h x hL (hs.obj i x o hL hl)
 .rw[jAa (Ne.symm hi)]at hp;exact hs.obj i x p hL hp
theorem zZC{H:Mem}{L:wM}{w:World}(hs:RelSt H L U w){l n sz:Nat}{li:LI}(hL:L[l]?=some li)(hr:li.isRow=true)(hU:U[l]?=some (.row false e sz n cs)) :
 Nxt H L w H (L.set l ⟨none,0,li.len+1,true⟩++[li]) (U.set l .dead++[AObj.row false e sz n cs]) w:=by
 have hll:=(pK (li':=(⟨none,0,li.len+1,true⟩:LI)) hL hr rfl (Nat.lt_succ_self _)).trans (LLe.append _ [li]);have hl:l<L.length:=(jA4.1 hL).1;have get:∀(i:Nat) x,(L.set l ⟨none,0,li.len+1,true⟩++[li])[i]?=some x->(i=l/\x.block=none)\/(i≠l/\L[i]?=some x)\/(i=L.length/\x=li):=by
  intro i x hx;rcases jW hx with hx|⟨rfl,rfl⟩
  .by_cases hi:i=l
   .subst hi;rw[jAm hl]at hx;cases hx;exact .inl ⟨rfl,rfl⟩
   .rw[jAa (Ne.symm hi)]at hx;exact .inr (.inl ⟨hi,hx⟩)
  .exact .inr (.inr ⟨by simp,rfl⟩)
 have hob:=hs.obj l li _ hL hU;refine⟨⟨hs.pers,by simp[hs.len],fun i x o hx ho=>?_,fun i j x y b' hi hj hx hy=>?_,fun i x b' hi hx=>?_⟩,Step.refl _ _ _,hll,fun b' ⟨i,x,hi,hx⟩=>?_⟩
 .rcases get i x hx with ⟨rfl,_⟩|⟨hi,hx'⟩|⟨rfl,rfl⟩
  .rw[jAl (by rw[jBz,<-hs.len];exact hl),jAm (by rw[<-hs.len];exact hl)]at ho;cases ho;trivial
  .rw[jAl (by rw[jBz,<-hs.len];exact(jA4.1 hx').1),jAa (Ne.symm hi)]at ho;exact(hs.obj i x o hx' ho).carry (fun _ _=>rfl) (HLe.refl _) hll (fun _ _ _=>rfl)
  .rw[hs.len,jAy (by simp)]at ho;simp only[jBz,jBv,jB3,jA2]at ho;subst ho;exact hob.carry (fun _ _=>rfl) (HLe.refl _) hll (fun _ _ _=>rfl)
 .rcases get i x hi with ⟨_,h0⟩|⟨hi1,hi'⟩|⟨rfl,rfl⟩
  .rw[h0]at hx;cases hx
  .rcases get j y hj with ⟨_,h0⟩|⟨hj1,hj'⟩|⟨rfl,rfl⟩
   .rw[h0]at hy;cases hy
   .exact hs.inj i j x y b' hi' hj' hx hy
   .exact(hi1 (hs.inj i l x _ b' hi' hL hx hy)).elim
  .rcases get j y hj with ⟨_,h0⟩|⟨hj1,hj'⟩|⟨rfl,rfl⟩
   .rw[h0]at hy;cases hy
   .exact(hj1 (hs.inj j l y _ b' hj' hL hy hx)).elim
   .rfl
 .rcases get i x hi with ⟨_,h0⟩|⟨hi1,hi'⟩|⟨rfl,rfl⟩
  .rw[h0]at hx;cases hx
  .exact hs.lt i x b' hi' hx
  .exact hs.lt l _ b' hL hx
 .rcases get i x hi with ⟨_,h0⟩|⟨hi1,hi'⟩|⟨rfl,rfl⟩
  .rw[h0]at hx;cases hx
  .exact .inl ⟨i,x,hi',hx⟩
  .exact .inl ⟨l,_,hL,hx⟩
theorem zVF{j o l n sz:Nat}{ds:wE}(hj : U[j]?=some (.box ds))(ho:ds[o]?=some (.row l n))(hl : U[l]?=some (.row false e sz n cs)) :
 b9 n0 env ((U.set l .dead).set j (.box (ds.set o (.row U.length n)))++[AObj.row false e sz n cs]) env U:=by
 intro H0 L0 w0 H L w N tmps h0 h1 h2;have hjl:j≠l:=fun e=>by subst e;rw[hj]at hl;cases hl
 have hjlt:j < U.length:=(jA4.1 hj).1;have hllt:l < U.length:=(jA4.1 hl).1;have hLl:L[l]?=some (L[l]'(by rw[h1.st.len];exact hllt)):=jA1 _;generalize L[l]'(by rw[h1.st.len];exact hllt)=li at hLl;have hob:=h1.st.obj l li _ hLl hl;have hrow:li.isRow=true:=by simp only[qA]at hob;exact hob.1
 have hn:=zZC h1.st hLl hrow hl;have hj':(U.set l .dead++[AObj.row false e sz n cs])[j]?=some (.box ds):=by rw[jAl (by rw[jBz];exact hjlt),jAa (Ne.symm hjl)];exact hj
 obtain⟨lj,hLj⟩:∃lj,L[j]?=some lj:=⟨_,jA1 (by rw[h1.st.len];exact hjlt)⟩;have hbj:=h1.st.obj j lj _ hLj hj;simp only[qA]at hbj;obtain⟨_,b0,vs0,e0,p1,p2,p3,_⟩:=hbj;obtain⟨v0,hv0,hr0⟩:=p3.get ho;simp only[Rel]at hr0;obtain⟨q0,li',q1,q2,q3,q4⟩:=hr0;rw[hLl]at q1;cases q1;have hs:=zSZ (o':=.box (ds.set o (.row U.length n))) hn.st hj' (fun lx hlx hob=>by
  have hlj:lx=lj:=by rw[jAl (by rw[jBz,h1.st.len];exact hjlt),jAa (Ne.symm hjl),hLj]at hlx;exact(jB0 hlx).symm
  subst hlj;simp only[qA]at hob ⊢;obtain⟨g0,b,vs,e',g1,g2,g3,g4,g5⟩:=hob;rw[p1]at g1;cases g1;rw[p2]at g2;cases g2;refine⟨g0,b0,vs0,e0,p1,p2,?_,g4,g5⟩;have hset:vs0=vs0.set o v0:=by
   apply jCd;intro i;by_cases hi:i=o
   .subst hi;rw[jAm (jA4.1 hv0).1,hv0]
   .rw[jAa (Ne.symm hi)]
  rw[hset];refine g3.set o ?_;simp only[Rel];exact⟨q0,li,by rw[<-h1.st.len,jAy (by simp)];simp,q2,q3,q4⟩)
 rw[List.set_append_left _ _ (by rw[jBz];exact hjlt)]at hs;have hm:=h1.trans hn;exact⟨H,_,⟨hs,hm.step,hm.lle,hm.own⟩,h2.1,fun x=>Rel.mono (HLe.refl _) hn.lle _ (h2.2 x)⟩
end
end Go.Abs
namespace Go.Proofs.YtdnelmeboihpkaaGreatDoor
structure Edg where
 id:Id
 fro:Id
 to:Id
abbrev wU:=List Edg
section
variable(L:wU)(to:Id)
def yY:Nat->Id->List Id->List wF
 | 0,at_,_=>if at_=to then [[]]else []
 |n+1,at_,met=>if at_=to then [[]]else L.flatMap fun e=>if e.fro=at_/\e.to∉met then (yY n e.to (met++[e.to])).map (e.id::·)else []
inductive Rchs(met:List Id):Id->Prop
 |here:Rchs met to
 |step (e:Edg) (he:e∈L) (hn:e.to∉met) (h:Rchs met e.to):Rchs met e.fro
def rN(met:wF):Nat:=(L.filter fun e=>decide (e.to∉met)).length
variable{L to}
theorem iI{met:wF}{e:Edg}(he:e∈L)(hn:e.to∉met):rN L (met++[e.to])<rN L met:=by
 unfold rN;have h1:∀M:wU,(M.filter fun x=>decide (x.to∉met++[e.to])).length<=(M.filter fun x=>decide (x.to∉met)).length:=by
  intro M;induction M with
  |nil=>simp
  |cons x M ih =>
   rw[List.filter_cons,List.filter_cons];by_cases hx:x.to∈met
   .simp[hx];simpa using ih
   .by_cases hx2:x.to=e.to
    .simp[hx,hx2,hn];have:=ih;simp at this;omega
    .simp[hx,hx2]
     simpa using ih
 induction L with
 |nil=>cases he
 |cons x M ih =>
  rw[List.filter_cons,List.filter_cons];rcases jA3.1 he with rfl|he
  .have:=h1 M;simp[hn];simp at this;omega
  .have:=ih he;by_cases hx:x.to∈met
   .simp[hx];simpa using this
   .by_cases hx2:x.to=e.to
    .simp[hx,hx2,hn];simp at this;omega
    .simp[hx,hx2]
     simpa using this
variable{m:wF}{x:Id}
theorem Rchs.mono{m':wF}(hs:∀x∈m',x∈m)(h:Rchs L to m x):Rchs L to m' x:=by
 induction h with
 |here=>exact .here
 |step e he hn _ ih=>exact .step e he (fun h=>hn (hs _ h)) ih
theorem Rchs.last(w:Id)(h:Rchs L to m x):Rchs L to (m++[w]) x\/Rchs L to (m++[w]) w:=by
 induction h with
 |here=>exact .inl .here
 |step e he hn _ ih =>
  rcases ih with ih|ih
  .by_cases hw:e.to=w
   .exact .inr (hw▸ih)
   .exact .inl (.step e he (by simp[hn,hw]) ih)
  .exact .inr ih
theorem Rchs.own(h:Rchs L to m x):Rchs L to (m++[x]) x:=(h.last x).elim id id
theorem zEH:∀(n:Nat) (at_:Id) (met:wF),rN L met<=n->(yY L to n at_ met≠[]↔Rchs L to met at_)
 | 0,at_,met,hn=>by
  unfold yY;split
  .rename_i h;subst h;simpa using Rchs.here
  .rename_i h;refine⟨fun h=>(h rfl).elim,fun hr=>?_⟩;cases hr with
   |here=>exact(h rfl).elim
   |step e he hm _ =>
    have:=iI he hm;omega
 |n+1,at_,met,hn=>by
  unfold yY;split
  .rename_i h;subst h;simpa using Rchs.here
  .rename_i h;constructor
   .intro hne;have hx:∃x,x∈L.flatMap fun e=>if e.fro=at_/\e.to∉met then (yY L to n e.to (met++[e.to])).map (e.id::·)else []:=List.exists_mem_of_ne_nil _ hne
    obtain⟨x,hx⟩:=hx;rw[List.mem_flatMap]at hx;obtain⟨e,he,hx⟩:=hx;split at hx
    .rename_i hc;have hlt:=iI he hc.2;have:=(zEH n e.to (met++[e.to]) (by omega)).1 (fun h0=>by rw[h0]at hx;simp at hx);rw[<-hc.1];exact .step e he hc.2 (this.mono (by simp +contextual))
    .simp at hx
   .intro hr h0;cases hr with
    |here=>exact h rfl
    |step e he hm hr =>
     have hlt:=iI he hm;have h1:=(zEH n e.to (met++[e.to]) (by omega)).2 hr.own;have h2:=(List.flatMap_eq_nil_iff.1 h0) e he;rw[if_pos ⟨rfl,hm⟩,List.map_eq_nil_iff]at h2;exact h1 h2
theorem zAF{α β:Type}{f g : α->List β}:∀{M:List α},(∀e∈M,f e=g e)->M.flatMap f=M.flatMap g
 |[],_=>rfl
 |e::M,h=>by rw[jB6,jB6,h e (by simp),zAF fun x hx=>h x (by simp[hx])]
theorem zLU:∀(n n':Nat) (at_:Id) (m m':wF),(∀x,x∈m↔x∈m')->rN L m<=n->rN L m<=n'->yY L to n at_ m=yY L to n' at_ m':=by
 intro n;induction n with
 |zero =>
  intro n' at_ m m' hm h0 _
  cases n' with
  |zero=>rfl
  |succ n' =>
   unfold yY;split
   .rfl
   .symm;rw[List.flatMap_eq_nil_iff];intro e he;rw[if_neg];rintro⟨_,h⟩;have:=iI he (fun h'=>h ((hm _).1 h'):e.to∉m);omega
 |succ n ih =>
  intro n' at_ m m' hm h1 h2
  cases n' with
  |zero =>
   unfold yY;split
   .rfl
   .rw[List.flatMap_eq_nil_iff];intro e he;rw[if_neg];rintro⟨_,h⟩;have:=iI he h;omega
  |succ n' =>
   unfold yY;split
   .rfl
   .have key:∀e∈L,(if e.fro=at_/\e.to∉m then (yY L to n e.to (m++[e.to])).map (e.id::·)else [])=(if e.fro=at_/\e.to∉m' then (yY L to n' e.to (m'++[e.to])).map (e.id::·)else []):=by
     intro e he;by_cases hc:e.fro=at_/\e.to∉m
     .have hlt:=iI he hc.2;rw[if_pos hc,if_pos ⟨hc.1,fun h=>hc.2 ((hm _).2 h)⟩,ih n' e.to (m++[e.to]) (m'++[e.to]) (by simp[hm]) (by omega) (by omega)]
     .rw[if_neg hc,if_neg fun h=>hc ⟨h.1,fun h'=>h.2 ((hm _).1 h')⟩]
    exact zAF key
theorem zT3{α:Type}(n:Nat)(A B:List α):(A++B.take n).take n=(A++B).take n:=by rw[List.take_append,List.take_append,List.take_take,jAv (by omega)]
theorem zJK(m:wF):rN L m<=L.length:=jCn _ _
end
end Go.Proofs.YtdnelmeboihpkaaGreatDoor
namespace Go.Proofs.YtdnelmeboihpkaaGreatDoor
open Go.Abs
def zMu{β:Type}(cf : β->β->Int)(x : β):List β->List β
 |[]=>[x]
 |y::l=>if cf y x<0 then y::zMu cf x l else x::y::l
def zIx{β:Type}(cf : β->β->Int):List β->List β
 |[]=>[]
 |x::l=>zMu cf x (zIx cf l)
theorem zCE{β:Type}(cf : β->β->Int)(x : β):∀l,(zMu cf x l).Perm (x::l)
 |[]=>.refl _
 |y::l=>by
  unfold zMu;split
  .exact((zCE cf x l).cons y).trans (.swap x y l)
  .exact .refl _
theorem zD3{β:Type}{cf : β->β->Int}(ho:Ord cf)(x : β):∀{l:List β},l.Pairwise (fun x y=>¬cf y x<0)->(zMu cf x l).Pairwise (fun x y=>¬cf y x<0)
 |[],_=>by simp[zMu]
 |y::l,h=>by
  obtain⟨h1,h2⟩:=jBq.1 h;unfold zMu;split
  .rename_i hy;refine jBq.2 ⟨fun z hz=>?_,zD3 ho x h2⟩;rcases jA3.1 ((zCE cf x l).mem_iff.1 hz)with rfl|hz
   .exact fun hh=>ho.irrefl _ (ho.trans _ _ _ hy hh)
   .exact h1 z hz
  .rename_i hy;refine jBq.2 ⟨fun z hz=>?_,h⟩;rcases jA3.1 hz with rfl|hz
   .exact hy
   .exact ho.ntrans _ _ _ (h1 z hz) hy
theorem xS{β:Type}{cf : β->β->Int}(ho:Ord cf):∀l:List β,(zIx cf l).Perm l/\(zIx cf l).Pairwise (fun x y=>¬cf y x<0)
 |[]=>⟨.refl _,.nil⟩
 |x::l=>by obtain⟨h1,h2⟩:=xS ho l;exact⟨(zCE cf x _).trans (h1.cons x),zD3 ho x h2⟩
theorem zDH{β:Type}{cf : β->β->Int}(ho:Ord cf)(l:List β):cM cf l=zIx cf l:=(lT ho (xS ho l).1 (xS ho l).2).symm
variable{x y:Id}
theorem xU:cC x y=true↔x.a<y.a\/(x.a=y.a/\(x.b<y.b\/(x.b=y.b/\x.c<y.c))):=by
 unfold cC;split
 .simp only[decide_eq_true_eq];omega
 .split
  .simp only[decide_eq_true_eq];omega
  .simp only[decide_eq_true_eq];omega
theorem xV:cC x y=false↔¬(x.a<y.a\/(x.a=y.a/\(x.b<y.b\/(x.b=y.b/\x.c<y.c)))):=by rw[<-xU];simp
theorem eZ(x:Id):cC x x=false:=by rw[xV];omega
theorem zD4{z:Id}(h:cC x y=true)(k:cC y z=true):cC x z=true:=by rw[xU]at *;omega
theorem oK(h:cC x y=false)(k:cC y x=false):x=y:=by
 rw[xV]at *
 rw[Id.eq_iff];omega
theorem zM0(h:cC x y=true):cC y x=false:=by rw[xU]at h;rw[xV];omega
theorem rJ:zCw x y<0↔cC x y=true:=by
 rw[xU];simp only[zCw,orI,bU]
 repeat' split
 all_goals omega
theorem oL:Ord zCw where
 irrefl x:=by rw[rJ,eZ];simp
 trans x y z h k:=by rw[rJ]at *;exact zD4 h k
 ntrans x y z h k:=by
  rw[rJ,jCo]at *
  rw[xV]at *;omega
 anti x y h k:=by
  rw[rJ,jCo]at *
  exact oK h k
def SS(l:wF):Prop:=l.Pairwise fun x y=>cC x y=true
theorem rS{x y:Id}:∀{l:wF},y∈nC l x↔y∈l\/y=x
 |[]=>by simp[nC]
 |z::l=>by
  simp only[nC];split
  .simp only[jA3,rS (l:=l),or_assoc]
  .split
   .rename_i h;subst h;simp only[jA3];constructor
    .exact fun h=>.inl h
    .rintro(h|h)
     .exact h
     .exact .inl h
   .simp only[jA3];constructor
    all_goals
     rintro(h|h)
     .exact .inr h
     .exact .inl h
theorem zIv{x:Id}:∀{l:wF},SS l->SS (nC l x)
 |[],_=>by simp[nC,SS]
 |z::l,h=>by
  have h':=jBq.1 h;simp only[nC];split
  .rename_i hz;refine jBq.2 ⟨fun y hy=>?_,zIv h'.2⟩;rcases rS.1 hy with hy|rfl
   .exact h'.1 y hy
   .exact hz
  .rename_i hz;split
   .exact h
   .rename_i hne;have hxz:cC x z=true:=by
     cases hh:cC x z with
     |true=>rfl
     |false=>exact(hne (oK (by simpa using hz) hh)).elim
    refine jBq.2 ⟨fun y hy=>?_,h⟩;rcases jA3.1 hy with rfl|hy
    .exact hxz
    .exact zD4 hxz (h'.1 y hy)
theorem zEL:∀{l acc:wF},SS acc->SS (l.foldl nC acc)
 |[],_,h=>h
 |_::l,_,h=>zEL (l:=l) (zIv h)
theorem zC8{y:Id}:∀{l acc:wF},y∈l.foldl nC acc↔y∈acc\/y∈l
 |[],_=>by simp
 |x::l,acc=>by simp only[jBh,zC8 (l:=l),rS,jA3,or_assoc]
theorem SS.unique:∀{l l':wF},SS l->SS l'->(∀x,x∈l↔x∈l')->l=l'
 |[],[],_,_,_=>rfl
 |[],y::l',_,_,h=>by have:=(h y).2 (jAr ..);simp at this
 |x::l,[],_,_,h=>by have:=(h x).1 (jAr ..);simp at this
 |x::l,y::l',h1,h2,h=>by
  have p1:=jBq.1 h1;have p2:=jBq.1 h2;have hxy:x=y:=by
   rcases jA3.1 ((h x).1 (jAr ..))with e|e
   .exact e
   .rcases jA3.1 ((h y).2 (jAr ..))with e'|e'
    .exact e'.symm
    .have a:=p2.1 x e;have b:=p1.1 y e';rw[zM0 b]at a;cases a
  subst hxy
  congr 1
  refine SS.unique p1.2 p2.2 fun z=>?_
  constructor
  .intro hz;rcases jA3.1 ((h z).1 (jAh _ hz))with e|e
   .have:=p1.1 z hz;subst e;rw[eZ]at this;cases this
   .exact e
  .intro hz;rcases jA3.1 ((h z).2 (jAh _ hz))with e|e
   .have:=p2.1 z hz;subst e;rw[eZ]at this;cases this
   .exact e
theorem nQ{α:Type}{motive:List α->Prop}(nil:motive [])(snoc:∀l y,motive l->motive (l++[y]))(l:List α):motive l:=by
 have h:∀r:List α,motive r.reverse:=fun r=>by
  induction r with
  |nil=>exact nil
  |cons a r ih=>rw[List.reverse_cons];exact snoc _ _ ih
 have:=h l.reverse
 rwa[List.reverse_reverse]at this
def zLf(acc:wF)(y:Id):wF:=if acc.getLast?=some y then acc else acc++[y]
def zAk(l:wF):wF:=l.foldl zLf []
theorem zA1(l:wF)(y:Id):zAk (l++[y])=zLf (zAk l) y:=by simp[zAk,jCe]
theorem zLO:∀(l:wF),(zAk l).getLast?=l.getLast?:=by
 intro l;induction l using nQ with
 |nil=>rfl
 |snoc l y ih =>
  rw[zA1,zLf];split
  .rename_i h;rw[h];simp
  .simp
theorem zGG(l:wF):x∈zAk l↔x∈l:=by
 induction l using nQ with
 |nil=>simp[zAk]
 |snoc l y ih =>
  rw[zA1,zLf];split
  .rename_i h;have hy:y∈zAk l:=List.mem_of_getLast? h;simp only[ih,jAc,jAp];constructor
   .exact .inl
   .rintro(h|rfl)
    .exact h
    .exact ih.1 hy |> fun h=>h
  .simp[ih]
theorem zRt(l:wF)(h:l.Pairwise fun x y=>cC y x=false):SS (zAk l):=by
 induction l using nQ with
 |nil=>simp[zAk,SS]
 |snoc l y ih =>
  rw[jCt]at h;have hi:=ih h.1;rw[zA1,zLf];split
  .exact hi
  .rename_i hne;unfold SS;rw[jCt];refine⟨hi,by simp,fun z hz y' hy'=>?_⟩;simp only[jAp]at hy';subst hy';have hzl:=(zGG l).1 hz;have h1:=h.2.2 z hzl y' (by simp);cases hh:cC z y' with
   |true=>rfl
   |false =>
    exfalso;have e:=oK hh h1;subst e;rw[zLO]at hne;have hl:l≠[]:=fun e=>by rw[e]at hzl;simp at hzl
    obtain⟨w,hw⟩:∃w,l.getLast?=some w:=⟨_,List.getLast?_eq_some_getLast hl⟩;have hwl:w∈l:=List.mem_of_getLast? hw;have h2:=h.2.2 w hwl z (by simp);have hwz:w=z\/cC w z=false:=by
     obtain⟨l',rfl⟩:∃l',l=l'++[w]:=List.getLast?_eq_some_iff.1 hw;rcases jAc.1 hzl with hz'|hz'
     .have:=h.1;rw[jCt]at this;exact .inr (this.2.2 z hz' w (by simp))
     .exact .inl (jAp.1 hz').symm
    have:w=z:=by
     rcases hwz with e|e
     .exact e
     .exact oK e h2
    subst this;exact hne hw
def zTk(l:wF):wF:=zAk (cM zCw l)
theorem zNc(l:wF):(cM zCw l).Perm l:=List.mergeSort_perm l _
theorem zIK(l:wF):(cM zCw l).Pairwise fun x y=>cC y x=false:=by
 have h:=List.pairwise_mergeSort (le:=fun x y=>!decide (zCw y x<0)) (fun a b c h1 h2=>by simp only[jBw,decide_eq_false_iff_not]at *;exact oL.ntrans c b a h2 h1)
  (fun a b=>by
   simp only[jBf,jBw,decide_eq_false_iff_not];by_cases h:zCw b a<0
   .exact .inr fun h'=>oL.irrefl _ (oL.trans _ _ _ h h')
   .exact .inl h) l
 exact h.imp fun h=>by simp only[jBw,decide_eq_false_iff_not,rJ,jCo]at h;exact h
theorem zFJ{l:wF}:x∈zTk l↔x∈l:=by rw[zTk,zGG,(zNc l).mem_iff]
theorem zIH(l:wF):SS (zTk l):=zRt _ (zIK l)
theorem zV3(l:wF):zTk l=l.foldl nC [] :=
 SS.unique (zIH l) (zEL (by simp[SS])) fun x=>by rw[zFJ,zC8];simp
@[simp]theorem qF9(d:Id):(zK d).take 3=zK d:=jA9 (jA _)
@[simp]theorem qFA(d:Id):(zK d).length=3:=rfl
theorem zEF(d:Id):qY (zK d):=qY.lit (qY.lit (qY.lit qY.nil))
@[simp]theorem qB9(d:Id):jT (zK d)=zK d:=(zEF d).1
@[simp]theorem qKp(d:Id) {rf g}:vwL rf g (zK d)=zK d:=(zEF d).2 _ _
theorem zGD(l:wF):zT l=l.flatMap zK:=by
 induction l with
 |nil=>rfl
 |cons v l ih=>rw[jB6,<-ih];rfl
def zR9(s:ByteArray):wE:=[.lit (.string s)]
def yR(l:List ByteArray):wE:=l.flatMap zR9
theorem zLS(s:ByteArray):qY (zR9 s):=qY.lit qY.nil
theorem eT(l:List ByteArray):qY (yR l):=dL zLS l
@[simp]theorem zX0(l:List ByteArray):jT (yR l)=yR l:=(eT l).1
@[simp]theorem qCq{rf g}(l:List ByteArray):vwL rf g (yR l)=yR l:=(eT l).2 _ _
@[simp]theorem zYC(l:List ByteArray):(yR l).length=l.length:=by rw[yR,gH (k:=1) (fun _=>rfl),Nat.mul_one]
@[simp]theorem zYD:yR []=[]:=rfl
inductive Typ where
 |mk (k:Int) (id:Id) (kids:List Typ)
abbrev wS:=List Typ
def Typ.k:Typ->Int | .mk k _ _=>k
def Typ.id:Typ->Id | .mk _ d _=>d
def Typ.kids:Typ->wS | .mk _ _ l=>l
variable{l:wS}
@[simp]theorem Typ.k_mk{k:Int}{i:Id}:(Typ.mk k i l).k=k:=rfl
@[simp]theorem Typ.id_mk{k:Int}{i:Id}:(Typ.mk k i l).id=i:=rfl
@[simp]theorem Typ.kids_mk{k:Int}{i:Id}:(Typ.mk k i l).kids=l:=rfl
mutual
def zDo:Typ->A
 | .mk _ _ l=>.sl l.length (jQ l)
def jQ:List Typ->wE
 |[]=>[]
 |t::l=>.lit (.int .i64 t.k)::.lit (.int .i64 t.id.a)::.lit (.int .i64 t.id.b)::.lit (.int .i64 t.id.c)::zDo t::jQ l
end
theorem zRo(t:Typ):zDo t=.sl t.kids.length (jQ t.kids):=by cases t;simp only[zDo,Typ.kids]
def zB(t:Typ):wE:=[.lit (.int .i64 t.k),.lit (.int .i64 t.id.a),.lit (.int .i64 t.id.b),.lit (.int .i64 t.id.c),.sl t.kids.length (jQ t.kids)]
theorem mC(l:wS):jQ l=l.flatMap zB:=by
 induction l with
 |nil=>simp only[jQ,List.flatMap_nil]
 |cons t l ih=>simp only[jQ,jB6,ih,zRo,zB];rfl
mutual
theorem zJp:∀t:Typ,nrm0 (zDo t)=zDo t/\∀rf g,vw rf g (zDo t)=zDo t
 | .mk k n l=>by have h:=y9 l;simp only[zDo];exact⟨by simp[h.1],fun rf g=>by simp[h.2]⟩
theorem y9:∀l:wS,qY (jQ l)
 |[]=>by simp only[jQ];exact qY.nil
 |v::l=>by have h:=zJp v;have h':=y9 l;simp only[jQ];exact⟨by simp[h.1,h'.1],fun rf g=>by simp[h.2,h'.2]⟩
end
theorem zEG(t:Typ):qY (zB t):=qY.lit (qY.lit (qY.lit (qY.lit (qY.sl (y9 _) qY.nil))))
inductive Exp where
 |mk (id:Id) (k n:Int) (ref:Id) (typ:Typ) (kids:List Exp) (names:List ByteArray)
abbrev wG:=List Exp
def Exp.id:Exp->Id | .mk x _ _ _ _ _ _=>x
def Exp.k:Exp->Int | .mk _ x _ _ _ _ _=>x
def Exp.n:Exp->Int | .mk _ _ x _ _ _ _=>x
def Exp.ref:Exp->Id | .mk _ _ _ x _ _ _=>x
def Exp.typ:Exp->Typ | .mk _ _ _ _ x _ _=>x
def Exp.kids:Exp->wG | .mk _ _ _ _ _ x _=>x
def Exp.names:Exp->List ByteArray | .mk _ _ _ _ _ _ x=>x
variable{a d:Id}{b c:Int}{e:Typ}{f:wG}{g:List ByteArray}
@[simp]theorem Exp.id_mk:(Exp.mk a b c d e f g).id=a:=rfl
@[simp]theorem Exp.k_mk:(Exp.mk a b c d e f g).k=b:=rfl
@[simp]theorem Exp.n_mk:(Exp.mk a b c d e f g).n=c:=rfl
@[simp]theorem Exp.ref_mk:(Exp.mk a b c d e f g).ref=d:=rfl
@[simp]theorem Exp.typ_mk:(Exp.mk a b c d e f g).typ=e:=rfl
@[simp]theorem Exp.kids_mk:(Exp.mk a b c d e f g).kids=f:=rfl
@[simp]theorem Exp.names_mk:(Exp.mk a b c d e f g).names=g:=rfl
mutual
def zDn:Exp->A
 | .mk _ _ _ _ _ l _=>.sl l.length (qT l)
def qT:List Exp->wE
 |[]=>[]
 |e::l=>[.lit (.int .i64 e.id.a),.lit (.int .i64 e.id.b),.lit (.int .i64 e.id.c),.lit (.int .i64 e.k),.lit (.int .i64 e.n),.lit (.int .i64 e.ref.a),.lit (.int .i64 e.ref.b),.lit (.int .i64 e.ref.c),.lit (.int .i64 e.typ.k),.lit (.int .i64 e.typ.id.a),.lit (.int .i64 e.typ.id.b),.lit (.int .i64 e.typ.id.c),.sl e.typ.kids.length (jQ e.typ.kids),zDn e,.sl e.names.length (yR e.names)]++qT l
end
theorem zRn(e:Exp):zDn e=.sl e.kids.length (qT e.kids):=by cases e;simp only[zDn,Exp.kids]
def zI(e:Exp):wE:=[.lit (.int .i64 e.id.a),.lit (.int .i64 e.id.b),.lit (.int .i64 e.id.c),.lit (.int .i64 e.k),.lit (.int .i64 e.n),.lit (.int .i64 e.ref.a),.lit (.int .i64 e.ref.b),.lit (.int .i64 e.ref.c),.lit (.int .i64 e.typ.k),.lit (.int .i64 e.typ.id.a),.lit (.int .i64 e.typ.id.b),.lit (.int .i64 e.typ.id.c),.sl e.typ.kids.length (jQ e.typ.kids),.sl e.kids.length (qT e.kids),.sl e.names.length (yR e.names)]
theorem gU(l:wG):qT l=l.flatMap zI:=by
 induction l with
 |nil=>simp only[qT,List.flatMap_nil]
 |cons t l ih=>simp only[qT,jB6,ih,zRn,zI]
mutual
theorem zJo:∀t:Exp,nrm0 (zDn t)=zDn t/\∀rf g,vw rf g (zDn t)=zDn t
 | .mk _ _ _ _ _ l _=>by have h:=gV l;simp only[zDn];exact⟨by simp[h.1],fun rf g=>by simp[h.2]⟩
theorem gV:∀l:wG,qY (qT l)
 |[]=>by simp only[qT];exact qY.nil
 |v::l=>by have h:=zJo v;have h':=gV l;have h1:=y9 v.typ.kids;have h2:=eT v.names;simp only[qT];exact⟨by simp[h.1,h'.1,h1.1,h2.1],fun rf g=>by simp[h.2,h'.2,h1.2,h2.2]⟩
end
theorem zA7(e:Exp):qY (zI e):=by have h:=gV e.kids;have h1:=y9 e.typ.kids;have h2:=eT e.names;exact⟨by simp[zI,h.1,h1.1,h2.1],fun rf g=>by simp[zI,h.2,h1.2,h2.2]⟩
structure Slt where
 id:Id
 name:ByteArray
 typ:Typ
 most:Int
 place:Int
def j8(s:Slt):wE:=[.lit (.int .i64 s.id.a),.lit (.int .i64 s.id.b),.lit (.int .i64 s.id.c),.lit (.string s.name),.lit (.int .i64 s.typ.k),.lit (.int .i64 s.typ.id.a),.lit (.int .i64 s.typ.id.b),.lit (.int .i64 s.typ.id.c),.sl s.typ.kids.length (jQ s.typ.kids),.lit (.int .i64 s.most),.lit (.int .i64 s.place)]
theorem sS(s:Slt):qY (j8 s):=by have h1:=y9 s.typ.kids;exact⟨by simp[j8,h1.1],fun rf g=>by simp[j8,h1.2]⟩
def jS(l:List Slt):wE:=l.flatMap j8
theorem gX(l:List Slt):jS l=l.flatMap j8:=rfl
structure Dfn where
 id:Id
 kind:Int
 mod:Id
 name:ByteArray
 slots:List Slt
 res:Typ
 body:Exp
 place:Int
 lay:List ByteArray
abbrev wQ:=List Dfn
def zJ(d:Dfn):wE:=[.lit (.int .i64 d.id.a),.lit (.int .i64 d.id.b),.lit (.int .i64 d.id.c),.lit (.int .i64 d.kind),.lit (.int .i64 d.mod.a),.lit (.int .i64 d.mod.b),.lit (.int .i64 d.mod.c),.lit (.string d.name),.sl d.slots.length (jS d.slots),.lit (.int .i64 d.res.k),.lit (.int .i64 d.res.id.a),.lit (.int .i64 d.res.id.b),.lit (.int .i64 d.res.id.c),.sl d.res.kids.length (jQ d.res.kids),.lit (.int .i64 d.body.id.a),.lit (.int .i64 d.body.id.b),.lit (.int .i64 d.body.id.c),.lit (.int .i64 d.body.k),.lit (.int .i64 d.body.n),.lit (.int .i64 d.body.ref.a),.lit (.int .i64 d.body.ref.b),.lit (.int .i64 d.body.ref.c),.lit (.int .i64 d.body.typ.k),.lit (.int .i64 d.body.typ.id.a),.lit (.int .i64 d.body.typ.id.b),.lit (.int .i64 d.body.typ.id.c),.sl d.body.typ.kids.length (jQ d.body.typ.kids),.sl d.body.kids.length (qT d.body.kids),.sl d.body.names.length (yR d.body.names),.lit (.int .i64 d.place),.sl d.lay.length (yR d.lay)]
theorem bV(d:Dfn):qY (zJ d):=by have h1:=y9 d.res.kids;have h2:=y9 d.body.typ.kids;have h3:=gV d.body.kids;have h4:=eT d.body.names;have h5:=eT d.lay;have h6:=dL sS d.slots;exact⟨by simp[zJ,jS,h1.1,h2.1,h3.1,h4.1,h5.1,h6.1],fun rf g=>by simp[zJ,jS,h1.2,h2.2,h3.2,h4.2,h5.2,h6.2]⟩
def z6(l:wQ):wE:=l.flatMap zJ
theorem dY(l:wQ):z6 l=l.flatMap zJ:=rfl
structure Md where
 id:Id
 name:ByteArray
 uses:List Id
 defs:List Id
def oF(m:Md):wE:=[.lit (.int .i64 m.id.a),.lit (.int .i64 m.id.b),.lit (.int .i64 m.id.c),.lit (.string m.name),.sl m.uses.length (zT m.uses),.sl m.defs.length (zT m.defs)]
theorem zA9(m:Md):qY (oF m):=by have h1:=eO m.uses;have h2:=eO m.defs;exact⟨by simp[oF,h1.1,h2.1],fun rf g=>by simp[oF,h1.2,h2.2]⟩
def qH(l:List Md):wE:=l.flatMap oF
theorem xM(l:List Md):qH l=l.flatMap oF:=rfl
structure Prg where
 mods:List Md
 defs:List Dfn
def zP(p:Prg):wE:=[.sl p.mods.length (qH p.mods),.sl p.defs.length (z6 p.defs)]
theorem eP(p:Prg):zP p=[.sl p.mods.length (qH p.mods),.sl p.defs.length (z6 p.defs)]:=rfl
@[simp]theorem zX2(l:wS):jT (jQ l)=jQ l:=(y9 l).1
@[simp]theorem qCs{rf g}(l:wS):vwL rf g (jQ l)=jQ l:=(y9 l).2 _ _
@[simp]theorem zYJ:jQ []=[]:=by rw[mC];rfl
theorem qI(x:Typ)(l:wS):jQ (x::l)=zB x++jQ l:=by rw[mC,mC];rfl
theorem pZ(l l':wS):jQ (l++l')=jQ l++jQ l':=by simp only[mC,jBr]
@[simp]theorem zYI(l:wS):(jQ l).length=l.length*5:=by rw[mC,gH (k:=5) (fun _=>rfl)]
variable{i:Nat}
theorem mU(h:i<l.length):(jQ l).drop (i*5)=zB l[i]++jQ (l.drop (i+1)):=by rw[mC,mC,fL (k:=5) (fun _=>rfl) h]
@[simp]theorem qFG(d:Typ):(zB d).length=5:=rfl
@[simp]theorem qFF(d:Typ):(zB d).take 5=zB d:=jA9 (jA _)
@[simp]theorem qBf(d:Typ)(l:wE):(zB d++l).take 5=zB d:=by rw[jC (by simp)];exact jA9 (by simp)
@[simp]theorem qBC(d:Typ):jT (zB d)=zB d:=(zEG d).1
@[simp]theorem qKs(d:Typ) {rf g}:vwL rf g (zB d)=zB d:=(zEG d).2 _ _
@[simp]theorem zXv(l:wG):jT (qT l)=qT l:=(gV l).1
@[simp]theorem qCl{rf g}(l:wG):vwL rf g (qT l)=qT l:=(gV l).2 _ _
@[simp]theorem zY5:qT []=[]:=by rw[gU];rfl
theorem zQ(x:Exp)(l:wG):qT (x::l)=zI x++qT l:=by rw[gU,gU];rfl
theorem zGj(l l':wG):qT (l++l')=qT l++qT l':=by simp only[gU,jBr]
@[simp]theorem zY4(l:wG):(qT l).length=l.length*15:=by rw[gU,gH (k:=15) (fun _=>rfl)]
theorem y5{l:wG}(h:i<l.length):(qT l).drop (i*15)=zI l[i]++qT (l.drop (i+1)):=by rw[gU,gU,fL (k:=15) (fun _=>rfl) h]
theorem bT{l:wG}(h:i<l.length):qT (l.take (i+1))=qT (l.take i)++zI l[i]:=by rw[gU,gU,lJ (k:=15) (fun _=>rfl) h]
@[simp]theorem qF6(d:Exp):(zI d).length=15:=rfl
@[simp]theorem qF5(d:Exp):(zI d).take 15=zI d:=jA9 (jA _)
@[simp]theorem qAZ(d:Exp)(l:wE):(zI d++l).take 15=zI d:=by rw[jC (by simp)];exact jA9 (by simp)
@[simp]theorem qB7(d:Exp):jT (zI d)=zI d:=(zA7 d).1
@[simp]theorem qKn(d:Exp) {rf g}:vwL rf g (zI d)=zI d:=(zA7 d).2 _ _
theorem zBr(l:List Slt):qY (jS l):=dL sS l
@[simp]theorem zX1(l:List Slt):jT (jS l)=jS l:=(zBr l).1
@[simp]theorem qCr{rf g}(l:List Slt):vwL rf g (jS l)=jS l:=(zBr l).2 _ _
@[simp]theorem zYH:jS []=[]:=by rw[gX];rfl
theorem mT(x:Slt)(l:List Slt):jS (x::l)=j8 x++jS l:=by rw[gX,gX];rfl
theorem pY(l l':List Slt):jS (l++l')=jS l++jS l':=by simp only[gX,jBr]
@[simp]theorem zYG(l:List Slt):(jS l).length=l.length*11:=by rw[gX,gH (k:=11) (fun _=>rfl)]
theorem qZ{l:List Slt}(h:i<l.length):(jS l).drop (i*11)=j8 l[i]++jS (l.drop (i+1)):=by rw[gX,gX,fL (k:=11) (fun _=>rfl) h]
theorem zCv{l:List Slt}(h:i<l.length):jS (l.take (i+1))=jS (l.take i)++j8 l[i]:=by rw[gX,gX,lJ (k:=11) (fun _=>rfl) h]
@[simp]theorem qFE(d:Slt):(j8 d).length=11:=rfl
@[simp]theorem qFD(d:Slt):(j8 d).take 11=j8 d:=jA9 (jA _)
@[simp]theorem qBe(d:Slt)(l:wE):(j8 d++l).take 11=j8 d:=by rw[jC (by simp)];exact jA9 (by simp)
@[simp]theorem qBB(d:Slt):jT (j8 d)=j8 d:=(sS d).1
@[simp]theorem qKr(d:Slt) {rf g}:vwL rf g (j8 d)=j8 d:=(sS d).2 _ _
theorem sJ(l:wQ):qY (z6 l):=dL bV l
@[simp]theorem zXu(l:wQ):jT (z6 l)=z6 l:=(sJ l).1
@[simp]theorem qCk{rf g}(l:wQ):vwL rf g (z6 l)=z6 l:=(sJ l).2 _ _
@[simp]theorem zY3:z6 []=[]:=by rw[dY];rfl
theorem u4(x:Dfn)(l:wQ):z6 (x::l)=zJ x++z6 l:=by rw[dY,dY];rfl
theorem zAh(l l':wQ):z6 (l++l')=z6 l++z6 l':=by simp only[dY,jBr]
@[simp]theorem zLH(l:wQ):(z6 l).length=l.length*31:=by rw[dY,gH (k:=31) (fun _=>rfl)]
theorem yG{l:wQ}(h:i<l.length):(z6 l).drop (i*31)=zJ l[i]++z6 (l.drop (i+1)):=by rw[dY,dY,fL (k:=31) (fun _=>rfl) h]
theorem zCt{l:wQ}(h:i<l.length):z6 (l.take (i+1))=z6 (l.take i)++zJ l[i]:=by rw[dY,dY,lJ (k:=31) (fun _=>rfl) h]
theorem zLI{l:wQ}(x:Dfn)(h:i<l.length):(z6 l).take (i*31)++(zJ x++(z6 l).drop (i*31+31))=z6 (l.set i x):=by rw[dY,dY,zJD (k:=31) (fun _=>rfl) x h]
@[simp]theorem zJ3(d:Dfn):(zJ d).length=31:=rfl
@[simp]theorem qF4(d:Dfn):(zJ d).take 31=zJ d:=jA9 (jA _)
@[simp]theorem qAY(d:Dfn)(l:wE):(zJ d++l).take 31=zJ d:=by rw[jC (by simp)];exact jA9 (by simp)
@[simp]theorem qB6(d:Dfn):jT (zJ d)=zJ d:=(bV d).1
@[simp]theorem qKm(d:Dfn) {rf g}:vwL rf g (zJ d)=zJ d:=(bV d).2 _ _
theorem sO(l:List Md):qY (qH l):=dL zA9 l
@[simp]theorem zXz(l:List Md):jT (qH l)=qH l:=(sO l).1
@[simp]theorem qCp{rf g}(l:List Md):vwL rf g (qH l)=qH l:=(sO l).2 _ _
@[simp]theorem zYB:qH []=[]:=by rw[xM];rfl
theorem gF(x:Md)(l:List Md):qH (x::l)=oF x++qH l:=by rw[xM,xM];rfl
@[simp]theorem zYA(l:List Md):(qH l).length=l.length*6:=by rw[xM,gH (k:=6) (fun _=>rfl)]
@[simp]theorem qFC(d:Md):(oF d).length=6:=rfl
@[simp]theorem qFB(d:Md):(oF d).take 6=oF d:=jA9 (jA _)
@[simp]theorem qBd(d:Md)(l:wE):(oF d++l).take 6=oF d:=by rw[jC (by simp)];exact jA9 (by simp)
@[simp]theorem qBA(d:Md):jT (oF d)=oF d:=(zA9 d).1
@[simp]theorem qKq(d:Md) {rf g}:vwL rf g (oF d)=oF d:=(zA9 d).2 _ _
def Typ.zero:Typ:=.mk 0 Id.zero []
def Exp.zero:Exp:=.mk Id.zero 0 0 Id.zero Typ.zero [] []
def Dfn.zero:Dfn:=⟨Id.zero,0,Id.zero,⟨#[]⟩,[],Typ.zero,Exp.zero,0,[]⟩
end Go.Proofs.YtdnelmeboihpkaaGreatDoor
namespace Go.Abs
def Pan(P:Program)(f:FuncId)(args:wE) (U0:St)(v:Value):Prop:=aG P f args U0 fun o _=>o=.pan v
section
variable{P:Program}{n0:Nat}{Qp:Value->wK}{Qd:Value->St->Prop}{K':wK}{env:Env} {U:St}{d:wC}
variable{f:FuncId}{U0:St}{v:Value}{Q:Out->St->Prop}
theorem Pan.mono{args:wE} (h:Pan P f args U0 v)(hq:∀τ,Q (.pan v) τ):aG P f args U0 Q:=fun H L w vs h1 h2=>(h H L w vs h1 h2).mono fun e w' hh=>by obtain⟨o,U',H',L',g1,g2,rfl⟩:=hh;exact⟨_,U',H',L',g1,g2,hq U'⟩
variable{rs:List RS}
theorem rZ{fn:Func}{c:Code}{k:K}(hf:P.funcs[f]?=some fn)(hb:fn.body=some c)(hc:zS P fn.ntmps c=some k.erase)(hr:lS P fn.results.toList=some rs)
 {args:wE} {U:St}(h:wpF P k rs args U fun o _=>o=.pan v):Pan P f args U v:=uY hf hb hc hr h
theorem bL{hint:Nat->Option wD}{fn:Func}{c:Code}{k:K}(hf:P.funcs[f]?=some fn)(hb:fn.body=some c)(hc:qM P fn.ntmps hint c=some k.erase)(hr:lS P fn.results.toList=some rs)
 {args:wE} {U:St}(h:wpF P k rs args U fun o _=>o=.pan v):Pan P f args U v:=sI hf hb hc hr h
theorem zJm{args args':wE} (h:Pan P f args U0 v)(js:wA)(hd:js.Nodup)(ho:aB U j9 (qR js) js U0)(ha:dS js args' args)
 (hq:∀τ:St,Q (.pan v) (jF U js τ)):aG P f args' U Q :=
 zCr (C:=fun vs w R=>Calls P f vs.toArray w R) (zAw P f) (Q0:=fun o _=>o=.pan v) h js hd ho ha fun o U1 h0=>by subst h0;exact hq _
theorem zBm{args args':wE} (h:Pan P f args U0 v)(js:wA)(hd:js.Nodup)(ho:aB U j9 (qR js) js U0)(ha:dS js args' args)
 (hq:∀τ:St,Qp v env (jF U js τ)):aG P f args' U (outK d env K' Qp):=zJm h js hd ho ha fun τ=>by simpa[outK]using hq τ
theorem nM{args args':wE} (h:Pan P f args U0 v)(js:wA)(hd:js.Nodup)(ho:aB U j9 (qR js) js U0)(ha:dS js args' args)
 (hq:∀τ:St,Qd v (jF U js τ)):zCi P Qd U d K' f args' env:=zJm h js hd ho ha fun τ=>.inr ⟨v,rfl,hq τ⟩
theorem iL{args args':wE} {U1:St}{r:A}(h:Ret P f args U0 r U1)(js:wA)(hd:js.Nodup)(ho:aB U j9 (qR js) js U0)(ha:dS js args' args)
 (hq:K' (env.put d (ren js U.length r)) (jF U js (U1.map (cP js U.length)))):zCi P Qd U d K' f args' env:=cS h js hd ho ha (.inl ⟨_,rfl,hq⟩)
theorem mI{α:Type}:∀{js:wA} {s t:List α} {x:Nat},x<s.length->x∉js->(jF s js t)[x]?=s[x]?
 |[],s,t,x,hx,_=>by simp[jF,jAl hx]
 |j::js,s,[],x,_,_=>by simp[jF]
 |j::js,s,o::os,x,hx,hn=>by simp only[jA3,not_or]at hn;simp only[jF];rw[mI (by simpa using hx) hn.2,jAa (Ne.symm hn.1)]
end
end Go.Abs
namespace Go.Abs
mutual
theorem zYj{k:Nat}:∀(a:A),(vw j9 (fun _=>none) a=a)->a.bnd k=true
 | .any,_=>by simp
 | .nil,_=>by simp
 | .lit _,_=>by simp
 | .agg cs,h=>by simp at h;simp[nL cs h]
 | .tup cs,h=>by simp at h;simp[nL cs h]
 | .sl _ cs,h=>by simp at h;simp[nL cs h]
 | .fsl _ cs,h=>by simp at h;simp[nL cs h]
 | .rptr cs,h=>by simp at h;simp[nL cs h]
 | .ptr l _,h=>by simp at h
 | .row l _,h=>by simp at h
 | .rwp l _ _,h=>by simp at h
 | .win l _ _ _ _,h=>by simp[zOJ]at h
 | .map l,h=>by simp at h
 | .clo _ fs cs,h=>by simp at h;simp[nL fs h.1,nL cs h.2]
theorem nL{k:Nat}:∀(cs:wE),(vwL j9 (fun _=>none) cs=cs)->eJ k cs=true
 |[],_=>by simp
 |c::cs,h=>by simp at h;simp[zYj c h.1,nL cs h.2]
end
theorem qY.bnd{cs:wE}(h:qY cs)(k:Nat):eJ k cs=true:=nL cs (h.2 _ _)
def shL(m:Nat)(ks:wA):wA:=List.range m++ks.map fun k=>m+k
variable{m:Nat}
theorem zI8{l:Nat}{ks:wA}(h:l<m):qR (shL m ks) l=some l:=zAL (vV h)
theorem zHx{m k:Nat}:∀ks:wA,qR (ks.map fun k=>m+k) (m+k)=qR ks k
 |[]=>rfl
 |x::ks=>by
  simp only[jAg,zAM];by_cases h:k=x
  .simp[h]
  .rw[if_neg (by omega),if_neg h,zHx ks]
@[simp]theorem zPP{m k:Nat}{ks:wA}:qR (shL m ks) (m+k)=(qR ks k).map (m + ·):=by unfold shL;rw[zCS (by simp),zHx,List.length_range];cases qR ks k<;>simp[jCj]
@[simp]theorem zZM{ks:wA}:qR (shL m ks) m=(qR ks 0).map (m + ·):=by
 have:=zPP (m:=m) (k:=0) (ks:=ks)
 simpa using this
theorem zCZ{ks:wA}(h:ks.Nodup):(shL m ks).Nodup:=by
 unfold shL;rw[jCu];refine⟨List.nodup_range,?_,fun a ha b hb=>?_⟩
 .exact List.Pairwise.map _ (fun a b hab e=>hab (Nat.add_left_cancel e)) h
 .obtain⟨k,_,rfl⟩:=jAd.1 hb;rw[jBx]at ha;omega
theorem zOt{c:Nat}{ks:wA}(h:∀j,j<c->ks[j]?=some j):∀i,i<m+c->(shL m ks)[i]?=some i:=by
 intro i hi;unfold shL;by_cases hm:i<m
 .rw[jAl (by simpa using hm),List.getElem?_range hm]
 .rw[jAy (by simp;omega),List.length_range,jC0,h (i-m) (by omega)];simp;omega
theorem zHA{U:St}{rf:Bool->Nat->Nat->A}{g:Nat->wC}:∀{ks js:wA} {a b:St},aB U rf g ks a->aB U rf g js b->aB U rf g (ks++js) (a++b)
 |[],_,[],_,_,h=>h
 |k::ks,js,x::a,b,h,h'=>⟨h.1,zHA h.2 h'⟩
 |[],_,_::_,_,h,_=>h.elim
 |_::_,_,[],_,h,_=>h.elim
theorem zDF{m:Nat}{S own:St}(hS:S.length=m){rf:Bool->Nat->Nat->A}{g:Nat->wC}:∀{ks:wA} {a:St},aB own rf g ks a->aB (S++own) rf g (ks.map fun k=>m+k) a
 |[],[],_=>trivial
 |k::ks,x::a,h=>by simp only[jAg,aB];refine⟨?_,zDF hS h.2⟩;rw[aR hS];exact h.1
 |[],_::_,h=>h.elim
 |_::_,[],h=>h.elim
variable{rf:Bool->Nat->Nat->A}
theorem zIG{S own own':St}(h:Cl m S){ks:wA}(ho:aB own rf (qR (shL m ks)) ks own'):aB (S++own) rf (qR (shL m ks)) (shL m ks) (S++own'):=by refine zHA ?_ (zDF h.1 ho);have:=zFI (rf:=rf) (g:=qR (shL m ks)) (m:=m) (fun l hl=>zI8 hl) (U:=S++own) 0 S (by rw[h.1];omega) (fun i o hi=>by rw[jB1,jAl (jA4.1 hi).1];exact hi) h.2;rw[h.1,<-List.range_eq_range']at this;exact this
@[simp]theorem qHY{g:Nat->wC}:vwO rf g .dead=.dead:=rfl
@[simp]theorem qBO{js:wA}{n:Nat}:cP js n .dead=.dead:=rfl
section
variable{P:Program}{n0:Nat}{Qp:Value->wK}{K':wK}{env:Env}{d:wC}
theorem zHC{m c:Nat}{S own own':St}(h:Cl m S)(hn:n0=m+c)(ks:wA)(fuel:Nat){l:List (Nat×A)}(hk:∀j,j<c->ks[j]?=some j)(hd:ks.Nodup)
 (ho:aB own (seen (S++own) (qR (shL m ks)) fuel) (qR (shL m ks)) ks own')
 (hl:∀p∈l,p.2=vw (seen (S++own) (qR (shL m ks)) fuel) (qR (shL m ks)) (env p.1)\/p.2=nrm0 (vw (seen (S++own) (qR (shL m ks)) fuel) (qR (shL m ks)) (env p.1))):b9 n0 (qV l) (S++own') env (S++own) :=
 zM (shL m ks) fuel (by subst hn;exact zOt hk) (zCZ hd) (zIG h ho) hl
theorem zCY{m c n:Nat}{r r':A}{S own own':St}(h:Cl m S)(hn:n=m+c)(ks:wA)(fuel:Nat)(hk:∀j,j<c->ks[j]?=some j)(hd:ks.Nodup)
 (ho:aB own (seen (S++own) (qR (shL m ks)) fuel) (qR (shL m ks)) ks own')
 (hr:r=vw (seen (S++own) (qR (shL m ks)) fuel) (qR (shL m ks)) r'\/r=nrm0 (vw (seen (S++own) (qR (shL m ks)) fuel) (qR (shL m ks)) r')):uQ n r (S++own') (.ret r') (S++own) :=
 zG (shL m ks) fuel (by subst hn;exact zOt hk) (zCZ hd) (zIG h ho) hr
theorem zJg:∀{js ks:wA} {n k:Nat},back (js++ks) n (js.length+k)=back ks n k
 |[],ks,n,k=>by simp
 |j::js,ks,n,k=>by
  have e:(j::js).length+k=js.length+k+1:=by simp;omega
  rw[e];simp only[jBj,back];exact zJg
theorem zG3:∀{js ks:wA} {n l:Nat},l<js.length->back (js++ks) n l=back js n l
 |[],_,_,l,h=>by simp at h
 |j::js,ks,n,0,h=>rfl
 |j::js,ks,n,l+1,h=>by simp only[jBj,back];exact zG3 (by simpa using h)
@[simp]theorem zQY{m k n:Nat}{ks:wA}:back (shL m ks) n (m+k)=back (ks.map fun k=>m+k) n k:=by
 have:=zJg (js:=List.range m) (ks:=ks.map fun k=>m+k) (n:=n) (k:=k)
 rwa[List.length_range]at this
@[simp]theorem qAM{m n:Nat}{ks:wA}:back (shL m ks) n m=back (ks.map fun k=>m+k) n 0:=by
 have:=zQY (m:=m) (k:=0) (n:=n) (ks:=ks)
 simpa using this
theorem zJh{m l n:Nat}{ks:wA}(h:l<m):back (shL m ks) n l=l:=by unfold shL;rw[zG3 (by simpa using h),zEv h]
theorem zAN{α:Type}:∀{js ks:wA} {s a b:List α},a.length=js.length->jF s (js++ks) (a++b)=jF (jF s js a) ks b
 |[],ks,s,[],b,_=>by simp[jF]
 |j::js,ks,s,x::a,b,h=>by simp only[jBj,jF];exact zAN (by simpa using h)
 |[],_,_,_::_,_,h=>by simp at h
 |_::_,_,_,[],_,h=>by simp at h
theorem zBS{m:Nat}{S:St}(hS:S.length=m):∀{ks:wA} {own t:St},jF (S++own) (ks.map fun k=>m+k) t=S++jF own ks t
 |[],own,t=>by simp[jF]
 |k::ks,own,[]=>by simp[jF]
 |k::ks,own,x::t=>by simp only[jAg,jF];rw[cZ hS];exact zBS hS
theorem zRk{m:Nat}{S S' own o0 o1:St}(h:Cl m S)(h':Cl m S'){f:FuncId}{args args':wE}{r:A}(hr:Ret P f args (S++o0) r (S'++o1))(ks:wA)(hd:ks.Nodup)
 (ho:aB own j9 (qR (shL m ks)) ks o0)(ha:dS (shL m ks) args' args)
 (hq:K' (env.put d (ren (shL m ks) (m+own.length) r)) (S'++jF own ks (o1.map (cP (shL m ks) (m+own.length))))):aG P f args' (S++own) (outK d env K' Qp):=by
 refine zW hr (shL m ks) (zCZ hd) (zIG h ho) ha ?_;have hlen:(S++own).length=m+own.length:=by rw[jA5,h.1]
 rw[hlen,jBs];have e:S'.map (cP (shL m ks) (m+own.length))=S':=by
  conv=>rhs;rw[<-List.map_id S']
  exact jC6 fun o ho=>by simp only[cP,id];exact zIQ (fun l hl=>by rw[zJh hl]) o (h'.2 o ho)
 rw[e];have hput:jF (S++own) (shL m ks) (S'++o1.map (cP (shL m ks) (m+own.length)))=S'++jF own ks (o1.map (cP (shL m ks) (m+own.length))):=by have h0:=zAP (own:=own) 0 [] rfl (by rw[h.1,h'.1]:S'.length=S.length);rw[h.1,<-List.range_eq_range']at h0;simp only[jBy]at h0;unfold shL;rw[zAN (by rw[h'.1,List.length_range]),h0];exact zBS h'.1
 rw[hput];exact hq
end
end Go.Abs
namespace Go.Proofs.YtdnelmeboihpkaaGreatDoor
section
variable(marked:wF)(x:Id)
def pU:List Edg->List Id->wF
 |[],M=>M
 |e::l,M=>pU l (if e.fro=x/\e.to∉M/\e.to∉marked then M++[e.to]else M)
theorem zG2(e:Edg):∀(l:wU) (M:wF),pU marked x (l++[e]) M=(if e.fro=x/\e.to∉pU marked x l M/\e.to∉marked then pU marked x l M++[e.to]else pU marked x l M)
 |[],M=>rfl
 |a::l,M=>by simp only[jBj,pU];exact zG2 e l _
theorem zBe:∀(l:wU) (M:wF),∃N,pU marked x l M=M++N
 |[],M=>⟨[],by simp[pU]⟩
 |e::l,M=>by
  simp only[pU];split
  .obtain⟨N,h⟩:=zBe l (M++[e.to]);exact⟨e.to::N,by rw[h];simp⟩
  .exact zBe l M
variable{marked x}
theorem zHU:∀(l:wU) {M:wF},M.Nodup->(pU marked x l M).Nodup
 |[],_,h=>h
 |e::l,M,h=>by
  simp only[pU];split
  .rename_i hc;refine zHU l ?_;rw[jCu];refine⟨h,by simp,fun a ha b hb=>?_⟩;rw[jAp]at hb;subst hb;exact fun e=>hc.2.1 (e▸ha)
  .exact zHU l h
theorem zJa:∀(l:wU) (M:wF) (e:Edg),e∈l->e.fro=x->e.to∈pU marked x l M\/e.to∈marked
 |a::l,M,e,he,hx=>by
  simp only[pU];rcases jA3.1 he with rfl|he
  .obtain⟨N,h⟩:=zBe marked x l (if e.fro=x/\e.to∉M/\e.to∉marked then M++[e.to]else M);rw[h];by_cases h1:e.to∈M
   .exact .inl (by split<;>simp[h1])
   .by_cases h2:e.to∈marked
    .exact .inr h2
    .exact .inl (by rw[if_pos ⟨hx,h1,h2⟩];simp)
  .exact zJa l _ e he hx
theorem zJb:∀(l:wU) (M:wF) (y:Id),y∈pU marked x l M->y∈M\/∃e∈l,e.fro=x/\e.to=y/\y∉marked
 |[],M,y,h=>.inl h
 |a::l,M,y,h=>by
  simp only[pU]at h;rcases zJb l _ y h with h|⟨e,he,h1,h2,h3⟩
  .split at h
   .rename_i hc;rcases jAc.1 h with h|h
    .exact .inl h
    .rw[jAp]at h;subst h;exact .inr ⟨a,by simp,hc.1,rfl,hc.2.2⟩
   .exact .inl h
  .exact .inr ⟨e,by simp[he],h1,h2,h3⟩
end
structure Bfs(L:List Edg)(to:Id)(marked:List Id)(fro:Id)(M:List Id)(k:Nat):Prop where
 nd:M.Nodup
 first:fro∈M
 from_:∀y∈M,y=fro\/∃e∈L,e.to=y
 back:∀y∈M,Rchs L to marked y->Rchs L to marked fro
 not_:∀j (hj:j<M.length),j<k->M[j]≠to
 closed:∀j (hj:j<M.length),j<k->∀e∈L,e.fro=M[j]->e.to∈M\/e.to∈marked
 le:k<=M.length
theorem Bfs.start(L:wU)(to:Id)(marked:wF)(fro:Id):Bfs L to marked fro [fro] 0 :=
 ⟨by simp,by simp,by simp,by simp,by omega,by omega,by simp⟩
variable{L:wU}{to fro:Id}{marked M:wF}
theorem Bfs.len{k:Nat}(h:Bfs L to marked fro M k):M.length<=L.length+1:=by
 have:=h.nd.length_le_of_subset (l₂:=fro::L.map (·.to)) fun y hy=>by
  rcases h.from_ y hy with rfl|⟨e,he,rfl⟩
  .simp
  .simp only[jA3,jAd];exact .inr ⟨e,he,rfl⟩
 simpa using this
theorem Bfs.next{k:Nat}(h:Bfs L to marked fro M k)(hk:k<M.length)(hne:M[k]≠to):Bfs L to marked fro (pU marked M[k] L M) (k+1):=by
 obtain⟨N,hN⟩:=zBe marked M[k] L M;have hall:=zJa (marked:=marked) (x:=M[k]) L M;have hmem:=zJb (marked:=marked) (x:=M[k]) L M;have hnd:=zHU (marked:=marked) (x:=M[k]) L h.nd;rw[hN]at hall hmem hnd ⊢;refine⟨hnd,jBk _ h.first,fun y hy=>?_,fun y hy hr=>?_,fun j hj hjk=>?_,fun j hj hjk e he hx=>?_,by simp;omega⟩
 .rcases hmem y hy with hy|⟨e,he,_,h2,_⟩
  .exact h.from_ y hy
  .exact .inr ⟨e,he,h2⟩
 .rcases hmem y hy with hy|⟨e,he,h1,h2,h3⟩
  .exact h.back y hy hr
  .refine h.back _ (jA0 hk) ?_;rw[<-h1];exact .step e he (by rw[h2];exact h3) (by rw[h2];exact hr)
 .rw[jBl (by omega)];by_cases hjk':j=k
  .subst hjk';exact hne
  .exact h.not_ j (by omega) (by omega)
 .rw[jBl (by omega)]at hx;by_cases hjk':j=k
  .subst hjk';exact hall e he hx
  .rcases h.closed j (by omega) (by omega) e he hx with h'|h'
   .exact .inl (jBk _ h')
   .exact .inr h'
theorem Bfs.yes{k:Nat}(h:Bfs L to marked fro M k)(hk:k<M.length)(he:M[k]=to):Rchs L to marked fro :=
 h.back _ (jA0 hk) (he▸.here)
theorem Bfs.no{k:Nat}(h:Bfs L to marked fro M k)(hk:k=M.length):¬Rchs L to marked fro:=by
 intro hr;have key:∀y,Rchs L to marked y->y∈M->to∈M:=by
  intro y hy;induction hy with
  |here=>exact fun h=>h
  |step e he hn _ ih =>
   intro hm;obtain⟨j,hj,e'⟩:=jAn hm;rcases h.closed j hj (by omega) e he e'.symm with h'|h'
   .exact ih h'
   .exact(hn h').elim
 obtain⟨j,hj,e⟩:=jAn (key fro hr h.first);exact h.not_ j hj (by omega) e
end Go.Proofs.YtdnelmeboihpkaaGreatDoor
namespace Go.Proofs.YtdnelmeboihpkaaGreatDoor
open Go.Abs
def zLv:K:=G [kMn 2] (Z (G [M 3 0,⟨none,.isz (some 4) false (kt 3)⟩] (Y 4 (G [kMn 2] kr) ks)) (G [kd 5 31 3 0 [] [],M 6 0,kP 7 31 3 24 5 6,M 2 7] kr))
theorem zRc:kw f100 zLv:=my (by kernel_rfl)
def sM(Ls:List wF):wE:=Ls.map fun l=>A.sl l.length (zT l)
theorem sN:∀(Ls:List wF),qY (sM Ls)
 |[]=>qY.nil
 |l::Ls=>by
  have h1:=sN Ls;have h2:=eO l;refine⟨?_,fun rf g=>?_⟩
  .show jT (A.sl l.length (zT l)::sM Ls)=_;simp[h1.1];rfl
  .show vwL rf g (A.sl l.length (zT l)::sM Ls)=_;simp[h1.2];rfl
@[simp]theorem zXy(l:List wF):jT (sM l)=sM l:=(sN l).1
@[simp]theorem qCo{rf g}(l:List wF):vwL rf g (sM l)=sM l:=(sN l).2 _ _
@[simp]theorem zY9(l:List wF):(sM l).length=l.length:=by simp[sM]
end Go.Proofs.YtdnelmeboihpkaaGreatDoor
namespace Go.Proofs.YtdnelmeboihpkaaGreatDoor
open Go.Abs
def uK{α:Type}(same : α->α->Bool):List α->List α->Bool
 |[],[]=>true
 |x::a,y::b=>same x y&&uK same a b
 |_,_=>false
theorem zEq{α:Type}{same : α->α->Bool}:∀{a b:List α},a.length≠b.length->uK same a b=false
 |[],[],h=>(h rfl).elim
 |x::a,y::b,h=>by simp only[uK,zEq (a:=a) (b:=b) (by simpa using h),Bool.and_false]
 |[],_::_,_=>rfl
 |_::_,[],_=>rfl
theorem uR{α:Type}{same : α->α->Bool}:∀{a b:List α} (hl:a.length=b.length),uK same a b=true↔∀(j:Nat) (h:j<a.length),same a[j] (b[j]'(hl▸h))=true
 |[],[],_=>by simp[uK]
 |x::a,y::b,hl=>by
  simp only[uK,jA7,uR (a:=a) (b:=b) (by simpa using hl)];constructor
  .rintro⟨h1,h2⟩ j h;cases j with
   |zero=>exact h1
   |succ j=>exact h2 j (by simpa using h)
  .intro h;exact⟨h 0 (by simp),fun j hj=>h (j+1) (by simpa using hj)⟩
 |[],_::_,hl=>by simp at hl
 |_::_,[],hl=>by simp at hl
theorem zUw(g:FuncId)(hcal:zC prog g=true)(same:Typ->Typ->Bool)(a b:wS)(h:∀x∈a,∀y∈b,mv g [.agg (zB x),.agg (zB y)] [] (bl (same x y)) []) :
 mv 140 [.sl a.length (jQ a),.sl b.length (jQ b),.clo g [] []] [] (bl (uK same a b)) []:=by
 refine ml [] [.slot 6] func140 (by kernel_rfl) ?_
 (conv in kq _ _=>cbv)
 by_cases hab:a.length=b.length
 .simp[hab];intro hlb;refine qK (S:=Nat) (fun i=>[(1,.sl b.length (jQ b)),(2,.clo g [] []),(15,.sl a.length (jQ a)),(16,int a.length),(17,int i)]) (fun s=>[]) (fun i=>i<=a.length/\∀(j:Nat) (h:j<a.length),j<i->same a[j] (b[j]'(hab▸h))=true) (fun i=>a.length-i) 0 (by simp)
   (mu [] 0 (by rfl) (by simp[hab])) ?_
  rintro i ⟨hi,hn⟩;by_cases hia:i<a.length
  .have hib:i<b.length:=by omega
   have hla:i*5<a.length*5:=by omega
   have hlb':i*5<b.length*5:=by omega
   simp[hia,hib,mU hia,mU hib,hcal,zB];refine mq (h a[i] (jA0 hia) b[i] (jA0 hib)) (by simp[zB]) ?_;cases hs:same a[i] b[i]with
   |true =>
    simp;exact zO (i+1) ⟨hia,fun j hj hji=>by
     by_cases e:j=i
     .subst e;exact hs
     .exact hn j hj (by omega)⟩ (by omega) (mu [] 0 (by rfl) (by simp[z8 hib hlb]))
   |false =>
    have hf:uK same a b=false:=by
     cases hh:uK same a b with
     |false=>rfl
     |true=>have:=(uR hab).1 hh i hia;rw[hs]at this;cases this
    simp;exact zA 0 (by simp[hf])
  .have hil:i=a.length:=by omega
   subst hil;have ht:uK same a b=true:=(uR hab).2 fun j hj=>hn j hj hj
   simp;exact zA 0 (by simp[ht])
 .have hab':¬(a.length:Int)=b.length:=by omega
  simp[hab'];exact fun _ _=>zA 0 (by simp[zEq hab])
end Go.Proofs.YtdnelmeboihpkaaGreatDoor
namespace Go.Abs
section
variable{P:Program}{n0:Nat}
def zAd(H:Mem)(L:wM)(w:World)(N:Nat)(Q:Ex->wK)(dfs:List Deferred):Exit->Act->World->Prop:=fun e a' w' =>
 ∃x env' U' H' L',e=x.exit?/\a'.defers=dfs/\qO H' L' N env' a'.tmps/\Nxt H L w H' L' U' w'/\Q x env' U'
variable{N:Nat}{w:World}{H:Mem}{L:wM}{Q:Ex->wK}{dfs:List Deferred}
theorem zAd.next{H':Mem}{L':wM} {U':St}{w':World}(hn:Nxt H L w H' L' U' w'){e:Exit}{b:Act}{v:World}(h:zAd H' L' w' N Q dfs e b v):zAd H L w N Q dfs e b v:=by obtain⟨x,env'',U'',H'',L'',h1,h2,h3,h4,h5⟩:=h;exact⟨x,env'',U'',H'',L'',h1,h2,h3,hn.trans h4,h5⟩
theorem zAd.post{e:Exit}{b:Act}{v:World}(h:zAd H L w N Q dfs e b v):zAt H L w N Q dfs e b v:=by obtain⟨x,env'',U'',H'',L'',h1,h2,h3,h4,h5⟩:=h;exact⟨x,env'',U'',H'',L'',h1,h2▸Mk.refl _ _ _,h3,h4,h5⟩
theorem uE{N:Nat}{ro:wC}{ops:Array Oper}(hall:∀o∈ops.toList,∀x,o.dst=some x->x<N){Q:Ex->wK}{dfs:List Deferred}{Qc:Exit->Act->World->Prop} :
 ∀(l:List Oper) (gs:List KG) {H:Mem} {L:wM} {U:St} {w:World} {env:Env} {a:Act},zDg P N ops l gs->qO H L N env a.tmps->RelSt H L U w->a.defers=dfs ->
  lY P (fun v=>Q (.pan v)) (Q .norm) gs env U->(∀e b v,zAd H L w N Q dfs e b v->Qc e b v)->wpListIn (Wr ro) 0 P ops Qc l a w
 |[],gs,H,L,U,w,env,a,hc,he,hs,hd,h,hQ=>by simp only[zDg]at hc;subst hc;exact hQ _ _ _ ⟨.norm,env,U,H,L,rfl,hd,he,Nxt.refl hs,h⟩
 |o::l,gs,H,L,U,w,env,a,hc,he,hs,hd,h,hQ=>by
  simp only[zDg]at hc;obtain⟨g,gs',rfl,hg,hgs⟩:=hc;obtain⟨hk,hdst,hgd⟩:=aJ hg;have hkd:=bZ hk;have hke:g.erase.op.dst=g.op.dst:=by show g.op.erase.dst=g.op.dst;cases g.op<;>rfl
  rw[hke]at hkd;simp only[lY]at h;have exec:wpO P (fun v=>Q (.pan v)) (lY P (fun v=>Q (.pan v)) (Q .norm) gs') g.op env U->o.wpIn (Wr ro) 0 P a w (wpListIn (Wr ro) 0 P ops Qc l) Qc:=by
   intro h;refine oB hk hdst he hs h (fun env' U' H' L' a' w' h1 h2 h3 h4=>?_) (fun v U' H' L' w' h1 h2=>?_)
   .exact uE hall l gs' hgs h2 h3.st (h1.trans hd) h4 fun e b v hp=>hQ e b v (hp.next h3)
   .exact hQ _ _ _ ⟨.pan v,env,U',H',L',rfl,hd,he.mono h1.step.hle h1.lle,h1,h2⟩
  have skip:lY P (fun v=>Q (.pan v)) (Q .norm) gs' (env.put g.op.dst (.lit undef)) U->wpListIn (Wr ro) 0 P ops Qc l (a.put o.dst undef) w:=by intro h;refine uE hall l gs' hgs ?_ hs ((jH _ _).trans hd) h hQ;rw[hkd];exact he.put hdst (by simp[Rel])
  unfold wpListIn;have hge:g.erase.guard=g.guard:=rfl;rw[hge]at hgd;rcases hgd with ⟨ho,hgn⟩|⟨j,want,s,ho,hsl,hgn⟩
  .simp only[wpG,hgn]at h;have hw:Region.wanted o (yielded ops a.tmps)=true:=by simp[Region.wanted,ho]
   rw[if_pos hw];exact exec h
  .simp only[wpG,hgn]at h;have hsN:=s8 hsl hall;obtain⟨w1,w2⟩:=nN (a:=a) ho hsl (jCb hsN he.1);have hrel:=he.2 s;split at h
   .rename_i b hb;rw[hb]at hrel;simp only[Rel]at hrel;rw[w1 b hrel];by_cases hbw:b=want
    .simp only[hbw,decide_true,if_true];exact exec (h.1 (by simp[hbw]))
    .simp only[hbw,decide_false,jAk,if_false];exact⟨fun _ _=>trivial,skip (h.2 (by simp[hbw]))⟩
   .rename_i t ht;rw[ht]at hrel;simp only[Rel]at hrel;rw[w2 t hrel];simp only[jAk,if_false];exact⟨fun _ _=>trivial,skip h⟩
   .exact h.elim
variable{hint:Nat->Option wD}{U:St}{env:Env}{a:Act}{ops:Array Oper}{Qc:Exit->Act->World->Prop}
theorem zF8{id:Nat}{l:List KG}(hc:qM P N hint (.region id ops false)=some (K.ops l).erase)
 (he:qO H L N env a.tmps)(hs:RelSt H L U w)(h:wpK P n0 (.ops l) Q env U)(hQ:∀e b v,zAd H L w N Q a.defers e b v->Qc e b v):(Code.region id ops false).wpIn Fence.wide 0 P Qc a w:=by
 simp only[qM,K.erase]at hc;split at hc<;>try(cases hc;done)
 rename_i l' hl;simp only[jAk,if_false,jA2,K.ops.injEq]at hc;subst hc;simp only[wpK]at h;have hall:∀o∈ops.toList,∀x,o.dst=some x->x<N:=by
  obtain⟨hlen,hget⟩:=lG hl;intro o ho;obtain⟨i,hi⟩:=jCv ho;have hlt:i<(l.map KG.erase).length:=by rw[hlen];exact(jA4.1 hi).1
  exact(aJ (hget i o _ hi (jA1 hlt))).2.1
 exact wpIn_region_list (uE (ro:=none) (Q:=Q) (dfs:=a.defers) hall ops.toList l (zE5 hl) he hs rfl h hQ)
theorem mR{ops:Array Oper}{N:Nat}{ro:wC}{all:List (Nat×Nat×KG)}(hc:Comp P N ops all)(hall:∀o∈ops.toList,∀x,o.dst=some x->x<N){Q:Ex->wK}{dfs:List Deferred}{Qc:Exit->Act->World->Prop} :
 ∀(fuel:Nat) (listed:Array Bool) {H:Mem} {L:wM} {U:St} {w:World} {env:Env} {a:Act},qO H L N env a.tmps->RelSt H L U w->a.defers=dfs ->
  uC P (zFw Q) ops all (Q .norm) fuel listed env U->(∀e b v,zAd H L w N Q dfs e b v->Qc e b v)->wpAnyIn (Wr ro) 0 P .any ops Qc fuel listed a w
 | 0,listed,H,L,U,w,env,a,he,hs,hd,h,hQ=>⟨h.1,hQ _ _ _ ⟨.norm,env,U,H,L,rfl,hd,he,Nxt.refl hs,h.2⟩⟩
 |fuel+1,listed,H,L,U,w,env,a,he,hs,hd,h,hQ=>by
  refine⟨fun h0=>hQ _ _ _ ⟨.norm,env,U,H,L,rfl,hd,he,Nxt.refl hs,h.1 h0⟩,fun i hi=>?_⟩;obtain⟨_,o,ho,_⟩:=mem_ready.1 hi;rcases h.2 i hi with ⟨f,g,r,U1,hg,hy,hK⟩|⟨f8,d,fo,args,hf8,hg,hcn⟩
  rotate_left
  .have hcg:=hc.get i f8 o _ ho hg;obtain⟨hk,hdst,hgd⟩:=aJ hcg;unfold wpOpIn;simp only[ho];rcases hgd with ⟨hog,hgn⟩|⟨j,want,s,hog,hsl,hgn⟩
   .have hw:Region.wanted o (yielded ops a.tmps)=true:=by simp[Region.wanted,hog]
    rw[if_pos hw];refine oB (k:=.call d fo args) (Qp:=fun v _ τ=>zFw Q v τ) (K:=fun env' τ=>uC P (zFw Q) ops all (Q .norm) fuel (listed.setIfInBounds i true) env' τ) hk hdst he hs ?_ (fun env' U' H' L' a' w' h1 h2 h3 h4=>?_) (fun v U' H' L' w' h1 h2=>hQ _ _ _ ⟨.pan v,env,U',H',L',rfl,hd,he.mono h1.step.hle h1.lle,h1,h2 env⟩)
    .simp only[wpO];unfold zEy at hcn;split at hcn
     .rename_i g first cap hfo
      simp only[hfo];refine⟨hcn.1,fun H L w vs h3 h4=>(hcn.2 H L w vs h3 h4).mono fun e w' hh=>?_⟩;obtain⟨o,U',H',L',g1,g2,hh⟩:=hh;refine⟨o,U',H',L',g1,g2,?_⟩;rcases hh with ⟨r,rfl,g4,g5⟩|⟨v,rfl,g4⟩
      .exact g5
      .exact g4
     .exact hcn.elim
    .exact mR hc hall fuel _ h2 h3.st (h1.trans hd) h4 fun e b v hp=>hQ e b v (hp.next h3)
   .cases hgn
  have hcg:=hc.get i f o g ho hg;obtain⟨hk,hdst,hgd⟩:=aJ hcg;have hkd:=bZ hk;rw[show g.erase.op.dst=g.op.dst from xO _]at hkd;unfold wpOpIn;simp only[ho];have exec:eff P env U r U1 g.op->o.wpIn (Wr ro) 0 P a w (wpAnyIn (Wr ro) 0 P .any ops Qc fuel (listed.setIfInBounds i true)) Qc:=by intro hq;refine oB (k:=g.op) (Qp:=fun _ _ _=>False) hk hdst he hs (zGf hq) (fun env' U' H' L' a' w' h1 h2 h3 h4=>?_) (fun v U' H' L' w' h1 h2=>h2.elim);obtain⟨h4,h5⟩:=h4;subst h4;subst h5;exact mR hc hall fuel _ h2 h3.st (h1.trans hd) hK fun e b v hp=>hQ e b v (hp.next h3)
  have skip:r=.lit undef->U1 = U->wpAnyIn (Wr ro) 0 P .any ops Qc fuel (listed.setIfInBounds i true) (a.put o.dst undef) w:=by rintro rfl rfl;refine mR hc hall fuel _ ?_ hs ((jH _ _).trans hd) hK hQ;rw[hkd];exact he.put hdst (by simp[Rel])
  replace hy:=hy.1;unfold i7 at hy;rcases hgd with ⟨hog,hgn⟩|⟨j,want,s,hog,hsl,hgn⟩
  .replace hgn:g.guard=none:=hgn;simp only[hgn]at hy;have hw:Region.wanted o (yielded ops a.tmps)=true:=by simp[Region.wanted,hog]
   rw[if_pos hw];exact exec hy
  .replace hgn:g.guard=some (s,want):=hgn;simp only[hgn]at hy;have hsN:=s8 hsl hall;obtain⟨w1,w2⟩:=nN (a:=a) hog hsl (jCb hsN he.1);have hrel:=he.2 s;split at hy
   .rename_i b hb;rw[hb]at hrel;simp only[Rel]at hrel;rw[w1 b hrel];by_cases hbw:b=want
    .simp only[hbw,decide_true,if_true];exact exec (hy.1 hbw)
    .simp only[hbw,decide_false,jAk,if_false];exact⟨fun _ _=>trivial,skip (hy.2 hbw).1 (hy.2 hbw).2⟩
   .rename_i t ht;rw[ht]at hrel;simp only[Rel]at hrel;rw[w2 t hrel];simp only[jAk,if_false];exact⟨fun _ _=>trivial,skip hy.1 hy.2⟩
   .exact hy.elim
variable{l:List (Nat×Nat×KG)}
theorem zNq{ro:wC}{id:Nat}{gs:List KG}(hm:P.follows .mixedOrders=true)(hB:zE9 ops l=true)(hlo:pL ops ops.toList gs=true)(hc:iH P N ops ops.toList=some gs)(hl:∀x∈l,∃g,gs[x.1]?=some g/\x.2.2.erase=g.erase)
 (he:qO H L N env a.tmps)(hs:RelSt H L U w)(hd:a.defers=dfs)
 (h:wpD P (zFw Q) (Q .norm) l env U)(hQ:∀e b v,zAd H L w N Q dfs e b v->Qc e b v):(Code.region id ops true).wpIn (Wr ro) 0 P Qc a w:=by
 obtain⟨hlen,hget⟩:=lG hc;have hcm:Comp P N ops l:=⟨fun i f o g ho hg=>by obtain⟨g0,h1,h2⟩:=hl (i,f,g) hg;have h3:=hget i o g0 (by simpa using ho) h1;rw[show g.erase=g0 from h2.trans (lF h3)];exact h3⟩
 have hf:Fits ops l:=⟨fun i f o g ho hg=>(xO g.op).symm.trans (bZ (aJ (hcm.get i f o g ho hg)).1),fun i f o g ho hg=>by obtain⟨g0,h1,h2⟩:=hl (i,f,g) hg;have h3:=hget i o g0 (by simpa using ho) h1;have h4:=vR hlo i o g0 (by simpa using ho) h1;rw[<-zDv,show g.erase=g0 from h2.trans (lF h3)];exact h4⟩
 have hall:∀o∈ops.toList,∀x,o.dst=some x->x<N:=by
  intro o ho;obtain⟨i,hi⟩:=jCv ho;have hlt:i<gs.length:=by rw[hlen];exact(jA4.1 hi).1
  exact(aJ (hget i o _ hi (jA1 hlt))).2.1
 simp only[zE9,jA7,beq_iff_eq]at hB;obtain⟨⟨hB,hsz⟩,_⟩:=hB;refine wpIn_region_any hm ?_;have hs':RelSt H L U {w with drawn:=w.drawn+1}:=hs.heap_eq rfl;have hlex:=oV hf l (Array.replicate ops.size false) env U (fun _ hx=>hx) hB h;rw[hsz]at hlex;have hn:Nxt H L w H L U {w with drawn:=w.drawn+1}:=⟨hs',⟨rfl,rfl,rfl,jA _,fun _ _ _=>rfl,HLe.refl _,fun _ _ _ h=>.inl h,jCk _,fun _ _ h=>h⟩,LLe.refl _,fun _ h=>.inl h⟩;refine mR hcm hall _ _ he hs' hd hlex fun e b v hp=>hQ e b v ?_
 exact hp.next hn
theorem zKN{id:Nat}(hc:qM P N hint (.region id ops true)=some (K.dops l).erase)
 (he:qO H L N env a.tmps)(hs:RelSt H L U w)(h:wpK P n0 (.dops l) Q env U)(hQ:∀e b v,zAd H L w N Q a.defers e b v->Qc e b v):(Code.region id ops true).wpIn Fence.wide 0 P Qc a w:=by
 simp only[qM,K.erase]at hc;split at hc<;>try(cases hc;done)
 rename_i l' hl;simp only[if_true]at hc;split at hc<;>try(cases hc;done)
 rename_i r hr;split at hc<;>try(cases hc;done)
 rename_i hb;simp only[jA7]at hb;simp only[jA2,K.dops.injEq]at hc;subst hc;simp only[wpK]at h;have hmem:∀x∈r,∃g,l'[x.1]?=some g/\x.2.2.erase=g.erase:=fun x hx=>by
  split at hr
  .exact zCO hr hx
  .cases hr;exact⟨_,zDy hx,rfl⟩
 exact zNq (ro:=none) (Q:=Q) (dfs:=a.defers) hb.1.2 hb.1.1 hb.2 hl hmem he hs rfl h hQ
variable{rest:Code}
theorem zBX{id:Nat}{l:List KG}(hc:qM P N hint (.region id ops false)=some (K.ops l).erase)
 (he:qO H L N env a.tmps)(hs:RelSt H L U w)(h:wpK P n0 (.ops l) Q env U)
 (hQ:∀env' τ H' L' w' a',a'.defers=a.defers->qO H' L' N env' a'.tmps->Nxt H L w H' L' τ w'->Q .norm env' τ->rest.wpIn Fence.wide 0 P Qc a' w')
 (hX:∀x env' τ H' L' w' a',x≠.norm->a'.defers=a.defers->qO H' L' N env' a'.tmps->Nxt H L w H' L' τ w'->Q x env' τ->Qc x.exit? a' w'):(Code.seq (.region id ops false) rest).wpIn Fence.wide 0 P Qc a w:=by
 refine wpIn_seq (zF8 hc he hs h fun e b v hp=>?_);obtain⟨x,env',τ,H',L',rfl,g2,g3,g4,g5⟩:=hp;cases x with
 |norm=>exact hQ env' τ H' L' v b g2 g3 g4 g5
 |exit i=>exact hX _ env' τ H' L' v b (by simp) g2 g3 g4 g5
 |ret=>exact hX _ env' τ H' L' v b (by simp) g2 g3 g4 g5
 |pan v'=>exact hX _ env' τ H' L' v b (by simp) g2 g3 g4 g5
theorem zTi{id:Nat}(hc:qM P N hint (.region id ops true)=some (K.dops l).erase)
 (he:qO H L N env a.tmps)(hs:RelSt H L U w)(h:wpK P n0 (.dops l) Q env U)
 (hQ:∀env' τ H' L' w' a',a'.defers=a.defers->qO H' L' N env' a'.tmps->Nxt H L w H' L' τ w'->Q .norm env' τ->rest.wpIn Fence.wide 0 P Qc a' w')
 (hX:∀x env' τ H' L' w' a',x≠.norm->a'.defers=a.defers->qO H' L' N env' a'.tmps->Nxt H L w H' L' τ w'->Q x env' τ->Qc x.exit? a' w'):(Code.seq (.region id ops true) rest).wpIn Fence.wide 0 P Qc a w:=by
 refine wpIn_seq (zKN hc he hs h fun e b v hp=>?_);obtain⟨x,env',τ,H',L',rfl,g2,g3,g4,g5⟩:=hp;cases x with
 |norm=>exact hQ env' τ H' L' v b g2 g3 g4 g5
 |exit i=>exact hX _ env' τ H' L' v b (by simp) g2 g3 g4 g5
 |ret=>exact hX _ env' τ H' L' v b (by simp) g2 g3 g4 g5
 |pan v'=>exact hX _ env' τ H' L' v b (by simp) g2 g3 g4 g5
end
end Go.Abs
namespace Go.Proofs.YtdnelmeboihpkaaGreatDoor
open Go.Abs
inductive Val where
 |mk (k n:Int) (kids:List Val)
abbrev wI:=List Val
def Val.k:Val->Int | .mk k _ _=>k
def Val.n:Val->Int | .mk _ n _=>n
def Val.kids:Val->wI | .mk _ _ l=>l
mutual
def zAf:Val->A
 | .mk _ _ l=>.sl l.length (zR l)
def zR:List Val->wE
 |[]=>[]
 |v::l=>.lit (.int .i64 v.k)::.lit (.int .i64 v.n)::zAf v::zR l
end
def zF(v:Val):wE:=[.lit (.int .i64 v.k),.lit (.int .i64 v.n),.sl v.kids.length (zR v.kids)]
theorem zJq(v:Val):zAf v=.sl v.kids.length (zR v.kids):=by cases v;simp only[zAf,Val.kids]
@[simp]theorem zE2:zR []=[]:=by simp only[zR]
@[simp]theorem mV(v:Val)(l:wI):zR (v::l)=.lit (.int .i64 v.k)::.lit (.int .i64 v.n)::.sl v.kids.length (zR v.kids)::zR l:=by simp only[zR,zJq]
@[simp]theorem zLL:∀l:wI,(zR l).length=l.length*3
 |[]=>by simp
 |v::l=>by simp[zLL l];omega
mutual
theorem zJr:∀v:Val,nrm0 (zAf v)=zAf v/\∀rf g,vw rf g (zAf v)=zAf v
 | .mk k n l=>by have h:=eW l;simp only[zAf];exact⟨by simp[h.1],fun rf g=>by simp[h.2]⟩
theorem eW:∀l:wI,qY (zR l)
 |[]=>by simp only[zR];exact qY.nil
 |v::l=>by have h:=zJr v;have h':=eW l;simp only[zR];exact⟨by simp[h.1,h'.1],fun rf g=>by simp[h.2,h'.2]⟩
end
@[simp]theorem zX3(l:wI):jT (zR l)=zR l:=(eW l).1
@[simp]theorem qCt{rf g}(l:wI):vwL rf g (zR l)=zR l:=(eW l).2 _ _
theorem qL:∀{l:wI} {i:Nat} (h:i<l.length),(zR l).drop (i*3)=.lit (.int .i64 l[i].k)::.lit (.int .i64 l[i].n)::.sl l[i].kids.length (zR l[i].kids)::zR (l.drop (i+1))
 |v::l,0,h=>by simp
 |v::l,i+1,h=>by
  have e:(i+1)*3=i*3+3:=by omega
  rw[e,mV]
  simpa using qL (l:=l) (i:=i) (by simpa using h)
mutual
def qN:Val->Nat
 | .mk _ _ l=>1+j5 l
def j5:List Val->Nat
 |[]=>0
 |v::l=>qN v+j5 l
end
theorem oA:∀{l:wI} {v:Val},v∈l->qN v<=j5 l
 |x::l,v,h=>by
  simp only[j5];rcases jA3.1 h with rfl|h
  .omega
  .have:=oA h;omega
theorem aW{v x:Val}(h:x∈v.kids):qN x<qN v:=by
 cases v with
 |mk k n l=>have:=oA (l:=l) h;simp only[qN];omega
def sD:Val->Int
 | .mk _ _ l=>l.attach.foldl (fun s x=>w64 (s+sD x.1)) 1
termination_by v=>qN v
decreasing_by
 have:=oA x.2;simp only[qN];omega
def zFR(l:wI):Int:=l.foldl (fun s x=>w64 (s+sD x)) 1
theorem zFL(v:Val):sD v=zFR v.kids:=by
 cases v with
 |mk k n l =>
  rw[sD];simp only[Val.kids,zFR];rw[List.foldl_attach (f:=fun s x=>w64 (s+sD x))]
theorem zDb{l:wI}{i:Nat}(h:i<l.length):zFR (l.take (i+1))=IntKind.i64.wrap (zFR (l.take i)+sD l[i]):=by rw[zFR,jA6 h,jCe];rfl
def zM7(a b:Int):Int:=if a<b then b else a
def mF:Val->Int
 | .mk _ _ l=>w64 (l.attach.foldl (fun s x=>zM7 s (mF x.1)) 0+1)
termination_by v=>qN v
decreasing_by
 have:=oA x.2;simp only[qN];omega
def zFf(l:wI):Int:=l.foldl (fun s x=>zM7 s (mF x)) 0
theorem zCz(v:Val):mF v=w64 (zFf v.kids+1):=by
 cases v with
 |mk k n l =>
  rw[mF];simp only[Val.kids,zFf];rw[List.foldl_attach (f:=fun s x=>zM7 s (mF x))]
theorem zCG{l:wI}{i:Nat}(h:i<l.length):zFf (l.take (i+1))=zM7 (zFf (l.take i)) (mF l[i]):=by rw[zFf,jA6 h,jCe];rfl
theorem zAR(v:Val):mv 41 [.agg (zF v)] [] (int (sD v)) []:=by
 refine ml [] [.slot 2] func41 (by kernel_rfl) ?_
 (conv in kq _ _=>cbv)
 simp[zF];refine qK (S:=Nat) (fun i=>[(1,.ptr 0 0),(3,int (zFR (v.kids.take i))),(4,int i)]) (fun s=>[.box (zF v)]) (fun i=>i<=v.kids.length) (fun i=>v.kids.length-i) 0 (by simp)
  (mu [0] 0 (by rfl) (by simp[zF,zFR])) ?_
 intro i hi;by_cases h:i<v.kids.length
 .simp[zF,h,qL h];intro hl;refine mq (zAR v.kids[i]) (by simp[zF]) ?_;simp;exact zO (i+1) h (by omega) (mu [0] 0 (by rfl) (by simp[zF,z8 h hl,zDb h]))
 .have:i=v.kids.length:=by omega
  subst this;simp[zF];exact fun _=>zA 0 (by simp[zFL v])
termination_by qN v
decreasing_by exact aW (jA0 _)
theorem vX(v:Val):mv 42 [.agg (zF v)] [] (int (mF v)) []:=by
 refine ml [] [.slot 2] func42 (by kernel_rfl) ?_
 (conv in kq _ _=>cbv)
 simp[zF];refine qK (S:=Nat) (fun i=>[(1,.ptr 0 0),(3,int (zFf (v.kids.take i))),(4,int i)]) (fun s=>[.box (zF v)]) (fun i=>i<=v.kids.length) (fun i=>v.kids.length-i) 0 (by simp)
  (mu [0] 0 (by rfl) (by simp[zF,zFf])) ?_
 intro i hi;by_cases h:i<v.kids.length
 .simp[zF,h,qL h];intro hl;refine mq (vX v.kids[i]) (by simp[zF]) ?_;simp;exact zO (i+1) h (by omega) (mu [0] 0 (by rfl) (by simp[zF,z8 h hl,zCG h,zM7]))
 .have:i=v.kids.length:=by omega
  subst this;simp[zF];exact fun _=>zA 0 (by simp[zCz v,w64])
termination_by qN v
decreasing_by exact aW (jA0 _)
mutual
def gG:Val->Val->Int
 | .mk k n l,.mk k' n' l'=>if orI [bU k k',bU n n',bU l.length l'.length]≠0 then orI [bU k k',bU n n',bU l.length l'.length]else y6 l l'
def y6:List Val->List Val->Int
 |[],[]=>0
 |[],_::_=>-1
 |_::_,[]=>1
 |a::l,b::l'=>if gG a b≠0 then gG a b else y6 l l'
end
def dV(a b:Val):Int:=orI [bU a.k b.k,bU a.n b.n,bU a.kids.length b.kids.length]
theorem fR(a b:Val):gG a b=if dV a b≠0 then dV a b else y6 a.kids b.kids:=by cases a;cases b;rw[gG];rfl
theorem zE6(xs ys:wI)(h:∀a∈xs,∀b∈ys,mv 60 [.agg (zF a),.agg (zF b)] [] (int (gG a b)) []) :
 mv 103 [.sl xs.length (zR xs),.sl ys.length (zR ys),.clo 60 [] []] [] (int (y6 xs ys)) []:=by
 refine ml [] [.slot 6] func103 (by kernel_rfl) ?_
 (conv in kq _ _=>cbv)
 simp;intro hl;refine qK (S:=Nat) (fun i=>[(0,.sl xs.length (zR xs)),(1,.sl ys.length (zR ys)),(2,.clo 60 [] []),(11,.sl xs.length (zR xs)),(12,int xs.length),(13,int i)]) (fun s=>[])
  (fun i=>i<=xs.length/\i<=ys.length/\y6 xs ys=y6 (xs.drop i) (ys.drop i)) (fun i=>xs.length-i) 0 (by simp)
  (mu [] 0 (by rfl) (by simp)) ?_
 rintro i ⟨hi,hi',ho⟩;simp;refine qX (fun h1=>?_) (fun h1=>?_)<;>simp at h1
 .have hd:xs.drop i=xs[i]::xs.drop (i+1):=jAo h1;simp[h1,qL h1];intro hl';refine qX (fun h2=>?_) (fun h2=>?_)<;>simp at h2
  .simp;have hn:ys.drop i=[]:=jCf h2;exact zA 0 (by rw[ho,hd,hn];simp[y6])
  .have hd':ys.drop i=ys[i]::ys.drop (i+1):=jAo h2;simp[h2,qL h2];refine mq (h xs[i] (jA0 _) ys[i] (jA0 _)) (by simp[zF]) ?_;simp;refine qX (fun h3=>?_) (fun h3=>?_)<;>simp at h3
   .simp;exact zA 0 (by rw[ho,hd,hd'];simp[y6,h3])
   .simp;refine zO (i+1) ⟨h1,h2,by rw[ho,hd,hd'];simp[y6,h3]⟩ (by omega) (mu [] 0 (by rfl) (by simp[z8 h1 hl]))
 .have:i=xs.length:=by omega
  subst this;simp;have hn:xs.drop xs.length=[]:=by simp
  intro _ hl';refine qX (fun h2=>?_) (fun h2=>?_)<;>simp at h2
  .have hd':ys.drop xs.length=ys[xs.length]::ys.drop (xs.length+1):=jAo h2;simp;exact zA 0 (by rw[ho,hn,hd'];simp[y6])
  .have hn':ys.drop xs.length=[]:=jCf h2;simp;exact zA 0 (by rw[ho,hn,hn'];simp[y6])
theorem zEb(a b:Val):mv 60 [.agg (zF a),.agg (zF b)] [] (int (gG a b)) []:=by
 refine ml [] [.slot 4] func60 (by kernel_rfl) ?_
 (conv in kq _ _=>cbv)
 simp[zF];refine z7 (iN a.k b.k) (by simp) (by simp) ?_;simp;refine z7 (iN a.n b.n) (by simp) (by simp) ?_;simp;refine z7 (iN a.kids.length b.kids.length) (by simp) (by simp) ?_;simp;refine z7 (zSQ [bU a.k b.k,bU a.n b.n,bU a.kids.length b.kids.length]) (by simp) (by simp) ?_;simp;refine qX (fun h=>?_) (fun h=>?_)<;>simp at h
 .simp;exact zA 0 (by rw[fR];simp[dV,h])
 .simp;refine mq (zE6 a.kids b.kids fun x hx y hy=>zEb x y) (by simp) ?_;simp;exact zA 0 (by rw[fR];simp[dV,h])
termination_by qN a
decreasing_by exact aW hx
variable{a b:Int}
theorem zEa(h:a<b):bU a b = -1:=by simp[bU,h]
theorem zDZ(h:b<a):bU a b=1:=by simp[bU,h,Int.not_lt.2 (Int.le_of_lt h)]
theorem zDY(h:b<=a)(h':a<=b):bU a b=0:=by simp[bU,Int.not_lt.2 h,Int.not_lt.2 h']
theorem dO(a b:Val):mv 18 [.agg (zF a),.agg (zF b)] [] (int (gG a b)) []:=by
 refine ml [] [.slot 4] func18 (by kernel_rfl) ?_
 (conv in kq _ _=>cbv)
 simp[zF];intro hl hl';refine qK (S:=Nat) (fun i=>[(2,.ptr 0 0),(3,.ptr 1 0),(5,.sl 3 [int a.k,int a.n,int a.kids.length]),(6,.sl 3 [int b.k,int b.n,int b.kids.length]),(7,int i)])
  (fun s=>[.box [int a.k,int a.n,.sl a.kids.length (zR a.kids)],.box [int b.k,int b.n,.sl b.kids.length (zR b.kids)]])
  (fun i=>i<=3/\dV a b=orI (([bU a.k b.k,bU a.n b.n,bU a.kids.length b.kids.length]).drop i)) (fun i=>3-i) 0 (by simp[dV])
  (mu [0,1] 0 (by rfl) (by simp)) ?_
 rintro i ⟨hi,ho⟩;rcases (by omega:i=0\/i=1\/i=2\/i=3)with rfl|rfl|rfl|rfl
 .simp;refine qX (fun h1=>?_) (fun h1=>?_)<;>simp at h1
  .simp;exact zA 0 (by rw[fR,ho];simp[orI,zEa h1])
  simp;refine qX (fun h2=>?_) (fun h2=>?_)<;>simp at h2
  .simp;exact zA 0 (by rw[fR,ho];simp[orI,zDZ h2])
  simp;exact zO 1 ⟨by omega,by rw[ho];simp[orI,zDY h1 h2]⟩ (by omega) (m_ [0,1] 0 (by rfl) (by simp) (by simp;rfl))
 .simp;refine qX (fun h1=>?_) (fun h1=>?_)<;>simp at h1
  .simp;exact zA 0 (by rw[fR,ho];simp[orI,zEa h1])
  simp;refine qX (fun h2=>?_) (fun h2=>?_)<;>simp at h2
  .simp;exact zA 0 (by rw[fR,ho];simp[orI,zDZ h2])
  simp;exact zO 2 ⟨by omega,by rw[ho];simp[orI,zDY h1 h2]⟩ (by omega) (m_ [0,1] 0 (by rfl) (by simp) (by simp;rfl))
 .simp;refine qX (fun h1=>?_) (fun h1=>?_)<;>simp at h1
  .simp;exact zA 0 (by rw[fR,ho];simp[orI,zEa (Int.ofNat_lt.2 h1)])
  simp;refine qX (fun h2=>?_) (fun h2=>?_)<;>simp at h2
  .simp;exact zA 0 (by rw[fR,ho];simp[orI,zDZ (Int.ofNat_lt.2 h2)])
  simp;exact zO 3 ⟨by omega,by rw[ho];simp[orI,zDY (Int.ofNat_le.2 h1) (Int.ofNat_le.2 h2)]⟩ (by omega) (m_ [0,1] 0 (by rfl) (by simp) (by simp;rfl))
 have hlen:a.kids.length=b.kids.length:=by
  have h0:dV a b=0:=by rw[ho];rfl
  simp only[dV,orI]at h0;split at h0<;>try contradiction
  split at h0<;>try contradiction
  split at h0<;>try contradiction
  rename_i _ _ h;simp only[bU]at h;split at h
  .cases h
  .split at h
   .cases h
   .omega
 simp;refine qK (S:=Nat) (fun i=>[(2,.ptr 0 0),(3,.ptr 1 0),(8,int i)])
  (fun s=>[.box [int a.k,int a.n,.sl a.kids.length (zR a.kids)],.box [int b.k,int b.n,.sl b.kids.length (zR b.kids)]])
  (fun i=>i<=a.kids.length/\gG a b=y6 (a.kids.drop i) (b.kids.drop i)) (fun i=>a.kids.length-i) 0 ⟨by omega,by rw[fR,ho];simp[orI]⟩
  (mu [0,1] 0 (by rfl) (by simp)) ?_
 rintro i ⟨hi,ho⟩;simp;intro _;refine qX (fun h1=>?_) (fun h1=>?_)<;>simp at h1
 .have h2:i<b.kids.length:=by omega
  have hd:a.kids.drop i=a.kids[i]::a.kids.drop (i+1):=jAo h1;have hd':b.kids.drop i=b.kids[i]::b.kids.drop (i+1):=jAo h2;simp[h1,h2,qL h1,qL h2];refine z7 (dO a.kids[i] b.kids[i]) (by simp[zF]) (by simp) ?_;simp;refine qX (fun h3=>?_) (fun h3=>?_)<;>simp at h3
  .simp;exact zA 0 (by rw[ho,hd,hd'];simp[y6,h3])
  .simp;exact zO (i+1) ⟨h1,by rw[ho,hd,hd'];simp[y6,h3]⟩ (by omega) (mu [0,1] 0 (by rfl) (by simp[z8 h1 hl]))
 .simp;have e1:a.kids.drop i=[]:=jCf h1;have e2:b.kids.drop i=[]:=jCf (by omega);exact zA 0 (by rw[ho,e1,e2];simp[y6])
termination_by qN a
decreasing_by exact aW (jA0 _)
theorem zE1:∀{R:wF} {k:Nat} (x:Id),k<R.length->(zT R).take (k*3)++(.lit (.int .i64 x.a)::.lit (.int .i64 x.b)::.lit (.int .i64 x.c)::(zT R).drop (k*3+3))=zT (R.set k x)
 |v::R,0,x,h=>by simp
 |v::R,k+1,x,h=>by
  have e:(k+1)*3=k*3+3:=by omega
  have:=zE1 (R:=R) (k:=k) x (by simpa using h);rw[e,gE,List.set_cons_succ,gE,<-this];simp
def xI(n:Nat):wF:=List.replicate n Id.zero
theorem zBp:∀n:Nat,zT (xI n)=(List.replicate n [A.lit (.int .i64 0),A.lit (.int .i64 0),A.lit (.int .i64 0)]).flatten
 | 0=>rfl
 |n+1=>by have:=zBp n;simp only[xI,List.replicate_succ,List.flatten_cons]at this ⊢;rw[<-this];rfl
end Go.Proofs.YtdnelmeboihpkaaGreatDoor
