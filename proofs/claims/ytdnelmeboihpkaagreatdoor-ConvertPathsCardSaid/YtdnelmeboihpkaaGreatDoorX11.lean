/- An evaluator of small code at closed abstract states: code, functions, calls. -/
import Derived.Test.YtdnelmeboihpkaaGreatDoorX9
set_option linter.unusedVariables false
set_option maxHeartbeats 8000000
set_option maxRecDepth 100000
set_option linter.unusedSimpArgs false
open Go.Proofs.Tryz
namespace Go.Abs
section
variable{P:Program}{n0:Nat}
abbrev Run:=FuncId->List A->St->Option (A×St)
theorem zSy{env:Env} {U:St}:bQ n0 env (U++[AObj.rsv]) env U:=by
 intro H0 L0 w0 H L w N tmps h0 h1 h2;have hll:=LLe.append L [(⟨none,0,0,false⟩:LI)];refine⟨H,L++[(⟨none,0,0,false⟩:LI)],h1.trans ?_,h2.mono (HLe.refl _) hll⟩;have hs:=h1.st;refine⟨⟨hs.pers,by simp[hs.len],fun i l o hL hU=>?_,fun i j x y b hi hj hx hy=>?_,fun i x b hi hx=>?_⟩,Step.refl _ _ _,hll,fun b ⟨i,x,hi,hx⟩=>?_⟩
 .rcases jL hL with hL'|⟨rfl,rfl⟩
  .have hi:i<L.length:=(jA4.1 hL').1;rw[jAj (by rw[<-hs.len];exact hi)]at hU;exact(hs.obj i l o hL' hU).carry (fun _ _=>rfl) (HLe.refl _) hll (fun _ _ _=>rfl)
  .rw[hs.len]at hU;rw[jAw (jA _)]at hU;simp only[jBx,jB,jA2]at hU;subst hU;exact⟨rfl,rfl⟩
 .rcases jL hi with hi'|⟨rfl,rfl⟩
  .rcases jL hj with hj'|⟨rfl,rfl⟩
   .exact hs.inj i j x y b hi' hj' hx hy
   .cases hy
  .cases hx
 .rcases jL hi with hi'|⟨rfl,rfl⟩
  .exact hs.lt i x b hi' hx
  .cases hx
 .rcases jL hi with hi'|⟨rfl,rfl⟩
  .exact .inl ⟨i,x,hi',hx⟩
  .cases hx
theorem aG{env:Env}:∀(n:Nat) {U:St},bQ n0 env (U++List.replicate n AObj.rsv) env U
 | 0,U=>by simpa using bQ.refl n0 env U
 |n+1,U=>by
  have:=(zSy (n0:=n0) (env:=env) (U:=U)).trans (aG n);rw[List.replicate_succ]
  simpa using this
structure Entry where
 k:K
 rs:List RS
 frz:Bool
def zXG(f:Nat):List (Nat×Entry)->Option Entry
 |[]=>none
 |p::l=>bif Nat.beq f p.1 then some p.2 else zXG f l
end
end Go.Abs
namespace Go.Abs
section
variable{d:wC}{x v:Operand}{n f:Nat}{g:Bool}{env:Env} {U:St}
@[simp]theorem qFY(h1:1000<=f)(h2:f<2000):dI f (.st d x v n) env=vE (f-1000) (ev env x):=propext (zHF h1 h2)
@[simp]theorem qFV(h1:2000<=f)(h2:f<4000):dI f (.ld d x n g) env=eX (f-2000) (ev env x):=propext (vM h1 h2)
@[simp]theorem zT2{c l o:Nat}:vE c (.ptr l o)=(l<c):=rfl
@[simp]theorem zT1{c l o:Nat}:eX c (.ptr l o)=(c<=l):=rfl
@[simp]theorem qFI(h1:2<f):nK f U = U:=by unfold nK;rw[if_neg (by omega),if_neg (by omega)]
@[simp]theorem qFW{o:KOp}(h1:6<f)(h2:f<1000):dI f o env=True:=by
 unfold dI;split
 .omega
 .omega
 .rw[if_neg (by omega),if_neg (by omega),if_neg (by omega)]
end
section
variable{n0:Nat}{env:Env} {U:St}
variable{l:Nat}
theorem zET{nk:Nat}{fr:Bool}{es:List (wB×A)}(hl : U[l]?=some (.mp fr nk es)):bQ n0 env (U.set l (.mp false nk es)) env U:=by
 intro H0 L0 w0 H L w N tmps h0 h1 h2;have hs:=zCa (o':=.mp false nk es) h1.st hl (fun li hob=>by simp only[zV]at hob ⊢;obtain⟨g0,b,ents,ck,g1,g2,g3,_,g5⟩:=hob;exact⟨g0,b,ents,ck,g1,g2,g3,(fun h=>by cases h),g5⟩)
 exact⟨H,L,⟨hs,h1.step,h1.lle,h1.own⟩,h2⟩
variable{e:TypeId}{cs:wE}
theorem zS0{t m sz:Nat}{fz:Bool}(ht:env t=.row l m)(hl : U[l]?=some (.row fz e sz m cs)):bQ n0 (env.put (some t) (.win l m 0 m sz)) U env U:=by
 intro H0 L0 w0 H L w N tmps h0 h1 h2;refine⟨H,L,h1,h2.1,fun x=>?_⟩;simp only[zTY];split
 .rename_i hx;subst hx;have hr:=h2.2 x;rw[ht]at hr;simp only[Rel]at hr ⊢;obtain⟨g0,li,e1,e2,e3,hv⟩:=hr;refine⟨g0,li,e1,e2,e3,fun hn=>⟨jA _,?_⟩⟩;have hob:=h1.st.obj l li _ e1 hl;simp only[zV]at hob;obtain⟨_,_,_,hob⟩:=hob;rw[hv hn];rcases hob with ⟨hb,hz⟩|⟨b,cur,hb,_,k1,k2,_⟩
  .rw[hb];exact⟨none,0,by rw[hz],by omega,jB3 _,.inl rfl⟩
  .rw[hb];exact⟨_,_,rfl,k1,k2,.inr ⟨b,rfl,rfl,by simp⟩⟩
 .exact h2.2 x
theorem zRM{H:Mem}{L:wL}{w:World}(hs:RelSt H L U w){o o':AObj}(hl : U[l]?=some o)(h:∀li,L[l]?=some li->zV H L w li o->zV H L w li o'):RelSt H L (U.set l o') w:=by
 refine⟨hs.pers,by simp[hs.len],fun i x p hL hp=>?_,hs.inj,hs.lt⟩;by_cases hi:i=l
 .subst hi;rw[jAm (jA4.1 hl).1]at hp;cases hp;exact h x hL (hs.obj i x o hL hl)
 .rw[jA9 (Ne.symm hi)]at hp;exact hs.obj i x p hL hp
theorem zYk{H:Mem}{L:wL}{w:World}(hs:RelSt H L U w){l n sz:Nat}{li:LI}(hL:L[l]?=some li)(hr:li.isRow=true)(hU:U[l]?=some (.row false e sz n cs)) :
 Nxt H L w H (L.set l ⟨none,0,li.len+1,true⟩++[li]) (U.set l .dead++[AObj.row false e sz n cs]) w:=by
 have hll:=(oB (li':=(⟨none,0,li.len+1,true⟩:LI)) hL hr rfl (Nat.lt_succ_self _)).trans (LLe.append _ [li]);have hl:l<L.length:=(jA4.1 hL).1;have get:∀(i:Nat) x,(L.set l ⟨none,0,li.len+1,true⟩++[li])[i]?=some x->(i=l/\x.block=none)\/(i≠l/\L[i]?=some x)\/(i=L.length/\x=li):=by
  intro i x hx;rcases jL hx with hx|⟨rfl,rfl⟩
  .by_cases hi:i=l
   .subst hi;rw[jAm hl]at hx;cases hx;exact .inl ⟨rfl,rfl⟩
   .rw[jA9 (Ne.symm hi)]at hx;exact .inr (.inl ⟨hi,hx⟩)
  .exact .inr (.inr ⟨by simp,rfl⟩)
 have hob:=hs.obj l li _ hL hU;refine⟨⟨hs.pers,by simp[hs.len],fun i x o hx ho=>?_,fun i j x y b' hi hj hx hy=>?_,fun i x b' hi hx=>?_⟩,Step.refl _ _ _,hll,fun b' ⟨i,x,hi,hx⟩=>?_⟩
 .rcases get i x hx with ⟨rfl,_⟩|⟨hi,hx'⟩|⟨rfl,rfl⟩
  .rw[jAj (by rw[jBy,<-hs.len];exact hl),jAm (by rw[<-hs.len];exact hl)]at ho;cases ho;trivial
  .rw[jAj (by rw[jBy,<-hs.len];exact(jA4.1 hx').1),jA9 (Ne.symm hi)]at ho;exact(hs.obj i x o hx' ho).carry (fun _ _=>rfl) (HLe.refl _) hll (fun _ _ _=>rfl)
  .rw[hs.len,jAw (by simp)]at ho;simp only[jBy,jBx,jB,jA2]at ho;subst ho;exact hob.carry (fun _ _=>rfl) (HLe.refl _) hll (fun _ _ _=>rfl)
 .rcases get i x hi with ⟨_,h0⟩|⟨hi1,hi'⟩|⟨rfl,rfl⟩
  .rw[h0]at hx;cases hx
  .rcases get j y hj with ⟨_,h0⟩|⟨hj1,hj'⟩|⟨rfl,rfl⟩
   .rw[h0]at hy;cases hy
   .exact hs.inj i j x y b' hi' hj' hx hy
   .exact(hi1 (hs.inj i l x _ b' hi' hL hx hy)).elim
  .rcases get j y hj with ⟨_,h0⟩|⟨hj1,hj'⟩|⟨rfl,rfl⟩
   .rw[h0]at hy;cases hy
   .exact(hj1 (hs.inj j l y _ b' hj' hL hy hx)).elim
   .rfl
 .rcases get i x hi with ⟨_,h0⟩|⟨hi1,hi'⟩|⟨rfl,rfl⟩
  .rw[h0]at hx;cases hx
  .exact hs.lt i x b' hi' hx
  .exact hs.lt l _ b' hL hx
 .rcases get i x hi with ⟨_,h0⟩|⟨hi1,hi'⟩|⟨rfl,rfl⟩
  .rw[h0]at hx;cases hx
  .exact .inl ⟨i,x,hi',hx⟩
  .exact .inl ⟨l,_,hL,hx⟩
theorem zUr{j o l n sz:Nat}{ds:wE}(hj : U[j]?=some (.box ds))(ho:ds[o]?=some (.row l n))(hl : U[l]?=some (.row false e sz n cs)) :
 bQ n0 env ((U.set l .dead).set j (.box (ds.set o (.row U.length n)))++[AObj.row false e sz n cs]) env U:=by
 intro H0 L0 w0 H L w N tmps h0 h1 h2;have hjl:j≠l:=fun e=>by subst e;rw[hj]at hl;cases hl
 have hjlt:j < U.length:=(jA4.1 hj).1;have hllt:l < U.length:=(jA4.1 hl).1;have hLl:L[l]?=some (L[l]'(by rw[h1.st.len];exact hllt)):=jA0 _;generalize L[l]'(by rw[h1.st.len];exact hllt)=li at hLl;have hob:=h1.st.obj l li _ hLl hl;have hrow:li.isRow=true:=by simp only[zV]at hob;exact hob.1
 have hn:=zYk h1.st hLl hrow hl;have hj':(U.set l .dead++[AObj.row false e sz n cs])[j]?=some (.box ds):=by rw[jAj (by rw[jBy];exact hjlt),jA9 (Ne.symm hjl)];exact hj
 obtain⟨lj,hLj⟩:∃lj,L[j]?=some lj:=⟨_,jA0 (by rw[h1.st.len];exact hjlt)⟩;have hbj:=h1.st.obj j lj _ hLj hj;simp only[zV]at hbj;obtain⟨_,b0,vs0,e0,p1,p2,p3,_⟩:=hbj;obtain⟨v0,hv0,hr0⟩:=p3.get ho;simp only[Rel]at hr0;obtain⟨q0,li',q1,q2,q3,q4⟩:=hr0;rw[hLl]at q1;cases q1;have hs:=zRM (o':=.box (ds.set o (.row U.length n))) hn.st hj' (fun lx hlx hob=>by
  have hlj:lx=lj:=by rw[jAj (by rw[jBy,h1.st.len];exact hjlt),jA9 (Ne.symm hjl),hLj]at hlx;exact(jB5 hlx).symm
  subst hlj;simp only[zV]at hob ⊢;obtain⟨g0,b,vs,e',g1,g2,g3,g4,g5⟩:=hob;rw[p1]at g1;cases g1;rw[p2]at g2;cases g2;refine⟨g0,b0,vs0,e0,p1,p2,?_,g4,g5⟩;have hset:vs0=vs0.set o v0:=by
   apply jCe;intro i;by_cases hi:i=o
   .subst hi;rw[jAm (jA4.1 hv0).1,hv0]
   .rw[jA9 (Ne.symm hi)]
  rw[hset];refine g3.set o ?_;simp only[Rel];exact⟨q0,li,by rw[<-h1.st.len,jAw (by simp)];simp,q2,q3,q4⟩)
 rw[List.set_append_left _ _ (by rw[jBy];exact hjlt)]at hs;have hm:=h1.trans hn;exact⟨H,_,⟨hs,hm.step,hm.lle,hm.own⟩,h2.1,fun x=>Rel.mono (HLe.refl _) hn.lle _ (h2.2 x)⟩
end
end Go.Abs
namespace Go.Proofs.YtdnelmeboihpkaaGreatDoor
structure Edg where
 id:Id
 fro:Id
 to:Id
abbrev wR:=List Edg
section
variable(L:wR)(to:Id)
def yP:Nat->Id->List Id->List wF
 | 0,at_,_=>if at_=to then [[]]else []
 |n+1,at_,met=>if at_=to then [[]]else L.flatMap fun e=>if e.fro=at_/\e.to∉met then (yP n e.to (met++[e.to])).map (e.id::·)else []
inductive Rchs(met:List Id):Id->Prop
 |here:Rchs met to
 |step (e:Edg) (he:e∈L) (hn:e.to∉met) (h:Rchs met e.to):Rchs met e.fro
def o9(met:wF):Nat:=(L.filter fun e=>decide (e.to∉met)).length
variable{L to}
theorem gE{met:wF}{e:Edg}(he:e∈L)(hn:e.to∉met):o9 L (met++[e.to])<o9 L met:=by
 unfold o9;have h1:∀M:wR,(M.filter fun x=>decide (x.to∉met++[e.to])).length<=(M.filter fun x=>decide (x.to∉met)).length:=by
  intro M;induction M with
  |nil=>simp
  |cons x M ih =>
   rw[List.filter_cons,List.filter_cons];by_cases hx:x.to∈met
   .simp[hx];simpa using ih
   .by_cases hx2:x.to=e.to
    .simp[hx,hx2,hn];have:=ih;simp at this;omega
    .simp[hx,hx2]
     simpa using ih
 induction L with
 |nil=>cases he
 |cons x M ih =>
  rw[List.filter_cons,List.filter_cons];rcases jA1.1 he with rfl|he
  .have:=h1 M;simp[hn];simp at this;omega
  .have:=ih he;by_cases hx:x.to∈met
   .simp[hx];simpa using this
   .by_cases hx2:x.to=e.to
    .simp[hx,hx2,hn];simp at this;omega
    .simp[hx,hx2]
     simpa using this
variable{m:wF}{x:Id}
theorem Rchs.mono{m':wF}(hs:∀x∈m',x∈m)(h:Rchs L to m x):Rchs L to m' x:=by
 induction h with
 |here=>exact .here
 |step e he hn _ ih=>exact .step e he (fun h=>hn (hs _ h)) ih
theorem Rchs.last(w:Id)(h:Rchs L to m x):Rchs L to (m++[w]) x\/Rchs L to (m++[w]) w:=by
 induction h with
 |here=>exact .inl .here
 |step e he hn _ ih =>
  rcases ih with ih|ih
  .by_cases hw:e.to=w
   .exact .inr (hw▸ih)
   .exact .inl (.step e he (by simp[hn,hw]) ih)
  .exact .inr ih
theorem Rchs.own(h:Rchs L to m x):Rchs L to (m++[x]) x:=(h.last x).elim id id
theorem zDB:∀(n:Nat) (at_:Id) (met:wF),o9 L met<=n->(yP L to n at_ met≠[]↔Rchs L to met at_)
 | 0,at_,met,hn=>by
  unfold yP;split
  .rename_i h;subst h;simpa using Rchs.here
  .rename_i h;refine⟨fun h=>(h rfl).elim,fun hr=>?_⟩;cases hr with
   |here=>exact(h rfl).elim
   |step e he hm _ =>
    have:=gE he hm;omega
 |n+1,at_,met,hn=>by
  unfold yP;split
  .rename_i h;subst h;simpa using Rchs.here
  .rename_i h;constructor
   .intro hne;have hx:∃x,x∈L.flatMap fun e=>if e.fro=at_/\e.to∉met then (yP L to n e.to (met++[e.to])).map (e.id::·)else []:=List.exists_mem_of_ne_nil _ hne
    obtain⟨x,hx⟩:=hx;rw[List.mem_flatMap]at hx;obtain⟨e,he,hx⟩:=hx;split at hx
    .rename_i hc;have hlt:=gE he hc.2;have:=(zDB n e.to (met++[e.to]) (by omega)).1 (fun h0=>by rw[h0]at hx;simp at hx);rw[<-hc.1];exact .step e he hc.2 (this.mono (by simp +contextual))
    .simp at hx
   .intro hr h0;cases hr with
    |here=>exact h rfl
    |step e he hm hr =>
     have hlt:=gE he hm;have h1:=(zDB n e.to (met++[e.to]) (by omega)).2 hr.own;have h2:=(List.flatMap_eq_nil_iff.1 h0) e he;rw[if_pos ⟨rfl,hm⟩,List.map_eq_nil_iff]at h2;exact h1 h2
theorem xV{α β:Type}{f g : α->List β}:∀{M:List α},(∀e∈M,f e=g e)->M.flatMap f=M.flatMap g
 |[],_=>rfl
 |e::M,h=>by rw[jB9,jB9,h e (by simp),xV fun x hx=>h x (by simp[hx])]
theorem zKF:∀(n n':Nat) (at_:Id) (m m':wF),(∀x,x∈m↔x∈m')->o9 L m<=n->o9 L m<=n'->yP L to n at_ m=yP L to n' at_ m':=by
 intro n;induction n with
 |zero =>
  intro n' at_ m m' hm h0 _
  cases n' with
  |zero=>rfl
  |succ n' =>
   unfold yP;split
   .rfl
   .symm;rw[List.flatMap_eq_nil_iff];intro e he;rw[if_neg];rintro⟨_,h⟩;have:=gE he (fun h'=>h ((hm _).1 h'):e.to∉m);omega
 |succ n ih =>
  intro n' at_ m m' hm h1 h2
  cases n' with
  |zero =>
   unfold yP;split
   .rfl
   .rw[List.flatMap_eq_nil_iff];intro e he;rw[if_neg];rintro⟨_,h⟩;have:=gE he h;omega
  |succ n' =>
   unfold yP;split
   .rfl
   .have key:∀e∈L,(if e.fro=at_/\e.to∉m then (yP L to n e.to (m++[e.to])).map (e.id::·)else [])=(if e.fro=at_/\e.to∉m' then (yP L to n' e.to (m'++[e.to])).map (e.id::·)else []):=by
     intro e he;by_cases hc:e.fro=at_/\e.to∉m
     .have hlt:=gE he hc.2;rw[if_pos hc,if_pos ⟨hc.1,fun h=>hc.2 ((hm _).2 h)⟩,ih n' e.to (m++[e.to]) (m'++[e.to]) (by simp[hm]) (by omega) (by omega)]
     .rw[if_neg hc,if_neg fun h=>hc ⟨h.1,fun h'=>h.2 ((hm _).1 h')⟩]
    exact xV key
theorem zSm{α:Type}(n:Nat)(A B:List α):(A++B.take n).take n=(A++B).take n:=by rw[List.take_append,List.take_append,List.take_take,jAt (by omega)]
theorem zID(m:wF):o9 L m<=L.length:=jCi _ _
end
end Go.Proofs.YtdnelmeboihpkaaGreatDoor
namespace Go.Proofs.YtdnelmeboihpkaaGreatDoor
open Go.Abs
variable{x y:Id}
theorem vG:bP x y=true↔x.a<y.a\/(x.a=y.a/\(x.b<y.b\/(x.b=y.b/\x.c<y.c))):=by
 unfold bP;split
 .simp only[decide_eq_true_eq];omega
 .split
  .simp only[decide_eq_true_eq];omega
  .simp only[decide_eq_true_eq];omega
theorem vH:bP x y=false↔¬(x.a<y.a\/(x.a=y.a/\(x.b<y.b\/(x.b=y.b/\x.c<y.c)))):=by rw[<-vG];simp
theorem dZ(x:Id):bP x x=false:=by rw[vH];omega
theorem zC4{z:Id}(h:bP x y=true)(k:bP y z=true):bP x z=true:=by rw[vG]at *;omega
theorem nC(h:bP x y=false)(k:bP y x=false):x=y:=by
 rw[vH]at *
 rw[Id.eq_iff];omega
theorem zLk(h:bP x y=true):bP y x=false:=by rw[vG]at h;rw[vH];omega
theorem o5:zB5 x y<0↔bP x y=true:=by
 rw[vG];simp only[zB5,orI,bM]
 repeat' split
 all_goals omega
theorem nD:Ord zB5 where
 irrefl x:=by rw[o5,dZ];simp
 trans x y z h k:=by rw[o5]at *;exact zC4 h k
 ntrans x y z h k:=by
  rw[o5,jCn]at *
  rw[vH]at *;omega
 anti x y h k:=by
  rw[o5,jCn]at *
  exact nC h k
def SS(l:wF):Prop:=l.Pairwise fun x y=>bP x y=true
theorem pE{x y:Id}:∀{l:wF},y∈lV l x↔y∈l\/y=x
 |[]=>by simp[lV]
 |z::l=>by
  simp only[lV];split
  .simp only[jA1,pE (l:=l),or_assoc]
  .split
   .rename_i h;subst h;simp only[jA1];constructor
    .exact fun h=>.inl h
    .rintro(h|h)
     .exact h
     .exact .inl h
   .simp only[jA1];constructor
    all_goals
     rintro(h|h)
     .exact .inr h
     .exact .inl h
theorem zHi{x:Id}:∀{l:wF},SS l->SS (lV l x)
 |[],_=>by simp[lV,SS]
 |z::l,h=>by
  have h':=jBh.1 h;simp only[lV];split
  .rename_i hz;refine jBh.2 ⟨fun y hy=>?_,zHi h'.2⟩;rcases pE.1 hy with hy|rfl
   .exact h'.1 y hy
   .exact hz
  .rename_i hz;split
   .exact h
   .rename_i hne;have hxz:bP x z=true:=by
     cases hh:bP x z with
     |true=>rfl
     |false=>exact(hne (nC (by simpa using hz) hh)).elim
    refine jBh.2 ⟨fun y hy=>?_,h⟩;rcases jA1.1 hy with rfl|hy
    .exact hxz
    .exact zC4 hxz (h'.1 y hy)
theorem zDG:∀{l acc:wF},SS acc->SS (l.foldl lV acc)
 |[],_,h=>h
 |_::l,_,h=>zDG (l:=l) (zHi h)
theorem zBE{y:Id}:∀{l acc:wF},y∈l.foldl lV acc↔y∈acc\/y∈l
 |[],_=>by simp
 |x::l,acc=>by simp only[jBk,zBE (l:=l),pE,jA1,or_assoc]
theorem SS.unique:∀{l l':wF},SS l->SS l'->(∀x,x∈l↔x∈l')->l=l'
 |[],[],_,_,_=>rfl
 |[],y::l',_,_,h=>by have:=(h y).2 (jAs ..);simp at this
 |x::l,[],_,_,h=>by have:=(h x).1 (jAs ..);simp at this
 |x::l,y::l',h1,h2,h=>by
  have p1:=jBh.1 h1;have p2:=jBh.1 h2;have hxy:x=y:=by
   rcases jA1.1 ((h x).1 (jAs ..))with e|e
   .exact e
   .rcases jA1.1 ((h y).2 (jAs ..))with e'|e'
    .exact e'.symm
    .have a:=p2.1 x e;have b:=p1.1 y e';rw[zLk b]at a;cases a
  subst hxy
  congr 1
  refine SS.unique p1.2 p2.2 fun z=>?_
  constructor
  .intro hz;rcases jA1.1 ((h z).1 (jAo _ hz))with e|e
   .have:=p1.1 z hz;subst e;rw[dZ]at this;cases this
   .exact e
  .intro hz;rcases jA1.1 ((h z).2 (jAo _ hz))with e|e
   .have:=p2.1 z hz;subst e;rw[dZ]at this;cases this
   .exact e
theorem mK{α:Type}{motive:List α->Prop}(nil:motive [])(snoc:∀l y,motive l->motive (l++[y]))(l:List α):motive l:=by
 have h:∀r:List α,motive r.reverse:=fun r=>by
  induction r with
  |nil=>exact nil
  |cons a r ih=>rw[List.reverse_cons];exact snoc _ _ ih
 have:=h l.reverse
 rwa[List.reverse_reverse]at this
def zJW(acc:wF)(y:Id):wF:=if acc.getLast?=some y then acc else acc++[y]
def v6(l:wF):wF:=l.foldl zJW []
theorem xJ(l:wF)(y:Id):v6 (l++[y])=zJW (v6 l) y:=by simp[v6,jCf]
theorem zK9:∀(l:wF),(v6 l).getLast?=l.getLast?:=by
 intro l;induction l using mK with
 |nil=>rfl
 |snoc l y ih =>
  rw[xJ,zJW];split
  .rename_i h;rw[h];simp
  .simp
theorem zF5(l:wF):x∈v6 l↔x∈l:=by
 induction l using mK with
 |nil=>simp[v6]
 |snoc l y ih =>
  rw[xJ,zJW];split
  .rename_i h;have hy:y∈v6 l:=List.mem_of_getLast? h;simp only[ih,jAa,jAl];constructor
   .exact .inl
   .rintro(h|rfl)
    .exact h
    .exact ih.1 hy |> fun h=>h
  .simp[ih]
theorem zQe(l:wF)(h:l.Pairwise fun x y=>bP y x=false):SS (v6 l):=by
 induction l using mK with
 |nil=>simp[v6,SS]
 |snoc l y ih =>
  rw[jCt]at h;have hi:=ih h.1;rw[xJ,zJW];split
  .exact hi
  .rename_i hne;unfold SS;rw[jCt];refine⟨hi,by simp,fun z hz y' hy'=>?_⟩;simp only[jAl]at hy';subst hy';have hzl:=(zF5 l).1 hz;have h1:=h.2.2 z hzl y' (by simp);cases hh:bP z y' with
   |true=>rfl
   |false =>
    exfalso;have e:=nC hh h1;subst e;rw[zK9]at hne;have hl:l≠[]:=fun e=>by rw[e]at hzl;simp at hzl
    obtain⟨w,hw⟩:∃w,l.getLast?=some w:=⟨_,List.getLast?_eq_some_getLast hl⟩;have hwl:w∈l:=List.mem_of_getLast? hw;have h2:=h.2.2 w hwl z (by simp);have hwz:w=z\/bP w z=false:=by
     obtain⟨l',rfl⟩:∃l',l=l'++[w]:=List.getLast?_eq_some_iff.1 hw;rcases jAa.1 hzl with hz'|hz'
     .have:=h.1;rw[jCt]at this;exact .inr (this.2.2 z hz' w (by simp))
     .exact .inl (jAl.1 hz').symm
    have:w=z:=by
     rcases hwz with e|e
     .exact e
     .exact nC e h2
    subst this;exact hne hw
def zRV(l:wF):wF:=v6 (oH zB5 l)
theorem zLP(l:wF):(oH zB5 l).Perm l:=List.mergeSort_perm l _
theorem zHD(l:wF):(oH zB5 l).Pairwise fun x y=>bP y x=false:=by
 have h:=List.pairwise_mergeSort (le:=fun x y=>!decide (zB5 y x<0)) (fun a b c h1 h2=>by simp only[jBi,decide_eq_false_iff_not]at *;exact nD.ntrans c b a h2 h1)
  (fun a b=>by
   simp only[jB4,jBi,decide_eq_false_iff_not];by_cases h:zB5 b a<0
   .exact .inr fun h'=>nD.irrefl _ (nD.trans _ _ _ h h')
   .exact .inl h) l
 exact h.imp fun h=>by simp only[jBi,decide_eq_false_iff_not,o5,jCn]at h;exact h
theorem zEG{l:wF}:x∈zRV l↔x∈l:=by rw[zRV,zF5,(zLP l).mem_iff]
theorem zHA(l:wF):SS (zRV l):=zQe _ (zHD l)
theorem zUh(l:wF):zRV l=l.foldl lV [] :=
 SS.unique (zHA l) (zDG (by simp[SS])) fun x=>by rw[zEG,zBE];simp
@[simp]theorem qDK(d:Id):(zG d).take 3=zG d:=jAc (jA _)
@[simp]theorem qDL(d:Id):(zG d).length=3:=rfl
theorem zD9(d:Id):qP (zG d):=qP.lit (qP.lit (qP.lit qP.nil))
@[simp]theorem qAi(d:Id):jH (zG d)=zG d:=(zD9 d).1
@[simp]theorem qIy(d:Id) {rf g}:vwL rf g (zG d)=zG d:=(zD9 d).2 _ _
def zQu(s:ByteArray):wE:=[.lit (.string s)]
def yI(l:List ByteArray):wE:=l.flatMap zQu
theorem zKD(s:ByteArray):qP (zQu s):=qP.lit qP.nil
theorem dU(l:List ByteArray):qP (yI l):=cW zKD l
@[simp]theorem zWa(l:List ByteArray):jH (yI l)=yI l:=(dU l).1
@[simp]theorem qAP{rf g}(l:List ByteArray):vwL rf g (yI l)=yI l:=(dU l).2 _ _
@[simp]theorem zXk(l:List ByteArray):(yI l).length=l.length:=by rw[yI,fF (k:=1) (fun _=>rfl),Nat.mul_one]
@[simp]theorem zXl:yI []=[]:=rfl
inductive Typ where
 |mk (k:Int) (id:Id) (kids:List Typ)
abbrev wQ:=List Typ
def Typ.k:Typ->Int | .mk k _ _=>k
def Typ.id:Typ->Id | .mk _ d _=>d
def Typ.kids:Typ->wQ | .mk _ _ l=>l
variable{l:wQ}
@[simp]theorem Typ.k_mk{k:Int}{i:Id}:(Typ.mk k i l).k=k:=rfl
@[simp]theorem Typ.id_mk{k:Int}{i:Id}:(Typ.mk k i l).id=i:=rfl
@[simp]theorem Typ.kids_mk{k:Int}{i:Id}:(Typ.mk k i l).kids=l:=rfl
mutual
def zCn:Typ->A
 | .mk _ _ l=>.sl l.length (jG l)
def jG:List Typ->wE
 |[]=>[]
 |t::l=>.lit (.int .i64 t.k)::.lit (.int .i64 t.id.a)::.lit (.int .i64 t.id.b)::.lit (.int .i64 t.id.c)::zCn t::jG l
end
theorem zPZ(t:Typ):zCn t=.sl t.kids.length (jG t.kids):=by cases t;simp only[zCn,Typ.kids]
def zB(t:Typ):wE:=[.lit (.int .i64 t.k),.lit (.int .i64 t.id.a),.lit (.int .i64 t.id.b),.lit (.int .i64 t.id.c),.sl t.kids.length (jG t.kids)]
theorem i4(l:wQ):jG l=l.flatMap zB:=by
 induction l with
 |nil=>simp only[jG,List.flatMap_nil]
 |cons t l ih=>simp only[jG,jB9,ih,zPZ,zB];rfl
mutual
theorem zIj:∀t:Typ,nrm0 (zCn t)=zCn t/\∀rf g,vw rf g (zCn t)=zCn t
 | .mk k n l=>by have h:=yW l;simp only[zCn];exact⟨by simp[h.1],fun rf g=>by simp[h.2]⟩
theorem yW:∀l:wQ,qP (jG l)
 |[]=>by simp only[jG];exact qP.nil
 |v::l=>by have h:=zIj v;have h':=yW l;simp only[jG];exact⟨by simp[h.1,h'.1],fun rf g=>by simp[h.2,h'.2]⟩
end
theorem zDA(t:Typ):qP (zB t):=qP.lit (qP.lit (qP.lit (qP.lit (qP.sl (yW _) qP.nil))))
inductive Exp where
 |mk (id:Id) (k n:Int) (ref:Id) (typ:Typ) (kids:List Exp) (names:List ByteArray)
abbrev wG:=List Exp
def Exp.id:Exp->Id | .mk x _ _ _ _ _ _=>x
def Exp.k:Exp->Int | .mk _ x _ _ _ _ _=>x
def Exp.n:Exp->Int | .mk _ _ x _ _ _ _=>x
def Exp.ref:Exp->Id | .mk _ _ _ x _ _ _=>x
def Exp.typ:Exp->Typ | .mk _ _ _ _ x _ _=>x
def Exp.kids:Exp->wG | .mk _ _ _ _ _ x _=>x
def Exp.names:Exp->List ByteArray | .mk _ _ _ _ _ _ x=>x
variable{a d:Id}{b c:Int}{e:Typ}{f:wG}{g:List ByteArray}
@[simp]theorem Exp.id_mk:(Exp.mk a b c d e f g).id=a:=rfl
@[simp]theorem Exp.k_mk:(Exp.mk a b c d e f g).k=b:=rfl
@[simp]theorem Exp.n_mk:(Exp.mk a b c d e f g).n=c:=rfl
@[simp]theorem Exp.ref_mk:(Exp.mk a b c d e f g).ref=d:=rfl
@[simp]theorem Exp.typ_mk:(Exp.mk a b c d e f g).typ=e:=rfl
@[simp]theorem Exp.kids_mk:(Exp.mk a b c d e f g).kids=f:=rfl
@[simp]theorem Exp.names_mk:(Exp.mk a b c d e f g).names=g:=rfl
mutual
def zCm:Exp->A
 | .mk _ _ _ _ _ l _=>.sl l.length (qL l)
def qL:List Exp->wE
 |[]=>[]
 |e::l=>[.lit (.int .i64 e.id.a),.lit (.int .i64 e.id.b),.lit (.int .i64 e.id.c),.lit (.int .i64 e.k),.lit (.int .i64 e.n),.lit (.int .i64 e.ref.a),.lit (.int .i64 e.ref.b),.lit (.int .i64 e.ref.c),.lit (.int .i64 e.typ.k),.lit (.int .i64 e.typ.id.a),.lit (.int .i64 e.typ.id.b),.lit (.int .i64 e.typ.id.c),.sl e.typ.kids.length (jG e.typ.kids),zCm e,.sl e.names.length (yI e.names)]++qL l
end
theorem zPY(e:Exp):zCm e=.sl e.kids.length (qL e.kids):=by cases e;simp only[zCm,Exp.kids]
def zH(e:Exp):wE:=[.lit (.int .i64 e.id.a),.lit (.int .i64 e.id.b),.lit (.int .i64 e.id.c),.lit (.int .i64 e.k),.lit (.int .i64 e.n),.lit (.int .i64 e.ref.a),.lit (.int .i64 e.ref.b),.lit (.int .i64 e.ref.c),.lit (.int .i64 e.typ.k),.lit (.int .i64 e.typ.id.a),.lit (.int .i64 e.typ.id.b),.lit (.int .i64 e.typ.id.c),.sl e.typ.kids.length (jG e.typ.kids),.sl e.kids.length (qL e.kids),.sl e.names.length (yI e.names)]
theorem fO(l:wG):qL l=l.flatMap zH:=by
 induction l with
 |nil=>simp only[qL,List.flatMap_nil]
 |cons t l ih=>simp only[qL,jB9,ih,zPY,zH]
mutual
theorem zIi:∀t:Exp,nrm0 (zCm t)=zCm t/\∀rf g,vw rf g (zCm t)=zCm t
 | .mk _ _ _ _ _ l _=>by have h:=fP l;simp only[zCm];exact⟨by simp[h.1],fun rf g=>by simp[h.2]⟩
theorem fP:∀l:wG,qP (qL l)
 |[]=>by simp only[qL];exact qP.nil
 |v::l=>by have h:=zIi v;have h':=fP l;have h1:=yW v.typ.kids;have h2:=dU v.names;simp only[qL];exact⟨by simp[h.1,h'.1,h1.1,h2.1],fun rf g=>by simp[h.2,h'.2,h1.2,h2.2]⟩
end
theorem xO(e:Exp):qP (zH e):=by have h:=fP e.kids;have h1:=yW e.typ.kids;have h2:=dU e.names;exact⟨by simp[zH,h.1,h1.1,h2.1],fun rf g=>by simp[zH,h.2,h1.2,h2.2]⟩
structure Slt where
 id:Id
 name:ByteArray
 typ:Typ
 most:Int
 place:Int
def j4(s:Slt):wE:=[.lit (.int .i64 s.id.a),.lit (.int .i64 s.id.b),.lit (.int .i64 s.id.c),.lit (.string s.name),.lit (.int .i64 s.typ.k),.lit (.int .i64 s.typ.id.a),.lit (.int .i64 s.typ.id.b),.lit (.int .i64 s.typ.id.c),.sl s.typ.kids.length (jG s.typ.kids),.lit (.int .i64 s.most),.lit (.int .i64 s.place)]
theorem rL(s:Slt):qP (j4 s):=by have h1:=yW s.typ.kids;exact⟨by simp[j4,h1.1],fun rf g=>by simp[j4,h1.2]⟩
def jF(l:List Slt):wE:=l.flatMap j4
theorem fQ(l:List Slt):jF l=l.flatMap j4:=rfl
structure Dfn where
 id:Id
 kind:Int
 mod:Id
 name:ByteArray
 slots:List Slt
 res:Typ
 body:Exp
 place:Int
 lay:List ByteArray
abbrev wP:=List Dfn
def zI(d:Dfn):wE:=[.lit (.int .i64 d.id.a),.lit (.int .i64 d.id.b),.lit (.int .i64 d.id.c),.lit (.int .i64 d.kind),.lit (.int .i64 d.mod.a),.lit (.int .i64 d.mod.b),.lit (.int .i64 d.mod.c),.lit (.string d.name),.sl d.slots.length (jF d.slots),.lit (.int .i64 d.res.k),.lit (.int .i64 d.res.id.a),.lit (.int .i64 d.res.id.b),.lit (.int .i64 d.res.id.c),.sl d.res.kids.length (jG d.res.kids),.lit (.int .i64 d.body.id.a),.lit (.int .i64 d.body.id.b),.lit (.int .i64 d.body.id.c),.lit (.int .i64 d.body.k),.lit (.int .i64 d.body.n),.lit (.int .i64 d.body.ref.a),.lit (.int .i64 d.body.ref.b),.lit (.int .i64 d.body.ref.c),.lit (.int .i64 d.body.typ.k),.lit (.int .i64 d.body.typ.id.a),.lit (.int .i64 d.body.typ.id.b),.lit (.int .i64 d.body.typ.id.c),.sl d.body.typ.kids.length (jG d.body.typ.kids),.sl d.body.kids.length (qL d.body.kids),.sl d.body.names.length (yI d.body.names),.lit (.int .i64 d.place),.sl d.lay.length (yI d.lay)]
theorem bJ(d:Dfn):qP (zI d):=by have h1:=yW d.res.kids;have h2:=yW d.body.typ.kids;have h3:=fP d.body.kids;have h4:=dU d.body.names;have h5:=dU d.lay;have h6:=cW rL d.slots;exact⟨by simp[zI,jF,h1.1,h2.1,h3.1,h4.1,h5.1,h6.1],fun rf g=>by simp[zI,jF,h1.2,h2.2,h3.2,h4.2,h5.2,h6.2]⟩
def z7(l:wP):wE:=l.flatMap zI
theorem dC(l:wP):z7 l=l.flatMap zI:=rfl
structure Md where
 id:Id
 name:ByteArray
 uses:List Id
 defs:List Id
def m7(m:Md):wE:=[.lit (.int .i64 m.id.a),.lit (.int .i64 m.id.b),.lit (.int .i64 m.id.c),.lit (.string m.name),.sl m.uses.length (zP m.uses),.sl m.defs.length (zP m.defs)]
theorem xQ(m:Md):qP (m7 m):=by have h1:=dS m.uses;have h2:=dS m.defs;exact⟨by simp[m7,h1.1,h2.1],fun rf g=>by simp[m7,h1.2,h2.2]⟩
def qO(l:List Md):wE:=l.flatMap m7
theorem u5(l:List Md):qO l=l.flatMap m7:=rfl
structure Prg where
 mods:List Md
 defs:List Dfn
def zT(p:Prg):wE:=[.sl p.mods.length (qO p.mods),.sl p.defs.length (z7 p.defs)]
theorem eP(p:Prg):zT p=[.sl p.mods.length (qO p.mods),.sl p.defs.length (z7 p.defs)]:=rfl
@[simp]theorem zWc(l:wQ):jH (jG l)=jG l:=(yW l).1
@[simp]theorem qAR{rf g}(l:wQ):vwL rf g (jG l)=jG l:=(yW l).2 _ _
@[simp]theorem zXr:jG []=[]:=by rw[i4];rfl
theorem qW(x:Typ)(l:wQ):jG (x::l)=zB x++jG l:=by rw[i4,i4];rfl
theorem oP(l l':wQ):jG (l++l')=jG l++jG l':=by simp only[i4,jBw]
@[simp]theorem zXq(l:wQ):(jG l).length=l.length*5:=by rw[i4,fF (k:=5) (fun _=>rfl)]
variable{i:Nat}
theorem lN(h:i<l.length):(jG l).drop (i*5)=zB l[i]++jG (l.drop (i+1)):=by rw[i4,i4,fR (k:=5) (fun _=>rfl) h]
@[simp]theorem qDR(d:Typ):(zB d).length=5:=rfl
@[simp]theorem qDQ(d:Typ):(zB d).take 5=zB d:=jAc (jA _)
@[simp]theorem zZE(d:Typ)(l:wE):(zB d++l).take 5=zB d:=by rw[jBz (by simp)];exact jAc (by simp)
@[simp]theorem qAl(d:Typ):jH (zB d)=zB d:=(zDA d).1
@[simp]theorem qI1(d:Typ) {rf g}:vwL rf g (zB d)=zB d:=(zDA d).2 _ _
@[simp]theorem zVV(l:wG):jH (qL l)=qL l:=(fP l).1
@[simp]theorem qAK{rf g}(l:wG):vwL rf g (qL l)=qL l:=(fP l).2 _ _
@[simp]theorem zXd:qL []=[]:=by rw[fO];rfl
theorem zM(x:Exp)(l:wG):qL (x::l)=zH x++qL l:=by rw[fO,fO];rfl
theorem zFd(l l':wG):qL (l++l')=qL l++qL l':=by simp only[fO,jBw]
@[simp]theorem zXc(l:wG):(qL l).length=l.length*15:=by rw[fO,fF (k:=15) (fun _=>rfl)]
theorem yT{l:wG}(h:i<l.length):(qL l).drop (i*15)=zH l[i]++qL (l.drop (i+1)):=by rw[fO,fO,fR (k:=15) (fun _=>rfl) h]
theorem bH{l:wG}(h:i<l.length):qL (l.take (i+1))=qL (l.take i)++zH l[i]:=by rw[fO,fO,iI (k:=15) (fun _=>rfl) h]
@[simp]theorem qDH(d:Exp):(zH d).length=15:=rfl
@[simp]theorem qDG(d:Exp):(zH d).take 15=zH d:=jAc (jA _)
@[simp]theorem zZ8(d:Exp)(l:wE):(zH d++l).take 15=zH d:=by rw[jBz (by simp)];exact jAc (by simp)
@[simp]theorem qAg(d:Exp):jH (zH d)=zH d:=(xO d).1
@[simp]theorem qIw(d:Exp) {rf g}:vwL rf g (zH d)=zH d:=(xO d).2 _ _
theorem zA1(l:List Slt):qP (jF l):=cW rL l
@[simp]theorem zWb(l:List Slt):jH (jF l)=jF l:=(zA1 l).1
@[simp]theorem qAQ{rf g}(l:List Slt):vwL rf g (jF l)=jF l:=(zA1 l).2 _ _
@[simp]theorem zXp:jF []=[]:=by rw[fQ];rfl
theorem lM(x:Slt)(l:List Slt):jF (x::l)=j4 x++jF l:=by rw[fQ,fQ];rfl
theorem oO(l l':List Slt):jF (l++l')=jF l++jF l':=by simp only[fQ,jBw]
@[simp]theorem zXo(l:List Slt):(jF l).length=l.length*11:=by rw[fQ,fF (k:=11) (fun _=>rfl)]
theorem jN{l:List Slt}(h:i<l.length):(jF l).drop (i*11)=j4 l[i]++jF (l.drop (i+1)):=by rw[fQ,fQ,fR (k:=11) (fun _=>rfl) h]
theorem zB3{l:List Slt}(h:i<l.length):jF (l.take (i+1))=jF (l.take i)++j4 l[i]:=by rw[fQ,fQ,iI (k:=11) (fun _=>rfl) h]
@[simp]theorem qDP(d:Slt):(j4 d).length=11:=rfl
@[simp]theorem qDO(d:Slt):(j4 d).take 11=j4 d:=jAc (jA _)
@[simp]theorem zZD(d:Slt)(l:wE):(j4 d++l).take 11=j4 d:=by rw[jBz (by simp)];exact jAc (by simp)
@[simp]theorem qAk(d:Slt):jH (j4 d)=j4 d:=(rL d).1
@[simp]theorem qI0(d:Slt) {rf g}:vwL rf g (j4 d)=j4 d:=(rL d).2 _ _
theorem rD(l:wP):qP (z7 l):=cW bJ l
@[simp]theorem zVU(l:wP):jH (z7 l)=z7 l:=(rD l).1
@[simp]theorem qAJ{rf g}(l:wP):vwL rf g (z7 l)=z7 l:=(rD l).2 _ _
@[simp]theorem zXb:z7 []=[]:=by rw[dC];rfl
theorem tH(x:Dfn)(l:wP):z7 (x::l)=zI x++z7 l:=by rw[dC,dC];rfl
theorem vW(l l':wP):z7 (l++l')=z7 l++z7 l':=by simp only[dC,jBw]
@[simp]theorem zK1(l:wP):(z7 l).length=l.length*31:=by rw[dC,fF (k:=31) (fun _=>rfl)]
theorem j6{l:wP}(h:i<l.length):(z7 l).drop (i*31)=zI l[i]++z7 (l.drop (i+1)):=by rw[dC,dC,fR (k:=31) (fun _=>rfl) h]
theorem zB1{l:wP}(h:i<l.length):z7 (l.take (i+1))=z7 (l.take i)++zI l[i]:=by rw[dC,dC,iI (k:=31) (fun _=>rfl) h]
theorem zK2{l:wP}(x:Dfn)(h:i<l.length):(z7 l).take (i*31)++(zI x++(z7 l).drop (i*31+31))=z7 (l.set i x):=by rw[dC,dC,zI6 (k:=31) (fun _=>rfl) x h]
@[simp]theorem zIx(d:Dfn):(zI d).length=31:=rfl
@[simp]theorem qDF(d:Dfn):(zI d).take 31=zI d:=jAc (jA _)
@[simp]theorem zZ7(d:Dfn)(l:wE):(zI d++l).take 31=zI d:=by rw[jBz (by simp)];exact jAc (by simp)
@[simp]theorem qAf(d:Dfn):jH (zI d)=zI d:=(bJ d).1
@[simp]theorem qIv(d:Dfn) {rf g}:vwL rf g (zI d)=zI d:=(bJ d).2 _ _
theorem rI(l:List Md):qP (qO l):=cW xQ l
@[simp]theorem zVZ(l:List Md):jH (qO l)=qO l:=(rI l).1
@[simp]theorem qAO{rf g}(l:List Md):vwL rf g (qO l)=qO l:=(rI l).2 _ _
@[simp]theorem zXj:qO []=[]:=by rw[u5];rfl
theorem fD(x:Md)(l:List Md):qO (x::l)=m7 x++qO l:=by rw[u5,u5];rfl
@[simp]theorem zXi(l:List Md):(qO l).length=l.length*6:=by rw[u5,fF (k:=6) (fun _=>rfl)]
@[simp]theorem qDN(d:Md):(m7 d).length=6:=rfl
@[simp]theorem qDM(d:Md):(m7 d).take 6=m7 d:=jAc (jA _)
@[simp]theorem zZC(d:Md)(l:wE):(m7 d++l).take 6=m7 d:=by rw[jBz (by simp)];exact jAc (by simp)
@[simp]theorem qAj(d:Md):jH (m7 d)=m7 d:=(xQ d).1
@[simp]theorem qIz(d:Md) {rf g}:vwL rf g (m7 d)=m7 d:=(xQ d).2 _ _
def Typ.zero:Typ:=.mk 0 Id.zero []
def Exp.zero:Exp:=.mk Id.zero 0 0 Id.zero Typ.zero [] []
def Dfn.zero:Dfn:=⟨Id.zero,0,Id.zero,⟨#[]⟩,[],Typ.zero,Exp.zero,0,[]⟩
end Go.Proofs.YtdnelmeboihpkaaGreatDoor
namespace Go.Abs
def Pan(P:Program)(f:FuncId)(args:wE) (U0:St)(v:Value):Prop:=aH P f args U0 fun o _=>o=.pan v
section
variable{P:Program}{n0:Nat}{Qp:Value->wJ}{Qd:Value->St->Prop}{K':wJ}{env:Env} {U:St}{d:wC}
variable{f:FuncId}{U0:St}{v:Value}{Q:Out->St->Prop}
theorem Pan.mono{args:wE} (h:Pan P f args U0 v)(hq:∀τ,Q (.pan v) τ):aH P f args U0 Q:=fun H L w vs h1 h2=>(h H L w vs h1 h2).mono fun e w' hh=>by obtain⟨o,U',H',L',g1,g2,rfl⟩:=hh;exact⟨_,U',H',L',g1,g2,hq U'⟩
variable{rs:List RS}
theorem pM{fn:Func}{c:Code}{k:K}(hf:P.funcs[f]?=some fn)(hb:fn.body=some c)(hc:zQ P fn.ntmps c=some k.erase)(hr:iR P fn.results.toList=some rs)
 {args:wE} {U:St}(h:wpF P k rs args U fun o _=>o=.pan v):Pan P f args U v:=tF hf hb hc hr h
theorem aZ{hint:Nat->Option wD}{fn:Func}{c:Code}{k:K}(hf:P.funcs[f]?=some fn)(hb:fn.body=some c)(hc:qF P fn.ntmps hint c=some k.erase)(hr:iR P fn.results.toList=some rs)
 {args:wE} {U:St}(h:wpF P k rs args U fun o _=>o=.pan v):Pan P f args U v:=rC hf hb hc hr h
theorem zIe{args args':wE} (h:Pan P f args U0 v)(js:wA)(hd:js.Nodup)(ho:yX U jX (qH js) js U0)(ha:cZ js args' args)
 (hq:∀τ:St,Q (.pan v) (qS U js τ)):aH P f args' U Q :=
 zBz (C:=fun vs w R=>Calls P f vs.toArray w R) (xI P f) (Q0:=fun o _=>o=.pan v) h js hd ho ha fun o U1 h0=>by subst h0;exact hq _
theorem zAw{args args':wE} (h:Pan P f args U0 v)(js:wA)(hd:js.Nodup)(ho:yX U jX (qH js) js U0)(ha:cZ js args' args)
 (hq:∀τ:St,Qp v env (qS U js τ)):aH P f args' U (outK d env K' Qp):=zIe h js hd ho ha fun τ=>by simpa[outK]using hq τ
theorem mE{args args':wE} (h:Pan P f args U0 v)(js:wA)(hd:js.Nodup)(ho:yX U jX (qH js) js U0)(ha:cZ js args' args)
 (hq:∀τ:St,Qd v (qS U js τ)):zBo P Qd U d K' f args' env:=zIe h js hd ho ha fun τ=>.inr ⟨v,rfl,hq τ⟩
theorem gG{args args':wE} {U1:St}{r:A}(h:Ret P f args U0 r U1)(js:wA)(hd:js.Nodup)(ho:yX U jX (qH js) js U0)(ha:cZ js args' args)
 (hq:K' (env.put d (ren js U.length r)) (qS U js (U1.map (bX js U.length)))):zBo P Qd U d K' f args' env:=b6 h js hd ho ha (.inl ⟨_,rfl,hq⟩)
theorem i9{α:Type}:∀{js:wA} {s t:List α} {x:Nat},x<s.length->x∉js->(qS s js t)[x]?=s[x]?
 |[],s,t,x,hx,_=>by simp[qS,jAj hx]
 |j::js,s,[],x,_,_=>by simp[qS]
 |j::js,s,o::os,x,hx,hn=>by simp only[jA1,not_or]at hn;simp only[qS];rw[i9 (by simpa using hx) hn.2,jA9 (Ne.symm hn.1)]
end
end Go.Abs
namespace Go.Abs
mutual
theorem zWI{k:Nat}:∀(a:A),(vw jX (fun _=>none) a=a)->a.bnd k=true
 | .any,_=>by simp
 | .nil,_=>by simp
 | .lit _,_=>by simp
 | .agg cs,h=>by simp at h;simp[mC cs h]
 | .tup cs,h=>by simp at h;simp[mC cs h]
 | .sl _ cs,h=>by simp at h;simp[mC cs h]
 | .fsl _ cs,h=>by simp at h;simp[mC cs h]
 | .rptr cs,h=>by simp at h;simp[mC cs h]
 | .ptr l _,h=>by simp at h
 | .row l _,h=>by simp at h
 | .rwp l _ _,h=>by simp at h
 | .win l _ _ _ _,h=>by simp[zNE]at h
 | .map l,h=>by simp at h
 | .clo _ fs cs,h=>by simp at h;simp[mC fs h.1,mC cs h.2]
theorem mC{k:Nat}:∀(cs:wE),(vwL jX (fun _=>none) cs=cs)->dK k cs=true
 |[],_=>by simp
 |c::cs,h=>by simp at h;simp[zWI c h.1,mC cs h.2]
end
theorem qP.bnd{cs:wE}(h:qP cs)(k:Nat):dK k cs=true:=mC cs (h.2 _ _)
def shL(m:Nat)(ks:wA):wA:=List.range m++ks.map fun k=>m+k
variable{m:Nat}
theorem zHz{l:Nat}{ks:wA}(h:l<m):qH (shL m ks) l=some l:=x8 (uL h)
theorem zGp{m k:Nat}:∀ks:wA,qH (ks.map fun k=>m+k) (m+k)=qH ks k
 |[]=>rfl
 |x::ks=>by
  simp only[jAg,x9];by_cases h:k=x
  .simp[h]
  .rw[if_neg (by omega),if_neg h,zGp ks]
@[simp]theorem zOL{m k:Nat}{ks:wA}:qH (shL m ks) (m+k)=(qH ks k).map (m + ·):=by unfold shL;rw[zBW (by simp),zGp,List.length_range];cases qH ks k<;>simp[jCj]
@[simp]theorem zYu{ks:wA}:qH (shL m ks) m=(qH ks 0).map (m + ·):=by
 have:=zOL (m:=m) (k:=0) (ks:=ks)
 simpa using this
theorem zCd{ks:wA}(h:ks.Nodup):(shL m ks).Nodup:=by
 unfold shL;rw[jCu];refine⟨List.nodup_range,?_,fun a ha b hb=>?_⟩
 .exact List.Pairwise.map _ (fun a b hab e=>hab (Nat.add_left_cancel e)) h
 .obtain⟨k,_,rfl⟩:=jAk.1 hb;rw[jBr]at ha;omega
theorem zNl{c:Nat}{ks:wA}(h:∀j,j<c->ks[j]?=some j):∀i,i<m+c->(shL m ks)[i]?=some i:=by
 intro i hi;unfold shL;by_cases hm:i<m
 .rw[jAj (by simpa using hm),List.getElem?_range hm]
 .rw[jAw (by simp;omega),List.length_range,jC,h (i-m) (by omega)];simp;omega
theorem zGy{U:St}{rf:Bool->Nat->Nat->A}{g:Nat->wC}:∀{ks js:wA} {a b:St},yX U rf g ks a->yX U rf g js b->yX U rf g (ks++js) (a++b)
 |[],_,[],_,_,h=>h
 |k::ks,js,x::a,b,h,h'=>⟨h.1,zGy h.2 h'⟩
 |[],_,_::_,_,h,_=>h.elim
 |_::_,_,[],_,h,_=>h.elim
theorem zCF{m:Nat}{S own:St}(hS:S.length=m){rf:Bool->Nat->Nat->A}{g:Nat->wC}:∀{ks:wA} {a:St},yX own rf g ks a->yX (S++own) rf g (ks.map fun k=>m+k) a
 |[],[],_=>trivial
 |k::ks,x::a,h=>by simp only[jAg,yX];refine⟨?_,zCF hS h.2⟩;rw[aD hS];exact h.1
 |[],_::_,h=>h.elim
 |_::_,[],h=>h.elim
variable{rf:Bool->Nat->Nat->A}
theorem zH9{S own own':St}(h:Cl m S){ks:wA}(ho:yX own rf (qH (shL m ks)) ks own'):yX (S++own) rf (qH (shL m ks)) (shL m ks) (S++own'):=by refine zGy ?_ (zCF h.1 ho);have:=zEF (rf:=rf) (g:=qH (shL m ks)) (m:=m) (fun l hl=>zHz hl) (U:=S++own) 0 S (by rw[h.1];omega) (fun i o hi=>by rw[jAz,jAj (jA4.1 hi).1];exact hi) h.2;rw[h.1,<-List.range_eq_range']at this;exact this
@[simp]theorem qGg{g:Nat->wC}:vwO rf g .dead=.dead:=rfl
@[simp]theorem qAx{js:wA}{n:Nat}:bX js n .dead=.dead:=rfl
section
variable{P:Program}{n0:Nat}{Qp:Value->wJ}{K':wJ}{env:Env}{d:wC}
theorem zG0{m c:Nat}{S own own':St}(h:Cl m S)(hn:n0=m+c)(ks:wA)(fuel:Nat){l:List (Nat×A)}(hk:∀j,j<c->ks[j]?=some j)(hd:ks.Nodup)
 (ho:yX own (seen (S++own) (qH (shL m ks)) fuel) (qH (shL m ks)) ks own')
 (hl:∀p∈l,p.2=vw (seen (S++own) (qH (shL m ks)) fuel) (qH (shL m ks)) (env p.1)\/p.2=nrm0 (vw (seen (S++own) (qH (shL m ks)) fuel) (qH (shL m ks)) (env p.1))):bQ n0 (qK l) (S++own') env (S++own) :=
 zK (shL m ks) fuel (by subst hn;exact zNl hk) (zCd hd) (zH9 h ho) hl
theorem zCc{m c n:Nat}{r r':A}{S own own':St}(h:Cl m S)(hn:n=m+c)(ks:wA)(fuel:Nat)(hk:∀j,j<c->ks[j]?=some j)(hd:ks.Nodup)
 (ho:yX own (seen (S++own) (qH (shL m ks)) fuel) (qH (shL m ks)) ks own')
 (hr:r=vw (seen (S++own) (qH (shL m ks)) fuel) (qH (shL m ks)) r'\/r=nrm0 (vw (seen (S++own) (qH (shL m ks)) fuel) (qH (shL m ks)) r')):s8 n r (S++own') (.ret r') (S++own) :=
 zF (shL m ks) fuel (by subst hn;exact zNl hk) (zCd hd) (zH9 h ho) hr
theorem zHY:∀{js ks:wA} {n k:Nat},back (js++ks) n (js.length+k)=back ks n k
 |[],ks,n,k=>by simp
 |j::js,ks,n,k=>by
  have e:(j::js).length+k=js.length+k+1:=by simp;omega
  rw[e];simp only[jBa,back];exact zHY
theorem zFx:∀{js ks:wA} {n l:Nat},l<js.length->back (js++ks) n l=back js n l
 |[],_,_,l,h=>by simp at h
 |j::js,ks,n,0,h=>rfl
 |j::js,ks,n,l+1,h=>by simp only[jBa,back];exact zFx (by simpa using h)
@[simp]theorem zPL{m k n:Nat}{ks:wA}:back (shL m ks) n (m+k)=back (ks.map fun k=>m+k) n k:=by
 have:=zHY (js:=List.range m) (ks:=ks.map fun k=>m+k) (n:=n) (k:=k)
 rwa[List.length_range]at this
@[simp]theorem zZv{m n:Nat}{ks:wA}:back (shL m ks) n m=back (ks.map fun k=>m+k) n 0:=by
 have:=zPL (m:=m) (k:=0) (n:=n) (ks:=ks)
 simpa using this
theorem zHZ{m l n:Nat}{ks:wA}(h:l<m):back (shL m ks) n l=l:=by unfold shL;rw[zFx (by simpa using h),zDm h]
theorem zAb{α:Type}:∀{js ks:wA} {s a b:List α},a.length=js.length->qS s (js++ks) (a++b)=qS (qS s js a) ks b
 |[],ks,s,[],b,_=>by simp[qS]
 |j::js,ks,s,x::a,b,h=>by simp only[jBa,qS];exact zAb (by simpa using h)
 |[],_,_,_::_,_,h=>by simp at h
 |_::_,_,_,[],_,h=>by simp at h
theorem zAZ{m:Nat}{S:St}(hS:S.length=m):∀{ks:wA} {own t:St},qS (S++own) (ks.map fun k=>m+k) t=S++qS own ks t
 |[],own,t=>by simp[qS]
 |k::ks,own,[]=>by simp[qS]
 |k::ks,own,x::t=>by simp only[jAg,qS];rw[cG hS];exact zAZ hS
theorem zPV{m:Nat}{S S' own o0 o1:St}(h:Cl m S)(h':Cl m S'){f:FuncId}{args args':wE}{r:A}(hr:Ret P f args (S++o0) r (S'++o1))(ks:wA)(hd:ks.Nodup)
 (ho:yX own jX (qH (shL m ks)) ks o0)(ha:cZ (shL m ks) args' args)
 (hq:K' (env.put d (ren (shL m ks) (m+own.length) r)) (S'++qS own ks (o1.map (bX (shL m ks) (m+own.length))))):aH P f args' (S++own) (outK d env K' Qp):=by
 refine zU hr (shL m ks) (zCd hd) (zH9 h ho) ha ?_;have hlen:(S++own).length=m+own.length:=by rw[jA5,h.1]
 rw[hlen,jBl];have e:S'.map (bX (shL m ks) (m+own.length))=S':=by
  conv=>rhs;rw[<-List.map_id S']
  exact jC3 fun o ho=>by simp only[bX,id];exact zHJ (fun l hl=>by rw[zHZ hl]) o (h'.2 o ho)
 rw[e];have hput:qS (S++own) (shL m ks) (S'++o1.map (bX (shL m ks) (m+own.length)))=S'++qS own ks (o1.map (bX (shL m ks) (m+own.length))):=by have h0:=zAd (own:=own) 0 [] rfl (by rw[h.1,h'.1]:S'.length=S.length);rw[h.1,<-List.range_eq_range']at h0;simp only[jBm]at h0;unfold shL;rw[zAb (by rw[h'.1,List.length_range]),h0];exact zAZ h'.1
 rw[hput];exact hq
end
end Go.Abs
namespace Go.Proofs.YtdnelmeboihpkaaGreatDoor
section
variable(marked:wF)(x:Id)
def oK:List Edg->List Id->wF
 |[],M=>M
 |e::l,M=>oK l (if e.fro=x/\e.to∉M/\e.to∉marked then M++[e.to]else M)
theorem zFw(e:Edg):∀(l:wR) (M:wF),oK marked x (l++[e]) M=(if e.fro=x/\e.to∉oK marked x l M/\e.to∉marked then oK marked x l M++[e.to]else oK marked x l M)
 |[],M=>rfl
 |a::l,M=>by simp only[jBa,oK];exact zFw e l _
theorem zAq:∀(l:wR) (M:wF),∃N,oK marked x l M=M++N
 |[],M=>⟨[],by simp[oK]⟩
 |e::l,M=>by
  simp only[oK];split
  .obtain⟨N,h⟩:=zAq l (M++[e.to]);exact⟨e.to::N,by rw[h];simp⟩
  .exact zAq l M
variable{marked x}
theorem zGG:∀(l:wR) {M:wF},M.Nodup->(oK marked x l M).Nodup
 |[],_,h=>h
 |e::l,M,h=>by
  simp only[oK];split
  .rename_i hc;refine zGG l ?_;rw[jCu];refine⟨h,by simp,fun a ha b hb=>?_⟩;rw[jAl]at hb;subst hb;exact fun e=>hc.2.1 (e▸ha)
  .exact zGG l h
theorem zHS:∀(l:wR) (M:wF) (e:Edg),e∈l->e.fro=x->e.to∈oK marked x l M\/e.to∈marked
 |a::l,M,e,he,hx=>by
  simp only[oK];rcases jA1.1 he with rfl|he
  .obtain⟨N,h⟩:=zAq marked x l (if e.fro=x/\e.to∉M/\e.to∉marked then M++[e.to]else M);rw[h];by_cases h1:e.to∈M
   .exact .inl (by split<;>simp[h1])
   .by_cases h2:e.to∈marked
    .exact .inr h2
    .exact .inl (by rw[if_pos ⟨hx,h1,h2⟩];simp)
  .exact zHS l _ e he hx
theorem zHT:∀(l:wR) (M:wF) (y:Id),y∈oK marked x l M->y∈M\/∃e∈l,e.fro=x/\e.to=y/\y∉marked
 |[],M,y,h=>.inl h
 |a::l,M,y,h=>by
  simp only[oK]at h;rcases zHT l _ y h with h|⟨e,he,h1,h2,h3⟩
  .split at h
   .rename_i hc;rcases jAa.1 h with h|h
    .exact .inl h
    .rw[jAl]at h;subst h;exact .inr ⟨a,by simp,hc.1,rfl,hc.2.2⟩
   .exact .inl h
  .exact .inr ⟨e,by simp[he],h1,h2,h3⟩
end
structure Bfs(L:List Edg)(to:Id)(marked:List Id)(fro:Id)(M:List Id)(k:Nat):Prop where
 nd:M.Nodup
 first:fro∈M
 from_:∀y∈M,y=fro\/∃e∈L,e.to=y
 back:∀y∈M,Rchs L to marked y->Rchs L to marked fro
 not_:∀j (hj:j<M.length),j<k->M[j]≠to
 closed:∀j (hj:j<M.length),j<k->∀e∈L,e.fro=M[j]->e.to∈M\/e.to∈marked
 le:k<=M.length
theorem Bfs.start(L:wR)(to:Id)(marked:wF)(fro:Id):Bfs L to marked fro [fro] 0 :=
 ⟨by simp,by simp,by simp,by simp,by omega,by omega,by simp⟩
variable{L:wR}{to fro:Id}{marked M:wF}
theorem Bfs.len{k:Nat}(h:Bfs L to marked fro M k):M.length<=L.length+1:=by
 have:=h.nd.length_le_of_subset (l₂:=fro::L.map (·.to)) fun y hy=>by
  rcases h.from_ y hy with rfl|⟨e,he,rfl⟩
  .simp
  .simp only[jA1,jAk];exact .inr ⟨e,he,rfl⟩
 simpa using this
theorem Bfs.next{k:Nat}(h:Bfs L to marked fro M k)(hk:k<M.length)(hne:M[k]≠to):Bfs L to marked fro (oK marked M[k] L M) (k+1):=by
 obtain⟨N,hN⟩:=zAq marked M[k] L M;have hall:=zHS (marked:=marked) (x:=M[k]) L M;have hmem:=zHT (marked:=marked) (x:=M[k]) L M;have hnd:=zGG (marked:=marked) (x:=M[k]) L h.nd;rw[hN]at hall hmem hnd ⊢;refine⟨hnd,jBj _ h.first,fun y hy=>?_,fun y hy hr=>?_,fun j hj hjk=>?_,fun j hj hjk e he hx=>?_,by simp;omega⟩
 .rcases hmem y hy with hy|⟨e,he,_,h2,_⟩
  .exact h.from_ y hy
  .exact .inr ⟨e,he,h2⟩
 .rcases hmem y hy with hy|⟨e,he,h1,h2,h3⟩
  .exact h.back y hy hr
  .refine h.back _ (jA3 hk) ?_;rw[<-h1];exact .step e he (by rw[h2];exact h3) (by rw[h2];exact hr)
 .rw[jBn (by omega)];by_cases hjk':j=k
  .subst hjk';exact hne
  .exact h.not_ j (by omega) (by omega)
 .rw[jBn (by omega)]at hx;by_cases hjk':j=k
  .subst hjk';exact hall e he hx
  .rcases h.closed j (by omega) (by omega) e he hx with h'|h'
   .exact .inl (jBj _ h')
   .exact .inr h'
theorem Bfs.yes{k:Nat}(h:Bfs L to marked fro M k)(hk:k<M.length)(he:M[k]=to):Rchs L to marked fro :=
 h.back _ (jA3 hk) (he▸.here)
theorem Bfs.no{k:Nat}(h:Bfs L to marked fro M k)(hk:k=M.length):¬Rchs L to marked fro:=by
 intro hr;have key:∀y,Rchs L to marked y->y∈M->to∈M:=by
  intro y hy;induction hy with
  |here=>exact fun h=>h
  |step e he hn _ ih =>
   intro hm;obtain⟨j,hj,e'⟩:=jAn hm;rcases h.closed j hj (by omega) e he e'.symm with h'|h'
   .exact ih h'
   .exact(hn h').elim
 obtain⟨j,hj,e⟩:=jAn (key fro hr h.first);exact h.not_ j hj (by omega) e
end Go.Proofs.YtdnelmeboihpkaaGreatDoor
namespace Go.Proofs.YtdnelmeboihpkaaGreatDoor
open Go.Abs
def zKh:K:=G [kMn 2] (Z (G [M 3 0,⟨none,.isz (some 4) false (kt 3)⟩] (Y 4 (G [kMn 2] kr) ks)) (G [kd 5 31 3 0 [] [],M 6 0,kP 7 31 3 24 5 6,M 2 7] kr))
theorem zPN:ky f100 zKh:=m_ (by kernel_rfl)
def rG(Ls:List wF):wE:=Ls.map fun l=>A.sl l.length (zP l)
theorem rH:∀(Ls:List wF),qP (rG Ls)
 |[]=>qP.nil
 |l::Ls=>by
  have h1:=rH Ls;have h2:=dS l;refine⟨?_,fun rf g=>?_⟩
  .show jH (A.sl l.length (zP l)::rG Ls)=_;simp[h1.1];rfl
  .show vwL rf g (A.sl l.length (zP l)::rG Ls)=_;simp[h1.2];rfl
@[simp]theorem zVY(l:List wF):jH (rG l)=rG l:=(rH l).1
@[simp]theorem qAN{rf g}(l:List wF):vwL rf g (rG l)=rG l:=(rH l).2 _ _
@[simp]theorem zXh(l:List wF):(rG l).length=l.length:=by simp[rG]
end Go.Proofs.YtdnelmeboihpkaaGreatDoor
namespace Go.Proofs.YtdnelmeboihpkaaGreatDoor
open Go.Abs
def sV{α:Type}(same : α->α->Bool):List α->List α->Bool
 |[],[]=>true
 |x::a,y::b=>same x y&&sV same a b
 |_,_=>false
theorem zDh{α:Type}{same : α->α->Bool}:∀{a b:List α},a.length≠b.length->sV same a b=false
 |[],[],h=>(h rfl).elim
 |x::a,y::b,h=>by simp only[sV,zDh (a:=a) (b:=b) (by simpa using h),Bool.and_false]
 |[],_::_,_=>rfl
 |_::_,[],_=>rfl
theorem s9{α:Type}{same : α->α->Bool}:∀{a b:List α} (hl:a.length=b.length),sV same a b=true↔∀(j:Nat) (h:j<a.length),same a[j] (b[j]'(hl▸h))=true
 |[],[],_=>by simp[sV]
 |x::a,y::b,hl=>by
  simp only[sV,jA6,s9 (a:=a) (b:=b) (by simpa using hl)];constructor
  .rintro⟨h1,h2⟩ j h;cases j with
   |zero=>exact h1
   |succ j=>exact h2 j (by simpa using h)
  .intro h;exact⟨h 0 (by simp),fun j hj=>h (j+1) (by simpa using hj)⟩
 |[],_::_,hl=>by simp at hl
 |_::_,[],hl=>by simp at hl
theorem zTd(g:FuncId)(hcal:zC prog g=true)(same:Typ->Typ->Bool)(a b:wQ)(h:∀x∈a,∀y∈b,my g [.agg (zB x),.agg (zB y)] [] (bl (same x y)) []) :
 my 140 [.sl a.length (jG a),.sl b.length (jG b),.clo g [] []] [] (bl (sV same a b)) []:=by
 refine mq [] [.slot 6] func140 (by kernel_rfl) ?_
 (conv in kq _ _=>cbv)
 by_cases hab:a.length=b.length
 .simp[hab];intro hlb;refine qM (S:=Nat) (fun i=>[(1,.sl b.length (jG b)),(2,.clo g [] []),(15,.sl a.length (jG a)),(16,int a.length),(17,int i)]) (fun s=>[]) (fun i=>i<=a.length/\∀(j:Nat) (h:j<a.length),j<i->same a[j] (b[j]'(hab▸h))=true) (fun i=>a.length-i) 0 (by simp)
   (mw [] 0 (by rfl) (by simp[hab])) ?_
  rintro i ⟨hi,hn⟩;by_cases hia:i<a.length
  .have hib:i<b.length:=by omega
   have hla:i*5<a.length*5:=by omega
   have hlb':i*5<b.length*5:=by omega
   simp[hia,hib,lN hia,lN hib,hcal,zB];refine mu (h a[i] (jA3 hia) b[i] (jA3 hib)) (by simp[zB]) ?_;cases hs:same a[i] b[i]with
   |true =>
    simp;exact zN (i+1) ⟨hia,fun j hj hji=>by
     by_cases e:j=i
     .subst e;exact hs
     .exact hn j hj (by omega)⟩ (by omega) (mw [] 0 (by rfl) (by simp[z6 hib hlb]))
   |false =>
    have hf:sV same a b=false:=by
     cases hh:sV same a b with
     |false=>rfl
     |true=>have:=(s9 hab).1 hh i hia;rw[hs]at this;cases this
    simp;exact zA 0 (by simp[hf])
  .have hil:i=a.length:=by omega
   subst hil;have ht:sV same a b=true:=(s9 hab).2 fun j hj=>hn j hj hj
   simp;exact zA 0 (by simp[ht])
 .have hab':¬(a.length:Int)=b.length:=by omega
  simp[hab'];exact fun _ _=>zA 0 (by simp[zDh hab])
end Go.Proofs.YtdnelmeboihpkaaGreatDoor
namespace Go.Abs
section
variable{P:Program}{n0:Nat}
def vS(H:Mem)(L:wL)(w:World)(N:Nat)(Q:Ex->wJ)(dfs:List Deferred):Exit->Act->World->Prop:=fun e a' w' =>
 ∃x env' U' H' L',e=x.exit?/\a'.defers=dfs/\qG H' L' N env' a'.tmps/\Nxt H L w H' L' U' w'/\Q x env' U'
variable{N:Nat}{w:World}{H:Mem}{L:wL}{Q:Ex->wJ}{dfs:List Deferred}
theorem vS.next{H':Mem}{L':wL} {U':St}{w':World}(hn:Nxt H L w H' L' U' w'){e:Exit}{b:Act}{v:World}(h:vS H' L' w' N Q dfs e b v):vS H L w N Q dfs e b v:=by obtain⟨x,env'',U'',H'',L'',h1,h2,h3,h4,h5⟩:=h;exact⟨x,env'',U'',H'',L'',h1,h2,h3,hn.trans h4,h5⟩
theorem vS.post{e:Exit}{b:Act}{v:World}(h:vS H L w N Q dfs e b v):xF H L w N Q dfs e b v:=by obtain⟨x,env'',U'',H'',L'',h1,h2,h3,h4,h5⟩:=h;exact⟨x,env'',U'',H'',L'',h1,h2▸Mk.refl _ _ _,h3,h4,h5⟩
theorem sP{N:Nat}{ro:wC}{ops:Array Oper}(hall:∀o∈ops.toList,∀x,o.dst=some x->x<N){Q:Ex->wJ}{dfs:List Deferred}{Qc:Exit->Act->World->Prop} :
 ∀(l:List Oper) (gs:List KG) {H:Mem} {L:wL} {U:St} {w:World} {env:Env} {a:Act},zCi P N ops l gs->qG H L N env a.tmps->RelSt H L U w->a.defers=dfs ->
  iX P (fun v=>Q (.pan v)) (Q .norm) gs env U->(∀e b v,vS H L w N Q dfs e b v->Qc e b v)->wpListIn (Wr ro) 0 P ops Qc l a w
 |[],gs,H,L,U,w,env,a,hc,he,hs,hd,h,hQ=>by simp only[zCi]at hc;subst hc;exact hQ _ _ _ ⟨.norm,env,U,H,L,rfl,hd,he,Nxt.refl hs,h⟩
 |o::l,gs,H,L,U,w,env,a,hc,he,hs,hd,h,hQ=>by
  simp only[zCi]at hc;obtain⟨g,gs',rfl,hg,hgs⟩:=hc;obtain⟨hk,hdst,hgd⟩:=y4 hg;have hkd:=bN hk;have hke:g.erase.op.dst=g.op.dst:=by show g.op.erase.dst=g.op.dst;cases g.op<;>rfl
  rw[hke]at hkd;simp only[iX]at h;have exec:wpO P (fun v=>Q (.pan v)) (iX P (fun v=>Q (.pan v)) (Q .norm) gs') g.op env U->o.wpIn (Wr ro) 0 P a w (wpListIn (Wr ro) 0 P ops Qc l) Qc:=by
   intro h;refine mV hk hdst he hs h (fun env' U' H' L' a' w' h1 h2 h3 h4=>?_) (fun v U' H' L' w' h1 h2=>?_)
   .exact sP hall l gs' hgs h2 h3.st (h1.trans hd) h4 fun e b v hp=>hQ e b v (hp.next h3)
   .exact hQ _ _ _ ⟨.pan v,env,U',H',L',rfl,hd,he.mono h1.step.hle h1.lle,h1,h2⟩
  have skip:iX P (fun v=>Q (.pan v)) (Q .norm) gs' (env.put g.op.dst (.lit undef)) U->wpListIn (Wr ro) 0 P ops Qc l (a.put o.dst undef) w:=by intro h;refine sP hall l gs' hgs ?_ hs ((qU _ _).trans hd) h hQ;rw[hkd];exact he.put hdst (by simp[Rel])
  unfold wpListIn;have hge:g.erase.guard=g.guard:=rfl;rw[hge]at hgd;rcases hgd with ⟨ho,hgn⟩|⟨j,want,s,ho,hsl,hgn⟩
  .simp only[wpG,hgn]at h;have hw:Region.wanted o (yielded ops a.tmps)=true:=by simp[Region.wanted,ho]
   rw[if_pos hw];exact exec h
  .simp only[wpG,hgn]at h;have hsN:=rY hsl hall;obtain⟨w1,w2⟩:=mF (a:=a) ho hsl (jCb hsN he.1);have hrel:=he.2 s;split at h
   .rename_i b hb;rw[hb]at hrel;simp only[Rel]at hrel;rw[w1 b hrel];by_cases hbw:b=want
    .simp only[hbw,decide_true,if_true];exact exec (h.1 (by simp[hbw]))
    .simp only[hbw,decide_false,jAi,if_false];exact⟨fun _ _=>trivial,skip (h.2 (by simp[hbw]))⟩
   .rename_i t ht;rw[ht]at hrel;simp only[Rel]at hrel;rw[w2 t hrel];simp only[jAi,if_false];exact⟨fun _ _=>trivial,skip h⟩
   .exact h.elim
variable{hint:Nat->Option wD}{U:St}{env:Env}{a:Act}{ops:Array Oper}{Qc:Exit->Act->World->Prop}
theorem zE4{id:Nat}{l:List KG}(hc:qF P N hint (.region id ops false)=some (K.ops l).erase)
 (he:qG H L N env a.tmps)(hs:RelSt H L U w)(h:wpK P n0 (.ops l) Q env U)(hQ:∀e b v,vS H L w N Q a.defers e b v->Qc e b v):(Code.region id ops false).wpIn Fence.wide 0 P Qc a w:=by
 simp only[qF,K.erase]at hc;split at hc<;>try(cases hc;done)
 rename_i l' hl;simp only[jAi,if_false,jA2,K.ops.injEq]at hc;subst hc;simp only[wpK]at h;have hall:∀o∈ops.toList,∀x,o.dst=some x->x<N:=by
  obtain⟨hlen,hget⟩:=iE hl;intro o ho;obtain⟨i,hi⟩:=jCv ho;have hlt:i<(l.map KG.erase).length:=by rw[hlen];exact(jA4.1 hi).1
  exact(y4 (hget i o _ hi (jA0 hlt))).2.1
 exact wpIn_region_list (sP (ro:=none) (Q:=Q) (dfs:=a.defers) hall ops.toList l (zDy hl) he hs rfl h hQ)
theorem lK{ops:Array Oper}{N:Nat}{ro:wC}{all:List (Nat×Nat×KG)}(hc:Comp P N ops all)(hall:∀o∈ops.toList,∀x,o.dst=some x->x<N){Q:Ex->wJ}{dfs:List Deferred}{Qc:Exit->Act->World->Prop} :
 ∀(fuel:Nat) (listed:Array Bool) {H:Mem} {L:wL} {U:St} {w:World} {env:Env} {a:Act},qG H L N env a.tmps->RelSt H L U w->a.defers=dfs ->
  sN P (zEq Q) ops all (Q .norm) fuel listed env U->(∀e b v,vS H L w N Q dfs e b v->Qc e b v)->wpAnyIn (Wr ro) 0 P .any ops Qc fuel listed a w
 | 0,listed,H,L,U,w,env,a,he,hs,hd,h,hQ=>⟨h.1,hQ _ _ _ ⟨.norm,env,U,H,L,rfl,hd,he,Nxt.refl hs,h.2⟩⟩
 |fuel+1,listed,H,L,U,w,env,a,he,hs,hd,h,hQ=>by
  refine⟨fun h0=>hQ _ _ _ ⟨.norm,env,U,H,L,rfl,hd,he,Nxt.refl hs,h.1 h0⟩,fun i hi=>?_⟩;obtain⟨_,o,ho,_⟩:=mem_ready.1 hi;rcases h.2 i hi with ⟨f,g,r,U1,hg,hy,hK⟩|⟨f8,d,fo,args,hf8,hg,hcn⟩
  rotate_left
  .have hcg:=hc.get i f8 o _ ho hg;obtain⟨hk,hdst,hgd⟩:=y4 hcg;unfold wpOpIn;simp only[ho];rcases hgd with ⟨hog,hgn⟩|⟨j,want,s,hog,hsl,hgn⟩
   .have hw:Region.wanted o (yielded ops a.tmps)=true:=by simp[Region.wanted,hog]
    rw[if_pos hw];refine mV (k:=.call d fo args) (Qp:=fun v _ τ=>zEq Q v τ) (K:=fun env' τ=>sN P (zEq Q) ops all (Q .norm) fuel (listed.setIfInBounds i true) env' τ) hk hdst he hs ?_ (fun env' U' H' L' a' w' h1 h2 h3 h4=>?_) (fun v U' H' L' w' h1 h2=>hQ _ _ _ ⟨.pan v,env,U',H',L',rfl,hd,he.mono h1.step.hle h1.lle,h1,h2 env⟩)
    .simp only[wpO];unfold zDp at hcn;split at hcn
     .rename_i g first cap hfo
      simp only[hfo];refine⟨hcn.1,fun H L w vs h3 h4=>(hcn.2 H L w vs h3 h4).mono fun e w' hh=>?_⟩;obtain⟨o,U',H',L',g1,g2,hh⟩:=hh;refine⟨o,U',H',L',g1,g2,?_⟩;rcases hh with ⟨r,rfl,g4,g5⟩|⟨v,rfl,g4⟩
      .exact g5
      .exact g4
     .exact hcn.elim
    .exact lK hc hall fuel _ h2 h3.st (h1.trans hd) h4 fun e b v hp=>hQ e b v (hp.next h3)
   .cases hgn
  have hcg:=hc.get i f o g ho hg;obtain⟨hk,hdst,hgd⟩:=y4 hcg;have hkd:=bN hk;rw[show g.erase.op.dst=g.op.dst from u7 _]at hkd;unfold wpOpIn;simp only[ho];have exec:eff P env U r U1 g.op->o.wpIn (Wr ro) 0 P a w (wpAnyIn (Wr ro) 0 P .any ops Qc fuel (listed.setIfInBounds i true)) Qc:=by intro hq;refine mV (k:=g.op) (Qp:=fun _ _ _=>False) hk hdst he hs (zEZ hq) (fun env' U' H' L' a' w' h1 h2 h3 h4=>?_) (fun v U' H' L' w' h1 h2=>h2.elim);obtain⟨h4,h5⟩:=h4;subst h4;subst h5;exact lK hc hall fuel _ h2 h3.st (h1.trans hd) hK fun e b v hp=>hQ e b v (hp.next h3)
  have skip:r=.lit undef->U1 = U->wpAnyIn (Wr ro) 0 P .any ops Qc fuel (listed.setIfInBounds i true) (a.put o.dst undef) w:=by rintro rfl rfl;refine lK hc hall fuel _ ?_ hs ((qU _ _).trans hd) hK hQ;rw[hkd];exact he.put hdst (by simp[Rel])
  replace hy:=hy.1;unfold gV at hy;rcases hgd with ⟨hog,hgn⟩|⟨j,want,s,hog,hsl,hgn⟩
  .replace hgn:g.guard=none:=hgn;simp only[hgn]at hy;have hw:Region.wanted o (yielded ops a.tmps)=true:=by simp[Region.wanted,hog]
   rw[if_pos hw];exact exec hy
  .replace hgn:g.guard=some (s,want):=hgn;simp only[hgn]at hy;have hsN:=rY hsl hall;obtain⟨w1,w2⟩:=mF (a:=a) hog hsl (jCb hsN he.1);have hrel:=he.2 s;split at hy
   .rename_i b hb;rw[hb]at hrel;simp only[Rel]at hrel;rw[w1 b hrel];by_cases hbw:b=want
    .simp only[hbw,decide_true,if_true];exact exec (hy.1 hbw)
    .simp only[hbw,decide_false,jAi,if_false];exact⟨fun _ _=>trivial,skip (hy.2 hbw).1 (hy.2 hbw).2⟩
   .rename_i t ht;rw[ht]at hrel;simp only[Rel]at hrel;rw[w2 t hrel];simp only[jAi,if_false];exact⟨fun _ _=>trivial,skip hy.1 hy.2⟩
   .exact hy.elim
variable{l:List (Nat×Nat×KG)}
theorem zMb{ro:wC}{id:Nat}{gs:List KG}(hm:P.follows .mixedOrders=true)(hB:zD3 ops l=true)(hlo:oC ops ops.toList gs=true)(hc:gA P N ops ops.toList=some gs)(hl:∀x∈l,∃g,gs[x.1]?=some g/\x.2.2.erase=g.erase)
 (he:qG H L N env a.tmps)(hs:RelSt H L U w)(hd:a.defers=dfs)
 (h:wpD P (zEq Q) (Q .norm) l env U)(hQ:∀e b v,vS H L w N Q dfs e b v->Qc e b v):(Code.region id ops true).wpIn (Wr ro) 0 P Qc a w:=by
 obtain⟨hlen,hget⟩:=iE hc;have hcm:Comp P N ops l:=⟨fun i f o g ho hg=>by obtain⟨g0,h1,h2⟩:=hl (i,f,g) hg;have h3:=hget i o g0 (by simpa using ho) h1;rw[show g.erase=g0 from h2.trans (iC h3)];exact h3⟩
 have hf:Fits ops l:=⟨fun i f o g ho hg=>(u7 g.op).symm.trans (bN (y4 (hcm.get i f o g ho hg)).1),fun i f o g ho hg=>by obtain⟨g0,h1,h2⟩:=hl (i,f,g) hg;have h3:=hget i o g0 (by simpa using ho) h1;have h4:=uH hlo i o g0 (by simpa using ho) h1;rw[<-zCu,show g.erase=g0 from h2.trans (iC h3)];exact h4⟩
 have hall:∀o∈ops.toList,∀x,o.dst=some x->x<N:=by
  intro o ho;obtain⟨i,hi⟩:=jCv ho;have hlt:i<gs.length:=by rw[hlen];exact(jA4.1 hi).1
  exact(y4 (hget i o _ hi (jA0 hlt))).2.1
 simp only[zD3,jA6,beq_iff_eq]at hB;obtain⟨⟨hB,hsz⟩,_⟩:=hB;refine wpIn_region_any hm ?_;have hs':RelSt H L U {w with drawn:=w.drawn+1}:=hs.heap_eq rfl;have hlex:=nP hf l (Array.replicate ops.size false) env U (fun _ hx=>hx) hB h;rw[hsz]at hlex;have hn:Nxt H L w H L U {w with drawn:=w.drawn+1}:=⟨hs',⟨rfl,rfl,rfl,jA _,fun _ _ _=>rfl,HLe.refl _,fun _ _ _ h=>.inl h,jCk _,fun _ _ h=>h⟩,LLe.refl _,fun _ h=>.inl h⟩;refine lK hcm hall _ _ he hs' hd hlex fun e b v hp=>hQ e b v ?_
 exact hp.next hn
theorem zJD{id:Nat}(hc:qF P N hint (.region id ops true)=some (K.dops l).erase)
 (he:qG H L N env a.tmps)(hs:RelSt H L U w)(h:wpK P n0 (.dops l) Q env U)(hQ:∀e b v,vS H L w N Q a.defers e b v->Qc e b v):(Code.region id ops true).wpIn Fence.wide 0 P Qc a w:=by
 simp only[qF,K.erase]at hc;split at hc<;>try(cases hc;done)
 rename_i l' hl;simp only[if_true]at hc;split at hc<;>try(cases hc;done)
 rename_i r hr;split at hc<;>try(cases hc;done)
 rename_i hb;simp only[jA6]at hb;simp only[jA2,K.dops.injEq]at hc;subst hc;simp only[wpK]at h;have hmem:∀x∈r,∃g,l'[x.1]?=some g/\x.2.2.erase=g.erase:=fun x hx=>by
  split at hr
  .exact zBT hr hx
  .cases hr;exact⟨_,zCy hx,rfl⟩
 exact zMb (ro:=none) (Q:=Q) (dfs:=a.defers) hb.1.2 hb.1.1 hb.2 hl hmem he hs rfl h hQ
variable{rest:Code}
theorem zBe{id:Nat}{l:List KG}(hc:qF P N hint (.region id ops false)=some (K.ops l).erase)
 (he:qG H L N env a.tmps)(hs:RelSt H L U w)(h:wpK P n0 (.ops l) Q env U)
 (hQ:∀env' τ H' L' w' a',a'.defers=a.defers->qG H' L' N env' a'.tmps->Nxt H L w H' L' τ w'->Q .norm env' τ->rest.wpIn Fence.wide 0 P Qc a' w')
 (hX:∀x env' τ H' L' w' a',x≠.norm->a'.defers=a.defers->qG H' L' N env' a'.tmps->Nxt H L w H' L' τ w'->Q x env' τ->Qc x.exit? a' w'):(Code.seq (.region id ops false) rest).wpIn Fence.wide 0 P Qc a w:=by
 refine wpIn_seq (zE4 hc he hs h fun e b v hp=>?_);obtain⟨x,env',τ,H',L',rfl,g2,g3,g4,g5⟩:=hp;cases x with
 |norm=>exact hQ env' τ H' L' v b g2 g3 g4 g5
 |exit i=>exact hX _ env' τ H' L' v b (by simp) g2 g3 g4 g5
 |ret=>exact hX _ env' τ H' L' v b (by simp) g2 g3 g4 g5
 |pan v'=>exact hX _ env' τ H' L' v b (by simp) g2 g3 g4 g5
theorem zRT{id:Nat}(hc:qF P N hint (.region id ops true)=some (K.dops l).erase)
 (he:qG H L N env a.tmps)(hs:RelSt H L U w)(h:wpK P n0 (.dops l) Q env U)
 (hQ:∀env' τ H' L' w' a',a'.defers=a.defers->qG H' L' N env' a'.tmps->Nxt H L w H' L' τ w'->Q .norm env' τ->rest.wpIn Fence.wide 0 P Qc a' w')
 (hX:∀x env' τ H' L' w' a',x≠.norm->a'.defers=a.defers->qG H' L' N env' a'.tmps->Nxt H L w H' L' τ w'->Q x env' τ->Qc x.exit? a' w'):(Code.seq (.region id ops true) rest).wpIn Fence.wide 0 P Qc a w:=by
 refine wpIn_seq (zJD hc he hs h fun e b v hp=>?_);obtain⟨x,env',τ,H',L',rfl,g2,g3,g4,g5⟩:=hp;cases x with
 |norm=>exact hQ env' τ H' L' v b g2 g3 g4 g5
 |exit i=>exact hX _ env' τ H' L' v b (by simp) g2 g3 g4 g5
 |ret=>exact hX _ env' τ H' L' v b (by simp) g2 g3 g4 g5
 |pan v'=>exact hX _ env' τ H' L' v b (by simp) g2 g3 g4 g5
end
end Go.Abs
namespace Go.Proofs.YtdnelmeboihpkaaGreatDoor
open Go.Abs
inductive Val where
 |mk (k n:Int) (kids:List Val)
abbrev wH:=List Val
def Val.k:Val->Int | .mk k _ _=>k
def Val.n:Val->Int | .mk _ n _=>n
def Val.kids:Val->wH | .mk _ _ l=>l
mutual
def vU:Val->A
 | .mk _ _ l=>.sl l.length (zS l)
def zS:List Val->wE
 |[]=>[]
 |v::l=>.lit (.int .i64 v.k)::.lit (.int .i64 v.n)::vU v::zS l
end
def zL(v:Val):wE:=[.lit (.int .i64 v.k),.lit (.int .i64 v.n),.sl v.kids.length (zS v.kids)]
theorem zIk(v:Val):vU v=.sl v.kids.length (zS v.kids):=by cases v;simp only[vU,Val.kids]
@[simp]theorem zDt:zS []=[]:=by simp only[zS]
@[simp]theorem nX(v:Val)(l:wH):zS (v::l)=.lit (.int .i64 v.k)::.lit (.int .i64 v.n)::.sl v.kids.length (zS v.kids)::zS l:=by simp only[zS,zIk]
@[simp]theorem zK5:∀l:wH,(zS l).length=l.length*3
 |[]=>by simp
 |v::l=>by simp[zK5 l];omega
mutual
theorem zIl:∀v:Val,nrm0 (vU v)=vU v/\∀rf g,vw rf g (vU v)=vU v
 | .mk k n l=>by have h:=dW l;simp only[vU];exact⟨by simp[h.1],fun rf g=>by simp[h.2]⟩
theorem dW:∀l:wH,qP (zS l)
 |[]=>by simp only[zS];exact qP.nil
 |v::l=>by have h:=zIl v;have h':=dW l;simp only[zS];exact⟨by simp[h.1,h'.1],fun rf g=>by simp[h.2,h'.2]⟩
end
@[simp]theorem zWd(l:wH):jH (zS l)=zS l:=(dW l).1
@[simp]theorem qAS{rf g}(l:wH):vwL rf g (zS l)=zS l:=(dW l).2 _ _
theorem jY:∀{l:wH} {i:Nat} (h:i<l.length),(zS l).drop (i*3)=.lit (.int .i64 l[i].k)::.lit (.int .i64 l[i].n)::.sl l[i].kids.length (zS l[i].kids)::zS (l.drop (i+1))
 |v::l,0,h=>by simp
 |v::l,i+1,h=>by
  have e:(i+1)*3=i*3+3:=by omega
  rw[e,nX]
  simpa using jY (l:=l) (i:=i) (by simpa using h)
mutual
def qN:Val->Nat
 | .mk _ _ l=>1+jT l
def jT:List Val->Nat
 |[]=>0
 |v::l=>qN v+jT l
end
theorem pX:∀{l:wH} {v:Val},v∈l->qN v<=jT l
 |x::l,v,h=>by
  simp only[jT];rcases jA1.1 h with rfl|h
  .omega
  .have:=pX h;omega
theorem cL{v x:Val}(h:x∈v.kids):qN x<qN v:=by
 cases v with
 |mk k n l=>have:=pX (l:=l) h;simp only[qN];omega
def uV:Val->Int
 | .mk _ _ l=>l.attach.foldl (fun s x=>w64 (s+uV x.1)) 1
termination_by v=>qN v
decreasing_by
 have:=pX x.2;simp only[qN];omega
def zHE(l:wH):Int:=l.foldl (fun s x=>w64 (s+uV x)) 1
theorem zJR(v:Val):uV v=zHE v.kids:=by
 cases v with
 |mk k n l =>
  rw[uV];simp only[Val.kids,zHE];rw[List.foldl_attach (f:=fun s x=>w64 (s+uV x))]
theorem zG6{l:wH}{i:Nat}(h:i<l.length):zHE (l.take (i+1))=IntKind.i64.wrap (zHE (l.take i)+uV l[i]):=by rw[zHE,jA8 h,jCf];rfl
def zO9(a b:Int):Int:=if a<b then b else a
def mZ:Val->Int
 | .mk _ _ l=>w64 (l.attach.foldl (fun s x=>zO9 s (mZ x.1)) 0+1)
termination_by v=>qN v
decreasing_by
 have:=pX x.2;simp only[qN];omega
def zHo(l:wH):Int:=l.foldl (fun s x=>zO9 s (mZ x)) 0
theorem zF7(v:Val):mZ v=w64 (zHo v.kids+1):=by
 cases v with
 |mk k n l =>
  rw[mZ];simp only[Val.kids,zHo];rw[List.foldl_attach (f:=fun s x=>zO9 s (mZ x))]
theorem zGg{l:wH}{i:Nat}(h:i<l.length):zHo (l.take (i+1))=zO9 (zHo (l.take i)) (mZ l[i]):=by rw[zHo,jA8 h,jCf];rfl
mutual
def gU:Val->Val->Int
 | .mk k n l,.mk k' n' l'=>if orI [bM k k',bM n n',bM l.length l'.length]≠0 then orI [bM k k',bM n n',bM l.length l'.length]else bF l l'
def bF:List Val->List Val->Int
 |[],[]=>0
 |[],_::_=>-1
 |_::_,[]=>1
 |a::l,b::l'=>if gU a b≠0 then gU a b else bF l l'
end
def c7(a b:Val):Int:=orI [bM a.k b.k,bM a.n b.n,bM a.kids.length b.kids.length]
theorem eQ(a b:Val):gU a b=if c7 a b≠0 then c7 a b else bF a.kids b.kids:=by cases a;cases b;rw[gU];rfl
theorem zDz(xs ys:wH)(h:∀a∈xs,∀b∈ys,my 60 [.agg (zL a),.agg (zL b)] [] (int (gU a b)) []) :
 my 103 [.sl xs.length (zS xs),.sl ys.length (zS ys),.clo 60 [] []] [] (int (bF xs ys)) []:=by
 refine mq [] [.slot 6] func103 (by kernel_rfl) ?_
 (conv in kq _ _=>cbv)
 simp;intro hl;refine qM (S:=Nat) (fun i=>[(0,.sl xs.length (zS xs)),(1,.sl ys.length (zS ys)),(2,.clo 60 [] []),(11,.sl xs.length (zS xs)),(12,int xs.length),(13,int i)]) (fun s=>[])
  (fun i=>i<=xs.length/\i<=ys.length/\bF xs ys=bF (xs.drop i) (ys.drop i)) (fun i=>xs.length-i) 0 (by simp)
  (mw [] 0 (by rfl) (by simp)) ?_
 rintro i ⟨hi,hi',ho⟩;simp;refine qY (fun h1=>?_) (fun h1=>?_)<;>simp at h1
 .have hd:xs.drop i=xs[i]::xs.drop (i+1):=jB0 h1;simp[h1,jY h1];intro hl';refine qY (fun h2=>?_) (fun h2=>?_)<;>simp at h2
  .simp;have hn:ys.drop i=[]:=jD h2;exact zA 0 (by rw[ho,hd,hn];simp[bF])
  .have hd':ys.drop i=ys[i]::ys.drop (i+1):=jB0 h2;simp[h2,jY h2];refine mu (h xs[i] (jA3 _) ys[i] (jA3 _)) (by simp[zL]) ?_;simp;refine qY (fun h3=>?_) (fun h3=>?_)<;>simp at h3
   .simp;exact zA 0 (by rw[ho,hd,hd'];simp[bF,h3])
   .simp;refine zN (i+1) ⟨h1,h2,by rw[ho,hd,hd'];simp[bF,h3]⟩ (by omega) (mw [] 0 (by rfl) (by simp[z6 h1 hl]))
 .have:i=xs.length:=by omega
  subst this;simp;have hn:xs.drop xs.length=[]:=by simp
  intro _ hl';refine qY (fun h2=>?_) (fun h2=>?_)<;>simp at h2
  .have hd':ys.drop xs.length=ys[xs.length]::ys.drop (xs.length+1):=jB0 h2;simp;exact zA 0 (by rw[ho,hn,hd'];simp[bF])
  .have hn':ys.drop xs.length=[]:=jD h2;simp;exact zA 0 (by rw[ho,hn,hn'];simp[bF])
theorem zCW(a b:Val):my 60 [.agg (zL a),.agg (zL b)] [] (int (gU a b)) []:=by
 refine mq [] [.slot 4] func60 (by kernel_rfl) ?_
 (conv in kq _ _=>cbv)
 simp[zL];refine zZ (gH a.k b.k) (by simp) (by simp) ?_;simp;refine zZ (gH a.n b.n) (by simp) (by simp) ?_;simp;refine zZ (gH a.kids.length b.kids.length) (by simp) (by simp) ?_;simp;refine zZ (zRD [bM a.k b.k,bM a.n b.n,bM a.kids.length b.kids.length]) (by simp) (by simp) ?_;simp;refine qY (fun h=>?_) (fun h=>?_)<;>simp at h
 .simp;exact zA 0 (by rw[eQ];simp[c7,h])
 .simp;refine mu (zDz a.kids b.kids fun x hx y hy=>zCW x y) (by simp) ?_;simp;exact zA 0 (by rw[eQ];simp[c7,h])
termination_by qN a
decreasing_by exact cL hx
variable{a b:Int}
theorem zGM(h:a<b):bM a b = -1:=by simp[bM,h]
theorem zGL(h:b<a):bM a b=1:=by simp[bM,h,Int.not_lt.2 (Int.le_of_lt h)]
theorem zGK(h:b<=a)(h':a<=b):bM a b=0:=by simp[bM,Int.not_lt.2 h,Int.not_lt.2 h']
theorem oV(a b:Val):my 18 [.agg (zL a),.agg (zL b)] [] (int (gU a b)) []:=by
 refine mq [] [.slot 4] func18 (by kernel_rfl) ?_
 (conv in kq _ _=>cbv)
 simp[zL];intro hl hl';refine qM (S:=Nat) (fun i=>[(2,.ptr 0 0),(3,.ptr 1 0),(5,.sl 3 [int a.k,int a.n,int a.kids.length]),(6,.sl 3 [int b.k,int b.n,int b.kids.length]),(7,int i)])
  (fun s=>[.box [int a.k,int a.n,.sl a.kids.length (zS a.kids)],.box [int b.k,int b.n,.sl b.kids.length (zS b.kids)]])
  (fun i=>i<=3/\c7 a b=orI (([bM a.k b.k,bM a.n b.n,bM a.kids.length b.kids.length]).drop i)) (fun i=>3-i) 0 (by simp[c7])
  (mw [0,1] 0 (by rfl) (by simp)) ?_
 rintro i ⟨hi,ho⟩;rcases (by omega:i=0\/i=1\/i=2\/i=3)with rfl|rfl|rfl|rfl
 .simp;refine qY (fun h1=>?_) (fun h1=>?_)<;>simp at h1
  .simp;exact zA 0 (by rw[eQ,ho];simp[orI,zGM h1])
  simp;refine qY (fun h2=>?_) (fun h2=>?_)<;>simp at h2
  .simp;exact zA 0 (by rw[eQ,ho];simp[orI,zGL h2])
  simp;exact zN 1 ⟨by omega,by rw[ho];simp[orI,zGK h1 h2]⟩ (by omega) (kf [0,1] 0 (by rfl) (by simp) (by simp;rfl))
 .simp;refine qY (fun h1=>?_) (fun h1=>?_)<;>simp at h1
  .simp;exact zA 0 (by rw[eQ,ho];simp[orI,zGM h1])
  simp;refine qY (fun h2=>?_) (fun h2=>?_)<;>simp at h2
  .simp;exact zA 0 (by rw[eQ,ho];simp[orI,zGL h2])
  simp;exact zN 2 ⟨by omega,by rw[ho];simp[orI,zGK h1 h2]⟩ (by omega) (kf [0,1] 0 (by rfl) (by simp) (by simp;rfl))
 .simp;refine qY (fun h1=>?_) (fun h1=>?_)<;>simp at h1
  .simp;exact zA 0 (by rw[eQ,ho];simp[orI,zGM (Int.ofNat_lt.2 h1)])
  simp;refine qY (fun h2=>?_) (fun h2=>?_)<;>simp at h2
  .simp;exact zA 0 (by rw[eQ,ho];simp[orI,zGL (Int.ofNat_lt.2 h2)])
  simp;exact zN 3 ⟨by omega,by rw[ho];simp[orI,zGK (Int.ofNat_le.2 h1) (Int.ofNat_le.2 h2)]⟩ (by omega) (kf [0,1] 0 (by rfl) (by simp) (by simp;rfl))
 have hlen:a.kids.length=b.kids.length:=by
  have h0:c7 a b=0:=by rw[ho];rfl
  simp only[c7,orI]at h0;split at h0<;>try contradiction
  split at h0<;>try contradiction
  split at h0<;>try contradiction
  rename_i _ _ h;simp only[bM]at h;split at h
  .cases h
  .split at h
   .cases h
   .omega
 simp;refine qM (S:=Nat) (fun i=>[(2,.ptr 0 0),(3,.ptr 1 0),(8,int i)])
  (fun s=>[.box [int a.k,int a.n,.sl a.kids.length (zS a.kids)],.box [int b.k,int b.n,.sl b.kids.length (zS b.kids)]])
  (fun i=>i<=a.kids.length/\gU a b=bF (a.kids.drop i) (b.kids.drop i)) (fun i=>a.kids.length-i) 0 ⟨by omega,by rw[eQ,ho];simp[orI]⟩
  (mw [0,1] 0 (by rfl) (by simp)) ?_
 rintro i ⟨hi,ho⟩;simp;intro _;refine qY (fun h1=>?_) (fun h1=>?_)<;>simp at h1
 .have h2:i<b.kids.length:=by omega
  have hd:a.kids.drop i=a.kids[i]::a.kids.drop (i+1):=jB0 h1;have hd':b.kids.drop i=b.kids[i]::b.kids.drop (i+1):=jB0 h2;simp[h1,h2,jY h1,jY h2];refine zZ (oV a.kids[i] b.kids[i]) (by simp[zL]) (by simp) ?_;simp;refine qY (fun h3=>?_) (fun h3=>?_)<;>simp at h3
  .simp;exact zA 0 (by rw[ho,hd,hd'];simp[bF,h3])
  .simp;exact zN (i+1) ⟨h1,by rw[ho,hd,hd'];simp[bF,h3]⟩ (by omega) (mw [0,1] 0 (by rfl) (by simp[z6 h1 hl]))
 .simp;have e1:a.kids.drop i=[]:=jD h1;have e2:b.kids.drop i=[]:=jD (by omega);exact zA 0 (by rw[ho,e1,e2];simp[bF])
termination_by qN a
decreasing_by exact cL (jA3 _)
theorem zDs:∀{R:wF} {k:Nat} (x:Id),k<R.length->(zP R).take (k*3)++(.lit (.int .i64 x.a)::.lit (.int .i64 x.b)::.lit (.int .i64 x.c)::(zP R).drop (k*3+3))=zP (R.set k x)
 |v::R,0,x,h=>by simp
 |v::R,k+1,x,h=>by
  have e:(k+1)*3=k*3+3:=by omega
  have:=zDs (R:=R) (k:=k) x (by simpa using h);rw[e,fC,List.set_cons_succ,fC,<-this];simp
def uY(n:Nat):wF:=List.replicate n Id.zero
theorem zAz:∀n:Nat,zP (uY n)=(List.replicate n [A.lit (.int .i64 0),A.lit (.int .i64 0),A.lit (.int .i64 0)]).flatten
 | 0=>rfl
 |n+1=>by have:=zAz n;simp only[uY,List.replicate_succ,List.flatten_cons]at this ⊢;rw[<-this];rfl
end Go.Proofs.YtdnelmeboihpkaaGreatDoor
