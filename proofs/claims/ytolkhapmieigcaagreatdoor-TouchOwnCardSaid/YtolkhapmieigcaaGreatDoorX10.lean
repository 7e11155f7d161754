/- An evaluator of small code at closed abstract states: code, functions, calls. -/
import Derived.Test.YtolkhapmieigcaaGreatDoorX8
set_option linter.unusedVariables false
set_option maxHeartbeats 8000000
set_option maxRecDepth 100000
set_option linter.unusedSimpArgs false
open Go.Proofs.Tryz
namespace Go.Abs
section
variable{P:Program}{n0:Nat}
abbrev Run:=FuncId->List A->St->Option (A×St)
abbrev Res:=Option (Ex×List (Nat×A)×St)
theorem zTM{env:Env} {U:St}:fU n0 env (U++[AObj.rsv]) env U:=by
 intro H0 L0 w0 H L w N tmps h0 h1 h2;have hll:=LLe.append L [(⟨none,0,0,false⟩:LI)];refine⟨H,L++[(⟨none,0,0,false⟩:LI)],h1.trans ?_,h2.mono (HLe.refl _) hll⟩;have hs:=h1.st;refine⟨⟨hs.pers,by simp[hs.len],fun i l o hL hU=>?_,fun i j x y b hi hj hx hy=>?_,fun i x b hi hx=>?_⟩,Step.refl _ _ _,hll,fun b ⟨i,x,hi,hx⟩=>?_⟩
 .rcases jU hL with hL'|⟨rfl,rfl⟩
  .have hi:i<L.length:=(jA5.1 hL').1;rw[jAp (by rw[<-hs.len];exact hi)]at hU;exact(hs.obj i l o hL' hU).carry (fun _ _=>rfl) (HLe.refl _) hll (fun _ _ _=>rfl)
  .rw[hs.len]at hU;rw[jB9 (jA _)]at hU;simp only[jBn,jB8,jA3]at hU;subst hU;exact⟨rfl,rfl⟩
 .rcases jU hi with hi'|⟨rfl,rfl⟩
  .rcases jU hj with hj'|⟨rfl,rfl⟩
   .exact hs.inj i j x y b hi' hj' hx hy
   .cases hy
  .cases hx
 .rcases jU hi with hi'|⟨rfl,rfl⟩
  .exact hs.lt i x b hi' hx
  .cases hx
 .rcases jU hi with hi'|⟨rfl,rfl⟩
  .exact .inl ⟨i,x,hi',hx⟩
  .cases hx
theorem b9{env:Env}:∀(n:Nat) {U:St},fU n0 env (U++List.replicate n AObj.rsv) env U
 | 0,U=>by simpa using fU.refl n0 env U
 |n+1,U=>by
  have:=(zTM (n0:=n0) (env:=env) (U:=U)).trans (b9 n);rw[List.replicate_succ]
  simpa using this
structure Entry where
 k:K
 rs:List RS
 frz:Bool
def zZk(f:Nat):List (Nat×Entry)->Option Entry
 |[]=>none
 |p::l=>bif Nat.beq f p.1 then some p.2 else zZk f l
end
end Go.Abs
namespace Go.Abs
section
variable{d:wD}{x v:Operand}{n f:Nat}{g:Bool}{env:Env} {U:St}
@[simp]theorem qH9(h1:1000<=f)(h2:f<2000):dD f (.st d x v n) env=pP (f-1000) (ev env x):=propext (zJ4 h1 h2)
@[simp]theorem qH6(h1:2000<=f)(h2:f<4000):dD f (.ld d x n g) env=eX (f-2000) (ev env x):=propext (zAo h1 h2)
variable{c:Nat}
@[simp]theorem zUZ{l o:Nat}:pP c (.ptr l o)=(l<c):=rfl
@[simp]theorem zUY{l o:Nat}:eX c (.ptr l o)=(c<=l):=rfl
@[simp]theorem zUX{v:Value}:eX c (.lit v)=True:=rfl
@[simp]theorem qHv(h1:2<f):oW f U = U:=by unfold oW;rw[if_neg (by omega),if_neg (by omega)]
@[simp]theorem qH7{o:KOp}(h1:6<f)(h2:f<1000):dD f o env=True:=by
 unfold dD;split
 .omega
 .omega
 .rw[if_neg (by omega),if_neg (by omega),if_neg (by omega)]
end
section
variable{n0:Nat}{env:Env} {U:St}
end
end Go.Abs
namespace Go.Proofs.YtolkhapmieigcaaGreatDoor
open Go.Abs
def zMK{β:Type}(cf : β->β->Int)(x : β):List β->List β
 |[]=>[x]
 |y::l=>if cf y x<0 then y::zMK cf x l else x::y::l
def zIX{β:Type}(cf : β->β->Int):List β->List β
 |[]=>[]
 |x::l=>zMK cf x (zIX cf l)
theorem zDd{β:Type}(cf : β->β->Int)(x : β):∀l,(zMK cf x l).Perm (x::l)
 |[]=>.refl _
 |y::l=>by
  unfold zMK;split
  .exact((zDd cf x l).cons y).trans (.swap x y l)
  .exact .refl _
theorem zEc{β:Type}{cf : β->β->Int}(ho:Ord cf)(x : β):∀{l:List β},l.Pairwise (fun x y=>¬cf y x<0)->(zMK cf x l).Pairwise (fun x y=>¬cf y x<0)
 |[],_=>by simp[zMK]
 |y::l,h=>by
  obtain⟨h1,h2⟩:=jC2.1 h;unfold zMK;split
  .rename_i hy;refine jC2.2 ⟨fun z hz=>?_,zEc ho x h2⟩;rcases jA1.1 ((zDd cf x l).mem_iff.1 hz)with rfl|hz
   .exact fun hh=>ho.irrefl _ (ho.trans _ _ _ hy hh)
   .exact h1 z hz
  .rename_i hy;refine jC2.2 ⟨fun z hz=>?_,h⟩;rcases jA1.1 hz with rfl|hz
   .exact hy
   .exact ho.ntrans _ _ _ (h1 z hz) hy
theorem zDf{β:Type}{cf : β->β->Int}(ho:Ord cf):∀l:List β,(zIX cf l).Perm l/\(zIX cf l).Pairwise (fun x y=>¬cf y x<0)
 |[]=>⟨.refl _,.nil⟩
 |x::l=>by obtain⟨h1,h2⟩:=zDf ho l;exact⟨(zDd cf x _).trans (h1.cons x),zEc ho x h2⟩
theorem pX{β:Type}{cf : β->β->Int}(ho:Ord cf)(l:List β):bQ cf l=zIX cf l:=(zCw ho (zDf ho l).1 (zDf ho l).2).symm
variable{x y:Id}
theorem zAg:cG x y=true↔x.a<y.a\/(x.a=y.a/\(x.b<y.b\/(x.b=y.b/\x.c<y.c))):=by
 unfold cG;split
 .simp only[decide_eq_true_eq];omega
 .split
  .simp only[decide_eq_true_eq];omega
  .simp only[decide_eq_true_eq];omega
theorem zAh:cG x y=false↔¬(x.a<y.a\/(x.a=y.a/\(x.b<y.b\/(x.b=y.b/\x.c<y.c)))):=by rw[<-zAg];simp
theorem eY(x:Id):cG x x=false:=by rw[zAh];omega
theorem zEf{z:Id}(h:cG x y=true)(k:cG y z=true):cG x z=true:=by rw[zAg]at *;omega
theorem tK(h:cG x y=false)(k:cG y x=false):x=y:=by
 rw[zAh]at *
 rw[Id.eq_iff];omega
theorem zMQ(h:cG x y=true):cG y x=false:=by rw[zAg]at h;rw[zAh];omega
theorem vC:iM x y<0↔cG x y=true:=by
 rw[zAg];simp only[iM,orI,aW]
 repeat' split
 all_goals omega
theorem iZ:Ord iM where
 irrefl x:=by rw[vC,eY];simp
 trans x y z h k:=by rw[vC]at *;exact zEf h k
 ntrans x y z h k:=by
  rw[vC,jCc]at *
  rw[zAh]at *;omega
 anti x y h k:=by
  rw[vC,jCc]at *
  exact tK h k
def SS(l:wG):Prop:=l.Pairwise fun x y=>cG x y=true
theorem zFA{x y:Id}:∀{l:wG},y∈iV l x↔y∈l\/y=x
 |[]=>by simp[iV]
 |z::l=>by
  simp only[iV];split
  .simp only[jA1,zFA (l:=l),or_assoc]
  .split
   .rename_i h;subst h;simp only[jA1];constructor
    .exact fun h=>.inl h
    .rintro(h|h)
     .exact h
     .exact .inl h
   .simp only[jA1];constructor
    all_goals
     rintro(h|h)
     .exact .inr h
     .exact .inl h
theorem zOm{x:Id}:∀{l:wG},SS l->SS (iV l x)
 |[],_=>by simp[iV,SS]
 |z::l,h=>by
  have h':=jC2.1 h;simp only[iV];split
  .rename_i hz;refine jC2.2 ⟨fun y hy=>?_,zOm h'.2⟩;rcases zFA.1 hy with hy|rfl
   .exact h'.1 y hy
   .exact hz
  .rename_i hz;split
   .exact h
   .rename_i hne;have hxz:cG x z=true:=by
     cases hh:cG x z with
     |true=>rfl
     |false=>exact(hne (tK (by simpa using hz) hh)).elim
    refine jC2.2 ⟨fun y hy=>?_,h⟩;rcases jA1.1 hy with rfl|hy
    .exact hxz
    .exact zEf hxz (h'.1 y hy)
theorem zKr:∀{l acc:wG},SS acc->SS (l.foldl iV acc)
 |[],_,h=>h
 |_::l,_,h=>zKr (l:=l) (zOm h)
theorem zH4{y:Id}:∀{l acc:wG},y∈l.foldl iV acc↔y∈acc\/y∈l
 |[],_=>by simp
 |x::l,acc=>by simp only[jAw,zH4 (l:=l),zFA,jA1,or_assoc]
theorem SS.unique:∀{l l':wG},SS l->SS l'->(∀x,x∈l↔x∈l')->l=l'
 |[],[],_,_,_=>rfl
 |[],y::l',_,_,h=>by have:=(h y).2 (jAm ..);simp at this
 |x::l,[],_,_,h=>by have:=(h x).1 (jAm ..);simp at this
 |x::l,y::l',h1,h2,h=>by
  have p1:=jC2.1 h1;have p2:=jC2.1 h2;have hxy:x=y:=by
   rcases jA1.1 ((h x).1 (jAm ..))with e|e
   .exact e
   .rcases jA1.1 ((h y).2 (jAm ..))with e'|e'
    .exact e'.symm
    .have a:=p2.1 x e;have b:=p1.1 y e';rw[zMQ b]at a;cases a
  subst hxy
  congr 1
  refine SS.unique p1.2 p2.2 fun z=>?_
  constructor
  .intro hz;rcases jA1.1 ((h z).1 (jAk _ hz))with e|e
   .have:=p1.1 z hz;subst e;rw[eY]at this;cases this
   .exact e
  .intro hz;rcases jA1.1 ((h z).2 (jAk _ hz))with e|e
   .have:=p2.1 z hz;subst e;rw[eY]at this;cases this
   .exact e
theorem fT{α:Type}{motive:List α->Prop}(nil:motive [])(snoc:∀l y,motive l->motive (l++[y]))(l:List α):motive l:=by
 have h:∀r:List α,motive r.reverse:=fun r=>by
  induction r with
  |nil=>exact nil
  |cons a r ih=>rw[List.reverse_cons];exact snoc _ _ ih
 have:=h l.reverse
 rwa[List.reverse_reverse]at this
def zAA(acc:wG)(y:Id):wG:=if acc.getLast?=some y then acc else acc++[y]
def yS(l:wG):wG:=l.foldl zAA []
theorem lN(l:wG)(y:Id):yS (l++[y])=zAA (yS l) y:=by simp[yS,jBv]
theorem zFi:∀(l:wG),(yS l).getLast?=l.getLast?:=by
 intro l;induction l using fT with
 |nil=>rfl
 |snoc l y ih =>
  rw[lN,zAA];split
  .rename_i h;rw[h];simp
  .simp
theorem zCO(l:wG):x∈yS l↔x∈l:=by
 induction l using fT with
 |nil=>simp[yS]
 |snoc l y ih =>
  rw[lN,zAA];split
  .rename_i h;have hy:y∈yS l:=List.mem_of_getLast? h;simp only[ih,jA6,jAi];constructor
   .exact .inl
   .rintro(h|rfl)
    .exact h
    .exact ih.1 hy |> fun h=>h
  .simp[ih]
theorem zRM(l:wG)(h:l.Pairwise fun x y=>cG y x=false):SS (yS l):=by
 induction l using fT with
 |nil=>simp[yS,SS]
 |snoc l y ih =>
  rw[jCu]at h;have hi:=ih h.1;rw[lN,zAA];split
  .exact hi
  .rename_i hne;unfold SS;rw[jCu];refine⟨hi,by simp,fun z hz y' hy'=>?_⟩;simp only[jAi]at hy';subst hy';have hzl:=(zCO l).1 hz;have h1:=h.2.2 z hzl y' (by simp);cases hh:cG z y' with
   |true=>rfl
   |false =>
    exfalso;have e:=tK hh h1;subst e;rw[zFi]at hne;have hl:l≠[]:=fun e=>by rw[e]at hzl;simp at hzl
    obtain⟨w,hw⟩:∃w,l.getLast?=some w:=⟨_,List.getLast?_eq_some_getLast hl⟩;have hwl:w∈l:=List.mem_of_getLast? hw;have h2:=h.2.2 w hwl z (by simp);have hwz:w=z\/cG w z=false:=by
     obtain⟨l',rfl⟩:∃l',l=l'++[w]:=List.getLast?_eq_some_iff.1 hw;rcases jA6.1 hzl with hz'|hz'
     .have:=h.1;rw[jCu]at this;exact .inr (this.2.2 z hz' w (by simp))
     .exact .inl (jAi.1 hz').symm
    have:w=z:=by
     rcases hwz with e|e
     .exact e
     .exact tK e h2
    subst this;exact hne hw
def aT(l:wG):wG:=yS (bQ iM l)
theorem fZ(l:wG):(bQ iM l).Perm l:=List.mergeSort_perm l _
theorem zJ1(l:wG):(bQ iM l).Pairwise fun x y=>cG y x=false:=by
 have h:=List.pairwise_mergeSort (le:=fun x y=>!decide (iM y x<0)) (fun a b c h1 h2=>by simp only[jC3,decide_eq_false_iff_not]at *;exact iZ.ntrans c b a h2 h1)
  (fun a b=>by
   simp only[jBc,jC3,decide_eq_false_iff_not];by_cases h:iM b a<0
   .exact .inr fun h'=>iZ.irrefl _ (iZ.trans _ _ _ h h')
   .exact .inl h) l
 exact h.imp fun h=>by simp only[jC3,decide_eq_false_iff_not,vC,jCc]at h;exact h
theorem yX{l:wG}:x∈aT l↔x∈l:=by rw[aT,zCO,(fZ l).mem_iff]
theorem pW(l:wG):SS (aT l):=zRM _ (zJ1 l)
theorem i7(l:wG):aT l=l.foldl iV [] :=
 SS.unique (pW l) (zKr (by simp[SS])) fun x=>by rw[yX,zH4];simp
end Go.Proofs.YtolkhapmieigcaaGreatDoor
namespace Go.Proofs.YtolkhapmieigcaaGreatDoor
open Go.Abs
@[simp]theorem qFu(d:Id):(zS d).take 3=zS d:=jAl (jA _)
@[simp]theorem qFv(d:Id):(zS d).length=3:=rfl
theorem zFu(d:Id):j4 (zS d):=j4.lit (j4.lit (j4.lit j4.nil))
@[simp]theorem qB1(d:Id):jV (zS d)=zS d:=(zFu d).1
@[simp]theorem qKt(d:Id) {rf g}:vwL rf g (zS d)=zS d:=(zFu d).2 _ _
def zSb(s:ByteArray):wF:=[.lit (.string s)]
def yJ(l:List ByteArray):wF:=l.flatMap zSb
theorem zMy(s:ByteArray):j4 (zSb s):=j4.lit j4.nil
theorem eT(l:List ByteArray):j4 (yJ l):=dJ zMy l
@[simp]theorem zXt(l:List ByteArray):jV (yJ l)=yJ l:=(eT l).1
@[simp]theorem qCj{rf g}(l:List ByteArray):vwL rf g (yJ l)=yJ l:=(eT l).2 _ _
@[simp]theorem zYE(l:List ByteArray):(yJ l).length=l.length:=by rw[yJ,fA (k:=1) (fun _=>rfl),Nat.mul_one]
@[simp]theorem zYF:yJ []=[]:=rfl
inductive Typ where
 |mk (k:Int) (id:Id) (kids:List Typ)
abbrev wT:=List Typ
def Typ.k:Typ->Int | .mk k _ _=>k
def Typ.id:Typ->Id | .mk _ d _=>d
def Typ.kids:Typ->wT | .mk _ _ l=>l
variable{l:wT}
@[simp]theorem Typ.k_mk{k:Int}{i:Id}:(Typ.mk k i l).k=k:=rfl
@[simp]theorem Typ.id_mk{k:Int}{i:Id}:(Typ.mk k i l).id=i:=rfl
@[simp]theorem Typ.kids_mk{k:Int}{i:Id}:(Typ.mk k i l).kids=l:=rfl
mutual
def zDI:Typ->A
 | .mk _ _ l=>.sl l.length (jM l)
def jM:List Typ->wF
 |[]=>[]
 |t::l=>.lit (.int .i64 t.k)::.lit (.int .i64 t.id.a)::.lit (.int .i64 t.id.b)::.lit (.int .i64 t.id.c)::zDI t::jM l
end
theorem zRH(t:Typ):zDI t=.sl t.kids.length (jM t.kids):=by cases t;simp only[zDI,Typ.kids]
def zF(t:Typ):wF:=[.lit (.int .i64 t.k),.lit (.int .i64 t.id.a),.lit (.int .i64 t.id.b),.lit (.int .i64 t.id.c),.sl t.kids.length (jM t.kids)]
theorem lM(l:wT):jM l=l.flatMap zF:=by
 induction l with
 |nil=>simp only[jM,List.flatMap_nil]
 |cons t l ih=>simp only[jM,jBo,ih,zRH,zF];rfl
mutual
theorem zJU:∀t:Typ,nrm0 (zDI t)=zDI t/\∀rf g,vw rf g (zDI t)=zDI t
 | .mk k n l=>by have h:=yW l;simp only[zDI];exact⟨by simp[h.1],fun rf g=>by simp[h.2]⟩
theorem yW:∀l:wT,j4 (jM l)
 |[]=>by simp only[jM];exact j4.nil
 |v::l=>by have h:=zJU v;have h':=yW l;simp only[jM];exact⟨by simp[h.1,h'.1],fun rf g=>by simp[h.2,h'.2]⟩
end
theorem zFv(t:Typ):j4 (zF t):=j4.lit (j4.lit (j4.lit (j4.lit (j4.sl (yW _) j4.nil))))
inductive Exp where
 |mk (id:Id) (k n:Int) (ref:Id) (typ:Typ) (kids:List Exp) (names:List ByteArray)
abbrev wH:=List Exp
def Exp.id:Exp->Id | .mk x _ _ _ _ _ _=>x
def Exp.k:Exp->Int | .mk _ x _ _ _ _ _=>x
def Exp.n:Exp->Int | .mk _ _ x _ _ _ _=>x
def Exp.ref:Exp->Id | .mk _ _ _ x _ _ _=>x
def Exp.typ:Exp->Typ | .mk _ _ _ _ x _ _=>x
def Exp.kids:Exp->wH | .mk _ _ _ _ _ x _=>x
def Exp.names:Exp->List ByteArray | .mk _ _ _ _ _ _ x=>x
variable{a d:Id}{b c:Int}{e:Typ}{f:wH}{g:List ByteArray}
@[simp]theorem Exp.id_mk:(Exp.mk a b c d e f g).id=a:=rfl
@[simp]theorem Exp.k_mk:(Exp.mk a b c d e f g).k=b:=rfl
@[simp]theorem Exp.n_mk:(Exp.mk a b c d e f g).n=c:=rfl
@[simp]theorem Exp.ref_mk:(Exp.mk a b c d e f g).ref=d:=rfl
@[simp]theorem Exp.typ_mk:(Exp.mk a b c d e f g).typ=e:=rfl
@[simp]theorem Exp.kids_mk:(Exp.mk a b c d e f g).kids=f:=rfl
@[simp]theorem Exp.names_mk:(Exp.mk a b c d e f g).names=g:=rfl
mutual
def zDH:Exp->A
 | .mk _ _ _ _ _ l _=>.sl l.length (qM l)
def qM:List Exp->wF
 |[]=>[]
 |e::l=>[.lit (.int .i64 e.id.a),.lit (.int .i64 e.id.b),.lit (.int .i64 e.id.c),.lit (.int .i64 e.k),.lit (.int .i64 e.n),.lit (.int .i64 e.ref.a),.lit (.int .i64 e.ref.b),.lit (.int .i64 e.ref.c),.lit (.int .i64 e.typ.k),.lit (.int .i64 e.typ.id.a),.lit (.int .i64 e.typ.id.b),.lit (.int .i64 e.typ.id.c),.sl e.typ.kids.length (jM e.typ.kids),zDH e,.sl e.names.length (yJ e.names)]++qM l
end
theorem zRG(e:Exp):zDH e=.sl e.kids.length (qM e.kids):=by cases e;simp only[zDH,Exp.kids]
def zG(e:Exp):wF:=[.lit (.int .i64 e.id.a),.lit (.int .i64 e.id.b),.lit (.int .i64 e.id.c),.lit (.int .i64 e.k),.lit (.int .i64 e.n),.lit (.int .i64 e.ref.a),.lit (.int .i64 e.ref.b),.lit (.int .i64 e.ref.c),.lit (.int .i64 e.typ.k),.lit (.int .i64 e.typ.id.a),.lit (.int .i64 e.typ.id.b),.lit (.int .i64 e.typ.id.c),.sl e.typ.kids.length (jM e.typ.kids),.sl e.kids.length (qM e.kids),.sl e.names.length (yJ e.names)]
theorem gC(l:wH):qM l=l.flatMap zG:=by
 induction l with
 |nil=>simp only[qM,List.flatMap_nil]
 |cons t l ih=>simp only[qM,jBo,ih,zRG,zG]
mutual
theorem zJT:∀t:Exp,nrm0 (zDH t)=zDH t/\∀rf g,vw rf g (zDH t)=zDH t
 | .mk _ _ _ _ _ l _=>by have h:=gD l;simp only[zDH];exact⟨by simp[h.1],fun rf g=>by simp[h.2]⟩
theorem gD:∀l:wH,j4 (qM l)
 |[]=>by simp only[qM];exact j4.nil
 |v::l=>by have h:=zJT v;have h':=gD l;have h1:=yW v.typ.kids;have h2:=eT v.names;simp only[qM];exact⟨by simp[h.1,h'.1,h1.1,h2.1],fun rf g=>by simp[h.2,h'.2,h1.2,h2.2]⟩
end
theorem zAR(e:Exp):j4 (zG e):=by have h:=gD e.kids;have h1:=yW e.typ.kids;have h2:=eT e.names;exact⟨by simp[zG,h.1,h1.1,h2.1],fun rf g=>by simp[zG,h.2,h1.2,h2.2]⟩
structure Slt where
 id:Id
 name:ByteArray
 typ:Typ
 most:Int
 place:Int
def aF(s:Slt):wF:=[.lit (.int .i64 s.id.a),.lit (.int .i64 s.id.b),.lit (.int .i64 s.id.c),.lit (.string s.name),.lit (.int .i64 s.typ.k),.lit (.int .i64 s.typ.id.a),.lit (.int .i64 s.typ.id.b),.lit (.int .i64 s.typ.id.c),.sl s.typ.kids.length (jM s.typ.kids),.lit (.int .i64 s.most),.lit (.int .i64 s.place)]
theorem s8(s:Slt):j4 (aF s):=by have h1:=yW s.typ.kids;exact⟨by simp[aF,h1.1],fun rf g=>by simp[aF,h1.2]⟩
def qP(l:List Slt):wF:=l.flatMap aF
theorem dW(l:List Slt):qP l=l.flatMap aF:=rfl
structure Dfn where
 id:Id
 kind:Int
 mod:Id
 name:ByteArray
 slots:List Slt
 res:Typ
 body:Exp
 place:Int
 lay:List ByteArray
abbrev wS:=List Dfn
def zJ(d:Dfn):wF:=[.lit (.int .i64 d.id.a),.lit (.int .i64 d.id.b),.lit (.int .i64 d.id.c),.lit (.int .i64 d.kind),.lit (.int .i64 d.mod.a),.lit (.int .i64 d.mod.b),.lit (.int .i64 d.mod.c),.lit (.string d.name),.sl d.slots.length (qP d.slots),.lit (.int .i64 d.res.k),.lit (.int .i64 d.res.id.a),.lit (.int .i64 d.res.id.b),.lit (.int .i64 d.res.id.c),.sl d.res.kids.length (jM d.res.kids),.lit (.int .i64 d.body.id.a),.lit (.int .i64 d.body.id.b),.lit (.int .i64 d.body.id.c),.lit (.int .i64 d.body.k),.lit (.int .i64 d.body.n),.lit (.int .i64 d.body.ref.a),.lit (.int .i64 d.body.ref.b),.lit (.int .i64 d.body.ref.c),.lit (.int .i64 d.body.typ.k),.lit (.int .i64 d.body.typ.id.a),.lit (.int .i64 d.body.typ.id.b),.lit (.int .i64 d.body.typ.id.c),.sl d.body.typ.kids.length (jM d.body.typ.kids),.sl d.body.kids.length (qM d.body.kids),.sl d.body.names.length (yJ d.body.names),.lit (.int .i64 d.place),.sl d.lay.length (yJ d.lay)]
theorem s7(d:Dfn):j4 (zJ d):=by have h1:=yW d.res.kids;have h2:=yW d.body.typ.kids;have h3:=gD d.body.kids;have h4:=eT d.body.names;have h5:=eT d.lay;have h6:=dJ s8 d.slots;exact⟨by simp[zJ,qP,h1.1,h2.1,h3.1,h4.1,h5.1,h6.1],fun rf g=>by simp[zJ,qP,h1.2,h2.2,h3.2,h4.2,h5.2,h6.2]⟩
def zQ(l:wS):wF:=l.flatMap zJ
theorem dV(l:wS):zQ l=l.flatMap zJ:=rfl
structure Md where
 id:Id
 name:ByteArray
 uses:List Id
 defs:List Id
def rB(m:Md):wF:=[.lit (.int .i64 m.id.a),.lit (.int .i64 m.id.b),.lit (.int .i64 m.id.c),.lit (.string m.name),.sl m.uses.length (zY m.uses),.sl m.defs.length (zY m.defs)]
theorem zAT(m:Md):j4 (rB m):=by have h1:=gE m.uses;have h2:=gE m.defs;exact⟨by simp[rB,h1.1,h2.1],fun rf g=>by simp[rB,h1.2,h2.2]⟩
def qA(l:List Md):wF:=l.flatMap rB
theorem xX(l:List Md):qA l=l.flatMap rB:=rfl
structure Prg where
 mods:List Md
 defs:List Dfn
def zI(p:Prg):wF:=[.sl p.mods.length (qA p.mods),.sl p.defs.length (zQ p.defs)]
theorem eP(p:Prg):zI p=[.sl p.mods.length (qA p.mods),.sl p.defs.length (zQ p.defs)]:=rfl
@[simp]theorem zXw(l:wT):jV (jM l)=jM l:=(yW l).1
@[simp]theorem qCn{rf g}(l:wT):vwL rf g (jM l)=jM l:=(yW l).2 _ _
@[simp]theorem zYN:jM []=[]:=by rw[lM];rfl
theorem qX(x:Typ)(l:wT):jM (x::l)=zF x++jM l:=by rw[lM,lM];rfl
theorem p9(l l':wT):jM (l++l')=jM l++jM l':=by simp only[lM,jCd]
@[simp]theorem zYM(l:wT):(jM l).length=l.length*5:=by rw[lM,fA (k:=5) (fun _=>rfl)]
variable{i:Nat}
theorem iG(h:i<l.length):(jM l).drop (i*5)=zF l[i]++jM (l.drop (i+1)):=by rw[lM,lM,gH (k:=5) (fun _=>rfl) h]
@[simp]theorem qF1(d:Typ):(zF d).length=5:=rfl
@[simp]theorem qF0(d:Typ):(zF d).take 5=zF d:=jAl (jA _)
@[simp]theorem qAW(d:Typ)(l:wF):(zF d++l).take 5=zF d:=by rw[jCe (by simp)];exact jAl (by simp)
@[simp]theorem qB4(d:Typ):jV (zF d)=zF d:=(zFv d).1
@[simp]theorem qKw(d:Typ) {rf g}:vwL rf g (zF d)=zF d:=(zFv d).2 _ _
@[simp]theorem zXo(l:wH):jV (qM l)=qM l:=(gD l).1
@[simp]theorem qCe{rf g}(l:wH):vwL rf g (qM l)=qM l:=(gD l).2 _ _
@[simp]theorem zY7:qM []=[]:=by rw[gC];rfl
theorem zL(x:Exp)(l:wH):qM (x::l)=zG x++qM l:=by rw[gC,gC];rfl
theorem zA1(l l':wH):qM (l++l')=qM l++qM l':=by simp only[gC,jCd]
@[simp]theorem zY6(l:wH):(qM l).length=l.length*15:=by rw[gC,fA (k:=15) (fun _=>rfl)]
theorem yB{l:wH}(h:i<l.length):(qM l).drop (i*15)=zG l[i]++qM (l.drop (i+1)):=by rw[gC,gC,gH (k:=15) (fun _=>rfl) h]
theorem bD{l:wH}(h:i<l.length):qM (l.take (i+1))=qM (l.take i)++zG l[i]:=by rw[gC,gC,iU (k:=15) (fun _=>rfl) h]
@[simp]theorem qFr(d:Exp):(zG d).length=15:=rfl
@[simp]theorem qFq(d:Exp):(zG d).take 15=zG d:=jAl (jA _)
@[simp]theorem qAS(d:Exp)(l:wF):(zG d++l).take 15=zG d:=by rw[jCe (by simp)];exact jAl (by simp)
@[simp]theorem qBz(d:Exp):jV (zG d)=zG d:=(zAR d).1
@[simp]theorem qKr(d:Exp) {rf g}:vwL rf g (zG d)=zG d:=(zAR d).2 _ _
theorem zBF(l:List Slt):j4 (qP l):=dJ s8 l
@[simp]theorem zXv(l:List Slt):jV (qP l)=qP l:=(zBF l).1
@[simp]theorem qCm{rf g}(l:List Slt):vwL rf g (qP l)=qP l:=(zBF l).2 _ _
@[simp]theorem zYL:qP []=[]:=by rw[dW];rfl
theorem zDM(x:Slt)(l:List Slt):qP (x::l)=aF x++qP l:=by rw[dW,dW];rfl
theorem zGQ(l l':List Slt):qP (l++l')=qP l++qP l':=by simp only[dW,jCd]
@[simp]theorem zYK(l:List Slt):(qP l).length=l.length*11:=by rw[dW,fA (k:=11) (fun _=>rfl)]
theorem qW{l:List Slt}(h:i<l.length):(qP l).drop (i*11)=aF l[i]++qP (l.drop (i+1)):=by rw[dW,dW,gH (k:=11) (fun _=>rfl) h]
theorem zCJ{l:List Slt}(h:i<l.length):qP (l.take (i+1))=qP (l.take i)++aF l[i]:=by rw[dW,dW,iU (k:=11) (fun _=>rfl) h]
theorem zMl{l:List Slt}(x:Slt)(h:i<l.length):(qP l).take (i*11)++(aF x++(qP l).drop (i*11+11))=qP (l.set i x):=by rw[dW,dW,zF4 (k:=11) (fun _=>rfl) x h]
@[simp]theorem qFz(d:Slt):(aF d).length=11:=rfl
@[simp]theorem qFy(d:Slt):(aF d).take 11=aF d:=jAl (jA _)
@[simp]theorem qAV(d:Slt)(l:wF):(aF d++l).take 11=aF d:=by rw[jCe (by simp)];exact jAl (by simp)
@[simp]theorem qB3(d:Slt):jV (aF d)=aF d:=(s8 d).1
@[simp]theorem qKv(d:Slt) {rf g}:vwL rf g (aF d)=aF d:=(s8 d).2 _ _
theorem nG(l:wS):j4 (zQ l):=dJ s7 l
@[simp]theorem zXn(l:wS):jV (zQ l)=zQ l:=(nG l).1
@[simp]theorem qCd{rf g}(l:wS):vwL rf g (zQ l)=zQ l:=(nG l).2 _ _
@[simp]theorem zY5:zQ []=[]:=by rw[dV];rfl
theorem mM(x:Dfn)(l:wS):zQ (x::l)=zJ x++zQ l:=by rw[dV,dV];rfl
theorem mC(l l':wS):zQ (l++l')=zQ l++zQ l':=by simp only[dV,jCd]
@[simp]theorem zMi(l:wS):(zQ l).length=l.length*31:=by rw[dV,fA (k:=31) (fun _=>rfl)]
theorem yA{l:wS}(h:i<l.length):(zQ l).drop (i*31)=zJ l[i]++zQ (l.drop (i+1)):=by rw[dV,dV,gH (k:=31) (fun _=>rfl) h]
theorem zCH{l:wS}(h:i<l.length):zQ (l.take (i+1))=zQ (l.take i)++zJ l[i]:=by rw[dV,dV,iU (k:=31) (fun _=>rfl) h]
theorem zMj{l:wS}(x:Dfn)(h:i<l.length):(zQ l).take (i*31)++(zJ x++(zQ l).drop (i*31+31))=zQ (l.set i x):=by rw[dV,dV,zF4 (k:=31) (fun _=>rfl) x h]
@[simp]theorem zSa(d:Dfn):(zJ d).length=31:=rfl
@[simp]theorem qFp(d:Dfn):(zJ d).take 31=zJ d:=jAl (jA _)
@[simp]theorem qAR(d:Dfn)(l:wF):(zJ d++l).take 31=zJ d:=by rw[jCe (by simp)];exact jAl (by simp)
@[simp]theorem qBy(d:Dfn):jV (zJ d)=zJ d:=(s7 d).1
@[simp]theorem qKq(d:Dfn) {rf g}:vwL rf g (zJ d)=zJ d:=(s7 d).2 _ _
theorem nI(l:List Md):j4 (qA l):=dJ zAT l
@[simp]theorem zXs(l:List Md):jV (qA l)=qA l:=(nI l).1
@[simp]theorem qCi{rf g}(l:List Md):vwL rf g (qA l)=qA l:=(nI l).2 _ _
@[simp]theorem zYD:qA []=[]:=by rw[xX];rfl
theorem iF(x:Md)(l:List Md):qA (x::l)=rB x++qA l:=by rw[xX,xX];rfl
@[simp]theorem zYC(l:List Md):(qA l).length=l.length*6:=by rw[xX,fA (k:=6) (fun _=>rfl)]
@[simp]theorem qFx(d:Md):(rB d).length=6:=rfl
@[simp]theorem qFw(d:Md):(rB d).take 6=rB d:=jAl (jA _)
@[simp]theorem qAU(d:Md)(l:wF):(rB d++l).take 6=rB d:=by rw[jCe (by simp)];exact jAl (by simp)
@[simp]theorem qB2(d:Md):jV (rB d)=rB d:=(zAT d).1
@[simp]theorem qKu(d:Md) {rf g}:vwL rf g (rB d)=rB d:=(zAT d).2 _ _
def Typ.zero:Typ:=.mk 0 Id.zero []
def Exp.zero:Exp:=.mk Id.zero 0 0 Id.zero Typ.zero [] []
def Dfn.zero:Dfn:=⟨Id.zero,0,Id.zero,⟨#[]⟩,[],Typ.zero,Exp.zero,0,[]⟩
end Go.Proofs.YtolkhapmieigcaaGreatDoor
namespace Go.Abs
section
variable{P:Program}
end
end Go.Abs
namespace Go.Abs
def Pan(P:Program)(f:FuncId)(args:wF) (U0:St)(v:Value):Prop:=aK P f args U0 fun o _=>o=.pan v
section
variable{P:Program}{n0:Nat}{Qp:Value->wK}{Qd:Value->St->Prop}{K':wK}{env:Env} {U:St}{d:wD}
variable{f:FuncId}{rs:List RS}{v:Value}
theorem sA{fn:Func}{c:Code}{k:K}(hf:P.funcs[f]?=some fn)(hb:fn.body=some c)(hc:zP P fn.ntmps c=some k.erase)(hr:gK P fn.results.toList=some rs)
 {args:wF} {U:St}(h:wpF P k rs args U fun o _=>o=.pan v):Pan P f args U v:=u5 hf hb hc hr h
theorem aZ{hint:Nat->Option wE}{fn:Func}{c:Code}{k:K}(hf:P.funcs[f]?=some fn)(hb:fn.body=some c)(hc:qK P fn.ntmps hint c=some k.erase)(hr:gK P fn.results.toList=some rs)
 {args:wF} {U:St}(h:wpF P k rs args U fun o _=>o=.pan v):Pan P f args U v:=nF hf hb hc hr h
variable{U0:St}
theorem zJO{args args':wF} (h:Pan P f args U0 v)(js:wA)(hd:js.Nodup)(ho:bK U j6 (q9 js) js U0)(ha:dT js args' args){Q:Out->St->Prop}
 (hq:∀τ:St,Q (.pan v) (j7 U js τ)):aK P f args' U Q :=
 zCF (C:=fun vs w R=>Calls P f vs.toArray w R) (sS P f) (Q0:=fun o _=>o=.pan v) h js hd ho ha fun o U1 h0=>by subst h0;exact hq _
theorem zB9{args args':wF} (h:Pan P f args U0 v)(js:wA)(hd:js.Nodup)(ho:bK U j6 (q9 js) js U0)(ha:dT js args' args)
 (hq:∀τ:St,Qp v env (j7 U js τ)):aK P f args' U (outK d env K' Qp):=zJO h js hd ho ha fun τ=>by simpa[outK]using hq τ
theorem nK{args args':wF} (h:Pan P f args U0 v)(js:wA)(hd:js.Nodup)(ho:bK U j6 (q9 js) js U0)(ha:dT js args' args)
 (hq:∀τ:St,Qd v (j7 U js τ)):zC5 P Qd U d K' f args' env:=zJO h js hd ho ha fun τ=>.inr ⟨v,rfl,hq τ⟩
theorem gX{args args':wF} {U1:St}{r:A}(h:Ret P f args U0 r U1)(js:wA)(hd:js.Nodup)(ho:bK U j6 (q9 js) js U0)(ha:dT js args' args)
 (hq:K' (env.put d (ren js U.length r)) (j7 U js (U1.map (fD js U.length)))):zC5 P Qd U d K' f args' env:=cZ h js hd ho ha (.inl ⟨_,rfl,hq⟩)
theorem lR{α:Type}:∀{js:wA} {s t:List α} {x:Nat},x<s.length->x∉js->(j7 s js t)[x]?=s[x]?
 |[],s,t,x,hx,_=>by simp[j7,jAp hx]
 |j::js,s,[],x,_,_=>by simp[j7]
 |j::js,s,o::os,x,hx,hn=>by simp only[jA1,not_or]at hn;simp only[j7];rw[lR (by simpa using hx) hn.2,jAh (Ne.symm hn.1)]
end
end Go.Abs
namespace Go.Abs
mutual
theorem zYe{k:Nat}:∀(a:A),(vw j6 (fun _=>none) a=a)->a.bnd k=true
 | .any,_=>by simp
 | .nil,_=>by simp
 | .lit _,_=>by simp
 | .agg cs,h=>by simp at h;simp[nE cs h]
 | .tup cs,h=>by simp at h;simp[nE cs h]
 | .sl _ cs,h=>by simp at h;simp[nE cs h]
 | .fsl _ cs,h=>by simp at h;simp[nE cs h]
 | .rptr cs,h=>by simp at h;simp[nE cs h]
 | .ptr l _,h=>by simp at h
 | .row l _,h=>by simp at h
 | .rwp l _ _,h=>by simp at h
 | .win l _ _ _ _,h=>by simp[zPo]at h
 | .map l,h=>by simp at h
 | .clo _ fs cs,h=>by simp at h;simp[nE fs h.1,nE cs h.2]
theorem nE{k:Nat}:∀(cs:wF),(vwL j6 (fun _=>none) cs=cs)->cY k cs=true
 |[],_=>by simp
 |c::cs,h=>by simp at h;simp[zYe c h.1,nE cs h.2]
end
theorem j4.bnd{cs:wF}(h:j4 cs)(k:Nat):cY k cs=true:=nE cs (h.2 _ _)
def shL(m:Nat)(ks:wA):wA:=List.range m++ks.map fun k=>m+k
theorem zHX{m k:Nat}:∀ks:wA,q9 (ks.map fun k=>m+k) (m+k)=q9 ks k
 |[]=>rfl
 |x::ks=>by
  simp only[jAd,zBh];by_cases h:k=x
  .simp[h]
  .rw[if_neg (by omega),if_neg h,zHX ks]
@[simp]theorem zQq{m k:Nat}{ks:wA}:q9 (shL m ks) (m+k)=(q9 ks k).map (m + ·):=by unfold shL;rw[zDr (by simp),zHX,List.length_range];cases q9 ks k<;>simp[jCl]
@[simp]theorem zZJ{m:Nat}{ks:wA}:q9 (shL m ks) m=(q9 ks 0).map (m + ·):=by
 have:=zQq (m:=m) (k:=0) (ks:=ks)
 simpa using this
@[simp]theorem qHJ{rf:Bool->Nat->Nat->A}{g:Nat->wD}:vwO rf g .dead=.dead:=rfl
@[simp]theorem qBH{js:wA}{n:Nat}:fD js n .dead=.dead:=rfl
section
variable{P:Program}{n0:Nat}{Qp:Value->wK}{K':wK}{env:Env}{d:wD}
theorem zJH:∀{js ks:wA} {n k:Nat},gB (js++ks) n (js.length+k)=gB ks n k
 |[],ks,n,k=>by simp
 |j::js,ks,n,k=>by
  have e:(j::js).length+k=js.length+k+1:=by simp;omega
  rw[e];simp only[jBe,gB];exact zJH
@[simp]theorem zR4{m k n:Nat}{ks:wA}:gB (shL m ks) n (m+k)=gB (ks.map fun k=>m+k) n k:=by
 have:=zJH (js:=List.range m) (ks:=ks.map fun k=>m+k) (n:=n) (k:=k)
 rwa[List.length_range]at this
@[simp]theorem qA9{m n:Nat}{ks:wA}:gB (shL m ks) n m=gB (ks.map fun k=>m+k) n 0:=by
 have:=zR4 (m:=m) (k:=0) (n:=n) (ks:=ks)
 simpa using this
end
end Go.Abs
namespace Go.Proofs.YtolkhapmieigcaaGreatDoor
open Go.Abs
def zZN:Go.Shelf.Ren:=⟨fun | 6=>42 | 15=>98 | 14=>97 | 28=>163 | 29=>164 | 20=>155 | 21=>156 | 22=>157 | 23=>158 | 24=>159 | 25=>160 | 26=>161 | 27=>162 | 46=>197 | 49=>200 | 50=>201 | 57=>222 | 47=>198 | 48=>199|n=>n,fun | 22=>28 | 24=>32 | 25=>108 | 3=>3 | 39=>166 | 0=>0 | 53=>225 | 55=>227 | 4=>4 | 46=>219 | 45=>218 | 50=>136 | 5=>5 | 9=>9 | 66=>260 | 70=>264 | 76=>282 | 77=>283|n=>n,fun n=>n⟩
theorem zMO:Go.Proofs.SlLaysF0.n6 prog zZN:={
 mixed:=by kernel_rfl,
 f6:=⟨f42.name,by decide,func42.trans (congrArg some (by kernel_rfl))⟩,
 f14:=⟨f97.name,by decide,func97.trans (congrArg some (by kernel_rfl))⟩,
 f15:=func98.trans (congrArg some (by kernel_rfl)),
 f20:=⟨f155.name,by decide,func155.trans (congrArg some (by kernel_rfl))⟩,
 f21:=⟨f156.name,by decide,func156.trans (congrArg some (by kernel_rfl))⟩,
 f22:=⟨f157.name,by decide,func157.trans (congrArg some (by kernel_rfl))⟩,
 f23:=⟨f158.name,by decide,func158.trans (congrArg some (by kernel_rfl))⟩,
 f24:=⟨f159.name,by decide,func159.trans (congrArg some (by kernel_rfl))⟩,
 f25:=⟨f160.name,by decide,func160.trans (congrArg some (by kernel_rfl))⟩,
 f26:=⟨f161.name,by decide,func161.trans (congrArg some (by kernel_rfl))⟩,
 f27:=⟨f162.name,by decide,func162.trans (congrArg some (by kernel_rfl))⟩,
 f28:=func163.trans (congrArg some (by kernel_rfl)),
 f29:=func164.trans (congrArg some (by kernel_rfl)),
 f46:=⟨f197.name,by decide,func197.trans (congrArg some (by kernel_rfl))⟩,
 f47:=func198.trans (congrArg some (by kernel_rfl)),
 f48:=func199.trans (congrArg some (by kernel_rfl)),
 f49:=⟨f200.name,by decide,func200.trans (congrArg some (by kernel_rfl))⟩,
 f50:=⟨f201.name,by decide,func201.trans (congrArg some (by kernel_rfl))⟩,
 f57:=⟨f222.name,by decide,func222.trans (congrArg some (by kernel_rfl))⟩,
 t0:=underlying0,
 a0:=isAgg0,
 z0:=sizeOf0,
 v0:=zeroValue0,
 t3:=underlying3,
 a3:=isAgg3,
 z3:=sizeOf3,
 v3:=zeroValue3,
 t4:=underlying4,
 a4:=isAgg4,
 z4:=sizeOf4,
 v4:=zeroValue4,
 t5:=underlying5,
 a5:=isAgg5,
 z5:=sizeOf5,
 v5:=zeroValue5,
 t9:=underlying9,
 a9:=isAgg9,
 z9:=sizeOf9,
 v9:=zeroValue9,
 t22:=underlying28,
 a22:=isAgg28,
 z22:=sizeOf28,
 v22:=zeroValue28,
 t25:=underlying108,
 a25:=isAgg108,
 z25:=sizeOf108,
 v25:=zeroValue108,
 t39:=underlying166,
 a39:=isAgg166,
 z39:=sizeOf166,
 v39:=zeroValue166,
 t45:=underlying218,
 a45:=isAgg218,
 z45:=sizeOf218,
 v45:=zeroValue218,
 t46:=underlying219,
 a46:=isAgg219,
 z46:=sizeOf219,
 v46:=zeroValue219,
 t50:=underlying136,
 a50:=isAgg136,
 z50:=sizeOf136,
 v50:=zeroValue136,
 t53:=underlying225,
 a53:=isAgg225,
 z53:=sizeOf225,
 v53:=zeroValue225,
 t55:=underlying227,
 a55:=isAgg227,
 z55:=sizeOf227,
 v55:=zeroValue227,
 t66:=underlying260,
 a66:=isAgg260,
 z66:=sizeOf260,
 v66:=zeroValue260,
 t70:=underlying264,
 a70:=isAgg264,
 z70:=sizeOf264,
 v70:=zeroValue264,
 t76:=underlying282,
 a76:=isAgg282,
 z76:=sizeOf282,
 v76:=zeroValue282,
 t77:=underlying283,
 a77:=isAgg283,
 z77:=sizeOf283,
 v77:=zeroValue283}
def zOC:Go.Shelf.Ren:=⟨fun | 4=>124|n=>n,fun | 0=>0 | 3=>3 | 4=>4 | 9=>9 | 20=>20 | 22=>28 | 25=>32|n=>n,fun n=>n⟩
theorem zVe:Go.Proofs.Lays8.n4 prog zOC:={
 mixed:=by kernel_rfl,
 f4:=⟨f124.name,by decide,func124.trans (congrArg some (by kernel_rfl))⟩,
 t0:=underlying0,
 a0:=isAgg0,
 z0:=sizeOf0,
 v0:=zeroValue0,
 t3:=underlying3,
 a3:=isAgg3,
 z3:=sizeOf3,
 v3:=zeroValue3,
 t4:=underlying4,
 a4:=isAgg4,
 z4:=sizeOf4,
 v4:=zeroValue4,
 t9:=underlying9,
 a9:=isAgg9,
 z9:=sizeOf9,
 v9:=zeroValue9,
 t20:=underlying20,
 a20:=isAgg20,
 z20:=sizeOf20,
 v20:=zeroValue20,
 t22:=underlying28,
 a22:=isAgg28,
 z22:=sizeOf28,
 v22:=zeroValue28}
theorem zKh:∀args w,(callFunc 128 args).run prog w=.ok (.enter 128 args) w:=enters_of func128 (by kernel_rfl) rfl
theorem zT3:zC9 prog 42 128 zS iM :=
 zT4 (k:=3) (fun _=>rfl) iZ zTd fun α _ enc hk h1 cf hO blk off cap d w hcmp hH hblk hsz =>
  Go.Proofs.AnyQ.slices_SortFunc zMO 3 isAgg32 sizeOf32 enc hk h1 cf hO 128 #[] blk off cap d w zKh hcmp hH hblk hsz
theorem zJg:∀(p:Option Addr) (cap:Nat) (fv:Value) (w:World),Calls prog 42 #[.slice p 0 cap,fv] w fun e w'=>e=.returned (.tuple #[])/\w'=w :=
 fun p cap fv w=>Go.Proofs.AnyF.slices_SortFunc_none zMO p cap fv w
theorem zDK(l:wG):l.flatMap zS=zY l:=by
 induction l with
 |nil=>rfl
 |cons v l ih=>rw[jBo,ih];rfl
theorem zNy(l:wG)(hmx:l.length<4611686018427387904):my 42 [.row 0 l.length,.clo 128 [] []] [.row false 32 3 l.length (zY l)] (.tup []) [.row false 32 3 l.length (zY (bQ iM l))]:=by
 have:=zG1 (sz:=3) (by omega) (fun _=>rfl) (fun b=>by simp[zS]) iZ 32 zT3 zJg l hmx
 simpa only[zDK]using this
theorem zNz(x:A):my 42 [.sl 0 [],x] [] (.tup []) []:=by
 intro H L w vs hs hvs;obtain⟨v,vs',rfl,h1,h2⟩:=z8 hvs;obtain⟨fv,vs'',rfl,h3,h4⟩:=z8 h2;have:=jL h4;subst this;simp only[Rel]at h1;obtain⟨p,cap,rfl,_⟩:=h1;refine(zJg p cap fv w).mono fun e' w' hh=>?_
 obtain⟨rfl,rfl⟩:=hh;exact⟨.ret (.tup []),_,H,L,⟨_,rfl,by simp[Rel,qE]⟩,Nxt.refl hs,rfl,rfl⟩
theorem zF7(n:Nat)(hn:n<=4000000000):my 124 [.nil,int n] [] (.row 0 0) [.row false 32 3 0 []] :=
 zHD (ρ:=zOC) (sz:=3) (bs:=24) (z:=.agg #[.int .i64 0,.int .i64 0,.int .i64 0]) zVe (by kernel_rfl) rfl (by omega) (by omega) (by omega)
def zLQ:K:=G [kMn 2] (Z (G [M 3 0,⟨none,.isz (some 4) false (kt 3)⟩] (Y 4 (G [kMn 2] kr) ks)) (G [kd 5 32 3 0 [] [],M 6 0,kP 7 32 3 24 5 6,M 2 7] kr))
theorem zR7:ky f127 zLQ:=m_ (by kernel_rfl)
def zEJ:K:=G [kMn 2] (Z (G [M 6 0,kN 7 6,kBi 8 7 2 .lss] (Y 8 (G [M 9 0,M 2 9] kr) ks)) (Z (G [kMi 3 1] (K.block 0 (K.loop (Z (G [M 10 3,M 11 0,kN 12 11,kB 13 10 12 .lss] (Y 13 ks (K.exit 0))) (Z (K.block 1 (Z (K.dops [(0,0,M 16 0),(1,0,M 17 3),(2,0,kX 18 16 17 3),(3,0,J 19 18 3),(4,0,M 20 0),(5,0,M 21 3),(6,0,kBi 22 21 1 .sub),(7,0,kX 23 20 22 3),(8,0,J 24 23 3),(9,0,⟨none,.eqs (some 25) false [.i,.i,.i] (kt 19) (kt 24)⟩)]) (Y 25 (G [M 26 0,M 27 3,⟨none,.rslc (some 28) (kt 26) 3 (some (kt 27)) none⟩,M 4 28] (Z (G [kMi 5 1] (K.block 2 (K.loop (Z (G [M 29 5,M 30 4,kN 31 30,kB 32 29 31 .lss] (Y 32 ks (K.exit 2))) (Z (K.block 3 (Z (K.dops [(0,0,M 35 4),(1,0,M 36 5),(2,0,kX 37 35 36 3),(3,0,J 38 37 3),(4,0,M 39 4),(5,0,M 40 5),(6,0,kBi 41 40 1 .sub),(7,0,kX 42 39 41 3),(8,0,J 43 42 3),(9,0,⟨none,.eqs (some 44) true [.i,.i,.i] (kt 38) (kt 43)⟩)]) (Y 44 (G [M 45 0,M 46 3,M 47 4,M 48 5,kX 49 47 48 3,J 50 49 3,kX 51 45 46 3,S 51 50 3] (K.ops [M 52 3,kBi 53 52 1 .add,M 3 53])) ks))) (K.ops [M 33 5,kBi 34 33 1 .add,M 5 34])))))) (G [M 54 0,M 55 3,⟨none,.rslc (some 56) (kt 54) 3 (some (kt 55)) none⟩,⟨none,.mop none (.clr 3 [ki,ki,ki]) [(kt 56)]⟩] (G [M 57 0,M 58 3,⟨none,.rslc (some 59) (kt 57) 3 none (some (kt 58))⟩,M 2 59] kr)))) ks))) (K.ops [M 14 3,kBi 15 14 1 .add,M 3 15])))))) (G [M 60 0,M 2 60] kr)))
theorem zJL:ky f58 zEJ:=m_ (by kernel_rfl)
theorem zKa(l:wG)(h:l≠[])(hb:l.length<=4000000000):my 127 [.sl l.length (zY l)] [] (.row 0 l.length) [.row false 32 3 l.length (zY l)]:=by refine zH func127 rfl zR7 (rs:=[.slot 2]) (by kernel_rfl) ?_;unfold zLQ;simp[h];refine⟨⟨by simp[maxLen];omega,by omega⟩,?_⟩;exact mv [0] 0 (by rfl) (by simp)
theorem zKb:my 127 [.sl 0 []] [] (.sl 0 []) []:=by refine zH func127 rfl zR7 (rs:=[.slot 2]) (by kernel_rfl) ?_;unfold zLQ;simp;exact⟨zB 0 (by simp),zB 0 (by simp)⟩
def bX(Ls:List wG):wF:=Ls.map fun l=>A.sl l.length (zY l)
theorem sU:∀(Ls:List wG),j4 (bX Ls)
 |[]=>j4.nil
 |l::Ls=>by
  have h1:=sU Ls;have h2:=gE l;refine⟨?_,fun rf g=>?_⟩
  .show jV (A.sl l.length (zY l)::bX Ls)=_;simp[h1.1];rfl
  .show vwL rf g (A.sl l.length (zY l)::bX Ls)=_;simp[h1.2];rfl
@[simp]theorem zXr(l:List wG):jV (bX l)=bX l:=(sU l).1
@[simp]theorem qCh{rf g}(l:List wG):vwL rf g (bX l)=bX l:=(sU l).2 _ _
@[simp]theorem zYB(l:List wG):(bX l).length=l.length:=by simp[bX]
variable{Ls:List wG}
theorem pD{i:Nat}(h:i<Ls.length):(bX Ls).drop i=.sl Ls[i].length (zY Ls[i])::bX (Ls.drop (i+1)):=by rw[bX,<-List.map_drop,jB6 h];rfl
def eI(Ls:List wG):Nat:=Ls.flatten.length
theorem zAp{i:Nat}(h:i<Ls.length):eI (Ls.take (i+1))=eI (Ls.take i)+Ls[i].length:=by rw[eI,eI,jA7 h,jCm];simp
theorem zEH(Ls:List wG)(i:Nat):eI (Ls.take i)<=eI Ls:=by
 have:Ls.flatten=(Ls.take i).flatten++(Ls.drop i).flatten:=by rw[<-jCm,jBw]
 rw[eI,eI,this,jA4];omega
theorem sY(Ls:List wG)(hb:eI Ls<=4000000000):my 56 [.sl Ls.length (bX Ls)] [] (.sl (eI Ls) (zY Ls.flatten)) []:=by
 refine mq [] [.slot 2] func56 (by kernel_rfl) ?_
 (conv in kq _ _=>cbv)
 simp;intro hl;refine qI (S:=Nat) (fun i=>[(0,.sl Ls.length (bX Ls)),(3,int (eI (Ls.take i))),(9,.sl Ls.length (bX Ls)),(10,int Ls.length),(11,int i)]) (fun s=>[]) (fun i=>i<=Ls.length) (fun i=>Ls.length-i) 0 (by simp)
  (mw [] 0 (by rfl) (by simp[eI])) ?_
 intro i hi;by_cases h:i<Ls.length
 .have ht:=zAp h;have hle:=zEH Ls (i+1);have hw:IntKind.i64.wrap ((eI (Ls.take i):Int)+(Ls[i].length:Int))=(eI (Ls.take (i+1)):Nat):=by rw[ht];push_cast;exact IntWalk.i64_in _ (by omega)
  have h0:¬((eI (Ls.take (i+1)):Nat):Int)<0:=by omega
  simp[h,pD h];intro _;simp[hw,h0];exact zO (i+1) h (by omega) (mw [] 0 (by rfl) (by simp[zZ h hl]))
 .have hil:i=Ls.length:=by omega
  subst hil;have hI:¬(Ls.length:Int)<Ls.length:=by omega
  simp;refine mr (zF7 (eI Ls) hb) [] (by simp) ?_;simp;intro _;refine qI (S:=Nat) (fun i=>[(6,.row 0 (eI (Ls.take i))),(25,.sl Ls.length (bX Ls)),(26,int Ls.length),(27,int i)]) (fun i=>[.row false 32 3 (eI (Ls.take i)) (zY (Ls.take i).flatten)]) (fun i=>i<=Ls.length) (fun i=>Ls.length-i) 0 (by simp)
   (mw [0] 0 (by rfl) (by simp[eI])) ?_
  intro i hi;by_cases h:i<Ls.length
  .have ht:=zAp h;have hle:=zEH Ls (i+1);have hf:(Ls.take (i+1)).flatten=(Ls.take i).flatten++Ls[i]:=by rw[jA7 h,jCm];simp
   simp[h,pD h];refine⟨⟨by simp[maxLen];omega,by omega⟩,?_⟩;exact zO (i+1) h (by omega) (mw [0] 0 (by rfl) (by simp[ht,hf,qO,zZ h hl]))
  .have hil:i=Ls.length:=by omega
   subst hil;simp;exact zB 1 (by simp)
end Go.Proofs.YtolkhapmieigcaaGreatDoor
namespace Go.Proofs.YtolkhapmieigcaaGreatDoor
open Go.Abs
def bM{α:Type}(same : α->α->Bool):List α->List α->Bool
 |[],[]=>true
 |x::a,y::b=>same x y&&bM same a b
 |_,_=>false
theorem uX{α:Type}{same : α->α->Bool}:∀{a b:List α},a.length≠b.length->bM same a b=false
 |[],[],h=>(h rfl).elim
 |x::a,y::b,h=>by simp only[bM,uX (a:=a) (b:=b) (by simpa using h),Bool.and_false]
 |[],_::_,_=>rfl
 |_::_,[],_=>rfl
theorem iO{α:Type}{same : α->α->Bool}:∀{a b:List α} (hl:a.length=b.length),bM same a b=true↔∀(j:Nat) (h:j<a.length),same a[j] (b[j]'(hl▸h))=true
 |[],[],_=>by simp[bM]
 |x::a,y::b,hl=>by
  simp only[bM,jA8,iO (a:=a) (b:=b) (by simpa using hl)];constructor
  .rintro⟨h1,h2⟩ j h;cases j with
   |zero=>exact h1
   |succ j=>exact h2 j (by simpa using h)
  .intro h;exact⟨h 0 (by simp),fun j hj=>h (j+1) (by simpa using hj)⟩
 |[],_::_,hl=>by simp at hl
 |_::_,[],hl=>by simp at hl
theorem zUB(g:FuncId)(hcal:zA prog g=true)(same:Typ->Typ->Bool)(a b:wT)(h:∀x∈a,∀y∈b,my g [.agg (zF x),.agg (zF y)] [] (bl (same x y)) []) :
 my 176 [.sl a.length (jM a),.sl b.length (jM b),.clo g [] []] [] (bl (bM same a b)) []:=by
 refine mq [] [.slot 6] func176 (by kernel_rfl) ?_
 (conv in kq _ _=>cbv)
 by_cases hab:a.length=b.length
 .simp[hab];intro hlb;refine qI (S:=Nat) (fun i=>[(1,.sl b.length (jM b)),(2,.clo g [] []),(15,.sl a.length (jM a)),(16,int a.length),(17,int i)]) (fun s=>[]) (fun i=>i<=a.length/\∀(j:Nat) (h:j<a.length),j<i->same a[j] (b[j]'(hab▸h))=true) (fun i=>a.length-i) 0 (by simp)
   (mw [] 0 (by rfl) (by simp[hab])) ?_
  rintro i ⟨hi,hn⟩;by_cases hia:i<a.length
  .have hib:i<b.length:=by omega
   have hla:i*5<a.length*5:=by omega
   have hlb':i*5<b.length*5:=by omega
   simp[hia,hib,iG hia,iG hib,hcal,zF];refine mu (h a[i] (jA0 hia) b[i] (jA0 hib)) (by simp[zF]) ?_;cases hs:same a[i] b[i]with
   |true =>
    simp;exact zO (i+1) ⟨hia,fun j hj hji=>by
     by_cases e:j=i
     .subst e;exact hs
     .exact hn j hj (by omega)⟩ (by omega) (mw [] 0 (by rfl) (by simp[zZ hib hlb]))
   |false =>
    have hf:bM same a b=false:=by
     cases hh:bM same a b with
     |false=>rfl
     |true=>have:=(iO hab).1 hh i hia;rw[hs]at this;cases this
    simp;exact zB 0 (by simp[hf])
  .have hil:i=a.length:=by omega
   subst hil;have ht:bM same a b=true:=(iO hab).2 fun j hj=>hn j hj hj
   simp;exact zB 0 (by simp[ht])
 .have hab':¬(a.length:Int)=b.length:=by omega
  simp[hab'];exact fun _ _=>zB 0 (by simp[uX hab])
theorem zUA(g:FuncId)(hcal:zA prog g=true)(same:Slt->Slt->Bool)(a b:List Slt)(h:∀x∈a,∀y∈b,my g [.agg (aF x),.agg (aF y)] [] (bl (same x y)) []) :
 my 131 [.sl a.length (qP a),.sl b.length (qP b),.clo g [] []] [] (bl (bM same a b)) []:=by
 refine mq [] [.slot 6] func131 (by kernel_rfl) ?_
 (conv in kq _ _=>cbv)
 by_cases hab:a.length=b.length
 .simp[hab];intro hlb;refine qI (S:=Nat) (fun i=>[(1,.sl b.length (qP b)),(2,.clo g [] []),(15,.sl a.length (qP a)),(16,int a.length),(17,int i)]) (fun s=>[]) (fun i=>i<=a.length/\∀(j:Nat) (h:j<a.length),j<i->same a[j] (b[j]'(hab▸h))=true) (fun i=>a.length-i) 0 (by simp)
   (mw [] 0 (by rfl) (by simp[hab])) ?_
  rintro i ⟨hi,hn⟩;by_cases hia:i<a.length
  .have hib:i<b.length:=by omega
   have hla:i*11<a.length*11:=by omega
   have hlb':i*11<b.length*11:=by omega
   simp[hia,hib,qW hia,qW hib,hcal,aF];refine mu (h a[i] (jA0 hia) b[i] (jA0 hib)) (by simp[aF]) ?_;cases hs:same a[i] b[i]with
   |true =>
    simp;exact zO (i+1) ⟨hia,fun j hj hji=>by
     by_cases e:j=i
     .subst e;exact hs
     .exact hn j hj (by omega)⟩ (by omega) (mw [] 0 (by rfl) (by simp[zZ hib hlb]))
   |false =>
    have hf:bM same a b=false:=by
     cases hh:bM same a b with
     |false=>rfl
     |true=>have:=(iO hab).1 hh i hia;rw[hs]at this;cases this
    simp;exact zB 0 (by simp[hf])
  .have hil:i=a.length:=by omega
   subst hil;have ht:bM same a b=true:=(iO hab).2 fun j hj=>hn j hj hj
   simp;exact zB 0 (by simp[ht])
 .have hab':¬(a.length:Int)=b.length:=by omega
  simp[hab'];exact fun _ _=>zB 0 (by simp[uX hab])
theorem zU9(g:FuncId)(hcal:zA prog g=true)(same:Exp->Exp->Bool)(a b:wH)(h:∀x∈a,∀y∈b,my g [.agg (zG x),.agg (zG y)] [] (bl (same x y)) []) :
 my 133 [.sl a.length (qM a),.sl b.length (qM b),.clo g [] []] [] (bl (bM same a b)) []:=by
 refine mq [] [.slot 6] func133 (by kernel_rfl) ?_
 (conv in kq _ _=>cbv)
 by_cases hab:a.length=b.length
 .simp[hab];intro hlb;refine qI (S:=Nat) (fun i=>[(1,.sl b.length (qM b)),(2,.clo g [] []),(15,.sl a.length (qM a)),(16,int a.length),(17,int i)]) (fun s=>[]) (fun i=>i<=a.length/\∀(j:Nat) (h:j<a.length),j<i->same a[j] (b[j]'(hab▸h))=true) (fun i=>a.length-i) 0 (by simp)
   (mw [] 0 (by rfl) (by simp[hab])) ?_
  rintro i ⟨hi,hn⟩;by_cases hia:i<a.length
  .have hib:i<b.length:=by omega
   have hla:i*15<a.length*15:=by omega
   have hlb':i*15<b.length*15:=by omega
   simp[hia,hib,yB hia,yB hib,hcal,zG];refine mu (h a[i] (jA0 hia) b[i] (jA0 hib)) (by simp[zG]) ?_;cases hs:same a[i] b[i]with
   |true =>
    simp;exact zO (i+1) ⟨hia,fun j hj hji=>by
     by_cases e:j=i
     .subst e;exact hs
     .exact hn j hj (by omega)⟩ (by omega) (mw [] 0 (by rfl) (by simp[zZ hib hlb]))
   |false =>
    have hf:bM same a b=false:=by
     cases hh:bM same a b with
     |false=>rfl
     |true=>have:=(iO hab).1 hh i hia;rw[hs]at this;cases this
    simp;exact zB 0 (by simp[hf])
  .have hil:i=a.length:=by omega
   subst hil;have ht:bM same a b=true:=(iO hab).2 fun j hj=>hn j hj hj
   simp;exact zB 0 (by simp[ht])
 .have hab':¬(a.length:Int)=b.length:=by omega
  simp[hab'];exact fun _ _=>zB 0 (by simp[uX hab])
end Go.Proofs.YtolkhapmieigcaaGreatDoor
namespace Go.Abs
section
variable{P:Program}{n0:Nat}
def zD8(H:Mem)(L:wO)(w:World)(N:Nat)(Q:Ex->wK)(dfs:List Deferred):Exit->Act->World->Prop:=fun e a' w' =>
 ∃x env' U' H' L',e=x.exit?/\a'.defers=dfs/\qL H' L' N env' a'.tmps/\Nxt H L w H' L' U' w'/\Q x env' U'
variable{N:Nat}{w:World}{H:Mem}{L:wO}{Q:Ex->wK}{dfs:List Deferred}
theorem zD8.next{H':Mem}{L':wO} {U':St}{w':World}(hn:Nxt H L w H' L' U' w'){e:Exit}{b:Act}{v:World}(h:zD8 H' L' w' N Q dfs e b v):zD8 H L w N Q dfs e b v:=by obtain⟨x,env'',U'',H'',L'',h1,h2,h3,h4,h5⟩:=h;exact⟨x,env'',U'',H'',L'',h1,h2,h3,hn.trans h4,h5⟩
theorem uI{N:Nat}{ro:wD}{ops:Array Oper}(hall:∀o∈ops.toList,∀x,o.dst=some x->x<N){Q:Ex->wK}{dfs:List Deferred}{Qc:Exit->Act->World->Prop} :
 ∀(l:List Oper) (gs:List KG) {H:Mem} {L:wO} {U:St} {w:World} {env:Env} {a:Act},zD6 P N ops l gs->qL H L N env a.tmps->RelSt H L U w->a.defers=dfs ->
  lI P (fun v=>Q (.pan v)) (Q .norm) gs env U->(∀e b v,zD8 H L w N Q dfs e b v->Qc e b v)->wpListIn (Wr ro) 0 P ops Qc l a w
 |[],gs,H,L,U,w,env,a,hc,he,hs,hd,h,hQ=>by simp only[zD6]at hc;subst hc;exact hQ _ _ _ ⟨.norm,env,U,H,L,rfl,hd,he,Nxt.refl hs,h⟩
 |o::l,gs,H,L,U,w,env,a,hc,he,hs,hd,h,hQ=>by
  simp only[zD6]at hc;obtain⟨g,gs',rfl,hg,hgs⟩:=hc;obtain⟨hk,hdst,hgd⟩:=y9 hg;have hkd:=bI hk;have hke:g.erase.op.dst=g.op.dst:=by show g.op.erase.dst=g.op.dst;cases g.op<;>rfl
  rw[hke]at hkd;simp only[lI]at h;have exec:wpO P (fun v=>Q (.pan v)) (lI P (fun v=>Q (.pan v)) (Q .norm) gs') g.op env U->o.wpIn (Wr ro) 0 P a w (wpListIn (Wr ro) 0 P ops Qc l) Qc:=by
   intro h;refine oI hk hdst he hs h (fun env' U' H' L' a' w' h1 h2 h3 h4=>?_) (fun v U' H' L' w' h1 h2=>?_)
   .exact uI hall l gs' hgs h2 h3.st (h1.trans hd) h4 fun e b v hp=>hQ e b v (hp.next h3)
   .exact hQ _ _ _ ⟨.pan v,env,U',H',L',rfl,hd,he.mono h1.step.hle h1.lle,h1,h2⟩
  have skip:lI P (fun v=>Q (.pan v)) (Q .norm) gs' (env.put g.op.dst (.lit undef)) U->wpListIn (Wr ro) 0 P ops Qc l (a.put o.dst undef) w:=by intro h;refine uI hall l gs' hgs ?_ hs ((qV _ _).trans hd) h hQ;rw[hkd];exact he.put hdst (by simp[Rel])
  unfold wpListIn;have hge:g.erase.guard=g.guard:=rfl;rw[hge]at hgd;rcases hgd with ⟨ho,hgn⟩|⟨j,want,s,ho,hsl,hgn⟩
  .simp only[wpG,hgn]at h;have hw:Region.wanted o (yielded ops a.tmps)=true:=by simp[Region.wanted,ho]
   rw[if_pos hw];exact exec h
  .simp only[wpG,hgn]at h;have hsN:=tD hsl hall;obtain⟨w1,w2⟩:=nN (a:=a) ho hsl (jCb hsN he.1);have hrel:=he.2 s;split at h
   .rename_i b hb;rw[hb]at hrel;simp only[Rel]at hrel;rw[w1 b hrel];by_cases hbw:b=want
    .simp only[hbw,decide_true,if_true];exact exec (h.1 (by simp[hbw]))
    .simp only[hbw,decide_false,jAg,if_false];exact⟨fun _ _=>trivial,skip (h.2 (by simp[hbw]))⟩
   .rename_i t ht;rw[ht]at hrel;simp only[Rel]at hrel;rw[w2 t hrel];simp only[jAg,if_false];exact⟨fun _ _=>trivial,skip h⟩
   .exact h.elim
variable{hint:Nat->Option wE}{U:St}{env:Env}{a:Act}{ops:Array Oper}{Qc:Exit->Act->World->Prop}
theorem zGh{id:Nat}{l:List KG}(hc:qK P N hint (.region id ops false)=some (K.ops l).erase)
 (he:qL H L N env a.tmps)(hs:RelSt H L U w)(h:wpK P n0 (.ops l) Q env U)(hQ:∀e b v,zD8 H L w N Q a.defers e b v->Qc e b v):(Code.region id ops false).wpIn Fence.wide 0 P Qc a w:=by
 simp only[qK,K.erase]at hc;split at hc<;>try(cases hc;done)
 rename_i l' hl;simp only[jAg,if_false,jA3,K.ops.injEq]at hc;subst hc;simp only[wpK]at h;have hall:∀o∈ops.toList,∀x,o.dst=some x->x<N:=by
  obtain⟨hlen,hget⟩:=iQ hl;intro o ho;obtain⟨i,hi⟩:=jCv ho;have hlt:i<(l.map KG.erase).length:=by rw[hlen];exact(jA5.1 hi).1
  exact(y9 (hget i o _ hi (jA2 hlt))).2.1
 exact wpIn_region_list (uI (ro:=none) (Q:=Q) (dfs:=a.defers) hall ops.toList l (zFj hl) he hs rfl h hQ)
theorem mJ{ops:Array Oper}{N:Nat}{ro:wD}{all:List (Nat×Nat×KG)}(hc:Comp P N ops all)(hall:∀o∈ops.toList,∀x,o.dst=some x->x<N){Q:Ex->wK}{dfs:List Deferred}{Qc:Exit->Act->World->Prop} :
 ∀(fuel:Nat) (listed:Array Bool) {H:Mem} {L:wO} {U:St} {w:World} {env:Env} {a:Act},qL H L N env a.tmps->RelSt H L U w->a.defers=dfs ->
  uH P (zGb Q) ops all (Q .norm) fuel listed env U->(∀e b v,zD8 H L w N Q dfs e b v->Qc e b v)->wpAnyIn (Wr ro) 0 P .any ops Qc fuel listed a w
 | 0,listed,H,L,U,w,env,a,he,hs,hd,h,hQ=>⟨h.1,hQ _ _ _ ⟨.norm,env,U,H,L,rfl,hd,he,Nxt.refl hs,h.2⟩⟩
 |fuel+1,listed,H,L,U,w,env,a,he,hs,hd,h,hQ=>by
  refine⟨fun h0=>hQ _ _ _ ⟨.norm,env,U,H,L,rfl,hd,he,Nxt.refl hs,h.1 h0⟩,fun i hi=>?_⟩;obtain⟨_,o,ho,_⟩:=mem_ready.1 hi;rcases h.2 i hi with ⟨f,g,r,U1,hg,hy,hK⟩|⟨f8,d,fo,args,hf8,hg,hcn⟩
  rotate_left
  .have hcg:=hc.get i f8 o _ ho hg;obtain⟨hk,hdst,hgd⟩:=y9 hcg;unfold wpOpIn;simp only[ho];rcases hgd with ⟨hog,hgn⟩|⟨j,want,s,hog,hsl,hgn⟩
   .have hw:Region.wanted o (yielded ops a.tmps)=true:=by simp[Region.wanted,hog]
    rw[if_pos hw];refine oI (k:=.call d fo args) (Qp:=fun v _ τ=>zGb Q v τ) (K:=fun env' τ=>uH P (zGb Q) ops all (Q .norm) fuel (listed.setIfInBounds i true) env' τ) hk hdst he hs ?_ (fun env' U' H' L' a' w' h1 h2 h3 h4=>?_) (fun v U' H' L' w' h1 h2=>hQ _ _ _ ⟨.pan v,env,U',H',L',rfl,hd,he.mono h1.step.hle h1.lle,h1,h2 env⟩)
    .simp only[wpO];unfold zFc at hcn;split at hcn
     .rename_i g first cap hfo
      simp only[hfo];refine⟨hcn.1,fun H L w vs h3 h4=>(hcn.2 H L w vs h3 h4).mono fun e w' hh=>?_⟩;obtain⟨o,U',H',L',g1,g2,hh⟩:=hh;refine⟨o,U',H',L',g1,g2,?_⟩;rcases hh with ⟨r,rfl,g4,g5⟩|⟨v,rfl,g4⟩
      .exact g5
      .exact g4
     .exact hcn.elim
    .exact mJ hc hall fuel _ h2 h3.st (h1.trans hd) h4 fun e b v hp=>hQ e b v (hp.next h3)
   .cases hgn
  have hcg:=hc.get i f o g ho hg;obtain⟨hk,hdst,hgd⟩:=y9 hcg;have hkd:=bI hk;rw[show g.erase.op.dst=g.op.dst from x6 _]at hkd;unfold wpOpIn;simp only[ho];have exec:eff P env U r U1 g.op->o.wpIn (Wr ro) 0 P a w (wpAnyIn (Wr ro) 0 P .any ops Qc fuel (listed.setIfInBounds i true)) Qc:=by intro hq;refine oI (k:=g.op) (Qp:=fun _ _ _=>False) hk hdst he hs (zGL hq) (fun env' U' H' L' a' w' h1 h2 h3 h4=>?_) (fun v U' H' L' w' h1 h2=>h2.elim);obtain⟨h4,h5⟩:=h4;subst h4;subst h5;exact mJ hc hall fuel _ h2 h3.st (h1.trans hd) hK fun e b v hp=>hQ e b v (hp.next h3)
  have skip:r=.lit undef->U1 = U->wpAnyIn (Wr ro) 0 P .any ops Qc fuel (listed.setIfInBounds i true) (a.put o.dst undef) w:=by rintro rfl rfl;refine mJ hc hall fuel _ ?_ hs ((qV _ _).trans hd) hK hQ;rw[hkd];exact he.put hdst (by simp[Rel])
  replace hy:=hy.1;unfold gP at hy;rcases hgd with ⟨hog,hgn⟩|⟨j,want,s,hog,hsl,hgn⟩
  .replace hgn:g.guard=none:=hgn;simp only[hgn]at hy;have hw:Region.wanted o (yielded ops a.tmps)=true:=by simp[Region.wanted,hog]
   rw[if_pos hw];exact exec hy
  .replace hgn:g.guard=some (s,want):=hgn;simp only[hgn]at hy;have hsN:=tD hsl hall;obtain⟨w1,w2⟩:=nN (a:=a) hog hsl (jCb hsN he.1);have hrel:=he.2 s;split at hy
   .rename_i b hb;rw[hb]at hrel;simp only[Rel]at hrel;rw[w1 b hrel];by_cases hbw:b=want
    .simp only[hbw,decide_true,if_true];exact exec (hy.1 hbw)
    .simp only[hbw,decide_false,jAg,if_false];exact⟨fun _ _=>trivial,skip (hy.2 hbw).1 (hy.2 hbw).2⟩
   .rename_i t ht;rw[ht]at hrel;simp only[Rel]at hrel;rw[w2 t hrel];simp only[jAg,if_false];exact⟨fun _ _=>trivial,skip hy.1 hy.2⟩
   .exact hy.elim
variable{l:List (Nat×Nat×KG)}
theorem zN9{ro:wD}{id:Nat}{gs:List KG}(hm:P.follows .mixedOrders=true)(hB:zFq ops l=true)(hlo:pQ ops ops.toList gs=true)(hc:gS P N ops ops.toList=some gs)(hl:∀x∈l,∃g,gs[x.1]?=some g/\x.2.2.erase=g.erase)
 (he:qL H L N env a.tmps)(hs:RelSt H L U w)(hd:a.defers=dfs)
 (h:wpD P (zGb Q) (Q .norm) l env U)(hQ:∀e b v,zD8 H L w N Q dfs e b v->Qc e b v):(Code.region id ops true).wpIn (Wr ro) 0 P Qc a w:=by
 obtain⟨hlen,hget⟩:=iQ hc;have hcm:Comp P N ops l:=⟨fun i f o g ho hg=>by obtain⟨g0,h1,h2⟩:=hl (i,f,g) hg;have h3:=hget i o g0 (by simpa using ho) h1;rw[show g.erase=g0 from h2.trans (iP h3)];exact h3⟩
 have hf:Fits ops l:=⟨fun i f o g ho hg=>(x6 g.op).symm.trans (bI (y9 (hcm.get i f o g ho hg)).1),fun i f o g ho hg=>by obtain⟨g0,h1,h2⟩:=hl (i,f,g) hg;have h3:=hget i o g0 (by simpa using ho) h1;have h4:=vX hlo i o g0 (by simpa using ho) h1;rw[<-zDS,show g.erase=g0 from h2.trans (iP h3)];exact h4⟩
 have hall:∀o∈ops.toList,∀x,o.dst=some x->x<N:=by
  intro o ho;obtain⟨i,hi⟩:=jCv ho;have hlt:i<gs.length:=by rw[hlen];exact(jA5.1 hi).1
  exact(y9 (hget i o _ hi (jA2 hlt))).2.1
 simp only[zFq,jA8,beq_iff_eq]at hB;obtain⟨⟨hB,hsz⟩,_⟩:=hB;refine wpIn_region_any hm ?_;have hs':RelSt H L U {w with drawn:=w.drawn+1}:=hs.heap_eq rfl;have hlex:=o6 hf l (Array.replicate ops.size false) env U (fun _ hx=>hx) hB h;rw[hsz]at hlex;have hn:Nxt H L w H L U {w with drawn:=w.drawn+1}:=⟨hs',⟨rfl,rfl,rfl,jA _,fun _ _ _=>rfl,HLe.refl _,fun _ _ _ h=>.inl h,jCf _,fun _ _ h=>h⟩,LLe.refl _,fun _ h=>.inl h⟩;refine mJ hcm hall _ _ he hs' hd hlex fun e b v hp=>hQ e b v ?_
 exact hp.next hn
theorem zLk{id:Nat}(hc:qK P N hint (.region id ops true)=some (K.dops l).erase)
 (he:qL H L N env a.tmps)(hs:RelSt H L U w)(h:wpK P n0 (.dops l) Q env U)(hQ:∀e b v,zD8 H L w N Q a.defers e b v->Qc e b v):(Code.region id ops true).wpIn Fence.wide 0 P Qc a w:=by
 simp only[qK,K.erase]at hc;split at hc<;>try(cases hc;done)
 rename_i l' hl;simp only[if_true]at hc;split at hc<;>try(cases hc;done)
 rename_i r hr;split at hc<;>try(cases hc;done)
 rename_i hb;simp only[jA8]at hb;simp only[jA3,K.dops.injEq]at hc;subst hc;simp only[wpK]at h;have hmem:∀x∈r,∃g,l'[x.1]?=some g/\x.2.2.erase=g.erase:=fun x hx=>by
  split at hr
  .exact zDn hr hx
  .cases hr;exact⟨_,zDX hx,rfl⟩
 exact zN9 (ro:=none) (Q:=Q) (dfs:=a.defers) hb.1.2 hb.1.1 hb.2 hl hmem he hs rfl h hQ
variable{rest:Code}
theorem zCt{id:Nat}{l:List KG}(hc:qK P N hint (.region id ops false)=some (K.ops l).erase)
 (he:qL H L N env a.tmps)(hs:RelSt H L U w)(h:wpK P n0 (.ops l) Q env U)
 (hQ:∀env' τ H' L' w' a',a'.defers=a.defers->qL H' L' N env' a'.tmps->Nxt H L w H' L' τ w'->Q .norm env' τ->rest.wpIn Fence.wide 0 P Qc a' w')
 (hX:∀x env' τ H' L' w' a',x≠.norm->a'.defers=a.defers->qL H' L' N env' a'.tmps->Nxt H L w H' L' τ w'->Q x env' τ->Qc x.exit? a' w'):(Code.seq (.region id ops false) rest).wpIn Fence.wide 0 P Qc a w:=by
 refine wpIn_seq (zGh hc he hs h fun e b v hp=>?_);obtain⟨x,env',τ,H',L',rfl,g2,g3,g4,g5⟩:=hp;cases x with
 |norm=>exact hQ env' τ H' L' v b g2 g3 g4 g5
 |exit i=>exact hX _ env' τ H' L' v b (by simp) g2 g3 g4 g5
 |ret=>exact hX _ env' τ H' L' v b (by simp) g2 g3 g4 g5
 |pan v'=>exact hX _ env' τ H' L' v b (by simp) g2 g3 g4 g5
theorem zTr{id:Nat}(hc:qK P N hint (.region id ops true)=some (K.dops l).erase)
 (he:qL H L N env a.tmps)(hs:RelSt H L U w)(h:wpK P n0 (.dops l) Q env U)
 (hQ:∀env' τ H' L' w' a',a'.defers=a.defers->qL H' L' N env' a'.tmps->Nxt H L w H' L' τ w'->Q .norm env' τ->rest.wpIn Fence.wide 0 P Qc a' w')
 (hX:∀x env' τ H' L' w' a',x≠.norm->a'.defers=a.defers->qL H' L' N env' a'.tmps->Nxt H L w H' L' τ w'->Q x env' τ->Qc x.exit? a' w'):(Code.seq (.region id ops true) rest).wpIn Fence.wide 0 P Qc a w:=by
 refine wpIn_seq (zLk hc he hs h fun e b v hp=>?_);obtain⟨x,env',τ,H',L',rfl,g2,g3,g4,g5⟩:=hp;cases x with
 |norm=>exact hQ env' τ H' L' v b g2 g3 g4 g5
 |exit i=>exact hX _ env' τ H' L' v b (by simp) g2 g3 g4 g5
 |ret=>exact hX _ env' τ H' L' v b (by simp) g2 g3 g4 g5
 |pan v'=>exact hX _ env' τ H' L' v b (by simp) g2 g3 g4 g5
end
end Go.Abs
namespace Go.Proofs.YtolkhapmieigcaaGreatDoor
open Go.Abs
inductive Val where
 |mk (k n:Int) (kids:List Val)
abbrev wI:=List Val
def Val.k:Val->Int | .mk k _ _=>k
def Val.n:Val->Int | .mk _ n _=>n
def Val.kids:Val->wI | .mk _ _ l=>l
mutual
def zAz:Val->A
 | .mk _ _ l=>.sl l.length (zT l)
def zT:List Val->wF
 |[]=>[]
 |v::l=>.lit (.int .i64 v.k)::.lit (.int .i64 v.n)::zAz v::zT l
end
def zN(v:Val):wF:=[.lit (.int .i64 v.k),.lit (.int .i64 v.n),.sl v.kids.length (zT v.kids)]
theorem zJV(v:Val):zAz v=.sl v.kids.length (zT v.kids):=by cases v;simp only[zAz,Val.kids]
@[simp]theorem zFf:zT []=[]:=by simp only[zT]
@[simp]theorem u9(v:Val)(l:wI):zT (v::l)=.lit (.int .i64 v.k)::.lit (.int .i64 v.n)::.sl v.kids.length (zT v.kids)::zT l:=by simp only[zT,zJV]
@[simp]theorem zMn:∀l:wI,(zT l).length=l.length*3
 |[]=>by simp
 |v::l=>by simp[zMn l];omega
mutual
theorem zJW:∀v:Val,nrm0 (zAz v)=zAz v/\∀rf g,vw rf g (zAz v)=zAz v
 | .mk k n l=>by have h:=eV l;simp only[zAz];exact⟨by simp[h.1],fun rf g=>by simp[h.2]⟩
theorem eV:∀l:wI,j4 (zT l)
 |[]=>by simp only[zT];exact j4.nil
 |v::l=>by have h:=zJW v;have h':=eV l;simp only[zT];exact⟨by simp[h.1,h'.1],fun rf g=>by simp[h.2,h'.2]⟩
end
@[simp]theorem zXx(l:wI):jV (zT l)=zT l:=(eV l).1
@[simp]theorem qCo{rf g}(l:wI):vwL rf g (zT l)=zT l:=(eV l).2 _ _
theorem jE:∀{l:wI} {i:Nat} (h:i<l.length),(zT l).drop (i*3)=.lit (.int .i64 l[i].k)::.lit (.int .i64 l[i].n)::.sl l[i].kids.length (zT l[i].kids)::zT (l.drop (i+1))
 |v::l,0,h=>by simp
 |v::l,i+1,h=>by
  have e:(i+1)*3=i*3+3:=by omega
  rw[e,u9]
  simpa using jE (l:=l) (i:=i) (by simpa using h)
mutual
def qY:Val->Nat
 | .mk _ _ l=>1+j3 l
def j3:List Val->Nat
 |[]=>0
 |v::l=>qY v+j3 l
end
theorem sJ:∀{l:wI} {v:Val},v∈l->qY v<=j3 l
 |x::l,v,h=>by
  simp only[j3];rcases jA1.1 h with rfl|h
  .omega
  .have:=sJ h;omega
theorem cV{v x:Val}(h:x∈v.kids):qY x<qY v:=by
 cases v with
 |mk k n l=>have:=sJ (l:=l) h;simp only[qY];omega
def uO:Val->Int
 | .mk _ _ l=>l.attach.foldl (fun s x=>w64 (s+uO x.1)) 1
termination_by v=>qY v
decreasing_by
 have:=sJ x.2;simp only[qY];omega
def zJ3(l:wI):Int:=l.foldl (fun s x=>w64 (s+uO x)) 1
theorem zL6(v:Val):uO v=zJ3 v.kids:=by
 cases v with
 |mk k n l =>
  rw[uO];simp only[Val.kids,zJ3];rw[List.foldl_attach (f:=fun s x=>w64 (s+uO x))]
variable{i:Nat}
theorem zIo{l:wI}(h:i<l.length):zJ3 (l.take (i+1))=IntKind.i64.wrap (zJ3 (l.take i)+uO l[i]):=by rw[zJ3,jA7 h,jBv];rfl
def zQd(a b:Int):Int:=if a<b then b else a
def mW:Val->Int
 | .mk _ _ l=>w64 (l.attach.foldl (fun s x=>zQd s (mW x.1)) 0+1)
termination_by v=>qY v
decreasing_by
 have:=sJ x.2;simp only[qY];omega
def zJc(l:wI):Int:=l.foldl (fun s x=>zQd s (mW x)) 0
theorem zHy(v:Val):mW v=w64 (zJc v.kids+1):=by
 cases v with
 |mk k n l =>
  rw[mW];simp only[Val.kids,zJc];rw[List.foldl_attach (f:=fun s x=>zQd s (mW x))]
theorem zHO{l:wI}(h:i<l.length):zJc (l.take (i+1))=zQd (zJc (l.take i)) (mW l[i]):=by rw[zJc,jA7 h,jBv];rfl
mutual
def mO:Val->Val->Int
 | .mk k n l,.mk k' n' l'=>if orI [aW k k',aW n n',aW l.length l'.length]≠0 then orI [aW k k',aW n n',aW l.length l'.length]else aL l l'
def aL:List Val->List Val->Int
 |[],[]=>0
 |[],_::_=>-1
 |_::_,[]=>1
 |a::l,b::l'=>if mO a b≠0 then mO a b else aL l l'
end
def dP(a b:Val):Int:=orI [aW a.k b.k,aW a.n b.n,aW a.kids.length b.kids.length]
theorem fN(a b:Val):mO a b=if dP a b≠0 then dP a b else aL a.kids b.kids:=by cases a;cases b;rw[mO];rfl
theorem vF(xs ys:wI)(h:∀a∈xs,∀b∈ys,my 145 [.agg (zN a),.agg (zN b)] [] (int (mO a b)) []) :
 my 144 [.sl xs.length (zT xs),.sl ys.length (zT ys),.clo 145 [] []] [] (int (aL xs ys)) []:=by
 refine mq [] [.slot 6] func144 (by kernel_rfl) ?_
 (conv in kq _ _=>cbv)
 simp;intro hl;refine qI (S:=Nat) (fun i=>[(0,.sl xs.length (zT xs)),(1,.sl ys.length (zT ys)),(2,.clo 145 [] []),(11,.sl xs.length (zT xs)),(12,int xs.length),(13,int i)]) (fun s=>[])
  (fun i=>i<=xs.length/\i<=ys.length/\aL xs ys=aL (xs.drop i) (ys.drop i)) (fun i=>xs.length-i) 0 (by simp)
  (mw [] 0 (by rfl) (by simp)) ?_
 rintro i ⟨hi,hi',ho⟩;simp;refine jI (fun h1=>?_) (fun h1=>?_)<;>simp at h1
 .have hd:xs.drop i=xs[i]::xs.drop (i+1):=jB6 h1;simp[h1,jE h1];intro hl';refine jI (fun h2=>?_) (fun h2=>?_)<;>simp at h2
  .simp;have hn:ys.drop i=[]:=jD1 h2;exact zB 0 (by rw[ho,hd,hn];simp[aL])
  .have hd':ys.drop i=ys[i]::ys.drop (i+1):=jB6 h2;simp[h2,jE h2];refine mu (h xs[i] (jA0 _) ys[i] (jA0 _)) (by simp[zN]) ?_;simp;refine jI (fun h3=>?_) (fun h3=>?_)<;>simp at h3
   .simp;exact zB 0 (by rw[ho,hd,hd'];simp[aL,h3])
   .simp;refine zO (i+1) ⟨h1,h2,by rw[ho,hd,hd'];simp[aL,h3]⟩ (by omega) (mw [] 0 (by rfl) (by simp[zZ h1 hl]))
 .have:i=xs.length:=by omega
  subst this;simp;have hn:xs.drop xs.length=[]:=by simp
  intro _ hl';refine jI (fun h2=>?_) (fun h2=>?_)<;>simp at h2
  .have hd':ys.drop xs.length=ys[xs.length]::ys.drop (xs.length+1):=jB6 h2;simp;exact zB 0 (by rw[ho,hn,hd'];simp[aL])
  .have hn':ys.drop xs.length=[]:=jD1 h2;simp;exact zB 0 (by rw[ho,hn,hn'];simp[aL])
theorem zIF(a b:Val):my 145 [.agg (zN a),.agg (zN b)] [] (int (mO a b)) []:=by
 refine mq [] [.slot 4] func145 (by kernel_rfl) ?_
 (conv in kq _ _=>cbv)
 simp[zN];refine qC (dH a.k b.k) (by simp) (by simp) ?_;simp;refine qC (dH a.n b.n) (by simp) (by simp) ?_;simp;refine qC (dH a.kids.length b.kids.length) (by simp) (by simp) ?_;simp;refine qC (zO2 [aW a.k b.k,aW a.n b.n,aW a.kids.length b.kids.length]) (by simp) (by simp) ?_;simp;refine jI (fun h=>?_) (fun h=>?_)<;>simp at h
 .simp;exact zB 0 (by rw[fN];simp[dP,h])
 .simp;refine mu (vF a.kids b.kids fun x hx y hy=>zIF x y) (by simp) ?_;simp;exact zB 0 (by rw[fN];simp[dP,h])
termination_by qY a
decreasing_by exact cV hx
variable{a b:Int}
theorem zIE(h:a<b):aW a b = -1:=by simp[aW,h]
theorem zID(h:b<a):aW a b=1:=by simp[aW,h,Int.not_lt.2 (Int.le_of_lt h)]
theorem zIC(h:b<=a)(h':a<=b):aW a b=0:=by simp[aW,Int.not_lt.2 h,Int.not_lt.2 h']
theorem rI(a b:Val):my 33 [.agg (zN a),.agg (zN b)] [] (int (mO a b)) []:=by
 refine mq [] [.slot 4] func33 (by kernel_rfl) ?_
 (conv in kq _ _=>cbv)
 simp[zN];intro hl hl';refine qI (S:=Nat) (fun i=>[(2,.ptr 0 0),(3,.ptr 1 0),(5,.sl 3 [int a.k,int a.n,int a.kids.length]),(6,.sl 3 [int b.k,int b.n,int b.kids.length]),(7,int i)])
  (fun s=>[.box [int a.k,int a.n,.sl a.kids.length (zT a.kids)],.box [int b.k,int b.n,.sl b.kids.length (zT b.kids)]])
  (fun i=>i<=3/\dP a b=orI (([aW a.k b.k,aW a.n b.n,aW a.kids.length b.kids.length]).drop i)) (fun i=>3-i) 0 (by simp[dP])
  (mw [0,1] 0 (by rfl) (by simp)) ?_
 rintro i ⟨hi,ho⟩;rcases (by omega:i=0\/i=1\/i=2\/i=3)with rfl|rfl|rfl|rfl
 .simp;refine jI (fun h1=>?_) (fun h1=>?_)<;>simp at h1
  .simp;exact zB 0 (by rw[fN,ho];simp[orI,zIE h1])
  simp;refine jI (fun h2=>?_) (fun h2=>?_)<;>simp at h2
  .simp;exact zB 0 (by rw[fN,ho];simp[orI,zID h2])
  simp;exact zO 1 ⟨by omega,by rw[ho];simp[orI,zIC h1 h2]⟩ (by omega) (kf [0,1] 0 (by rfl) (by simp) (by simp;rfl))
 .simp;refine jI (fun h1=>?_) (fun h1=>?_)<;>simp at h1
  .simp;exact zB 0 (by rw[fN,ho];simp[orI,zIE h1])
  simp;refine jI (fun h2=>?_) (fun h2=>?_)<;>simp at h2
  .simp;exact zB 0 (by rw[fN,ho];simp[orI,zID h2])
  simp;exact zO 2 ⟨by omega,by rw[ho];simp[orI,zIC h1 h2]⟩ (by omega) (kf [0,1] 0 (by rfl) (by simp) (by simp;rfl))
 .simp;refine jI (fun h1=>?_) (fun h1=>?_)<;>simp at h1
  .simp;exact zB 0 (by rw[fN,ho];simp[orI,zIE (Int.ofNat_lt.2 h1)])
  simp;refine jI (fun h2=>?_) (fun h2=>?_)<;>simp at h2
  .simp;exact zB 0 (by rw[fN,ho];simp[orI,zID (Int.ofNat_lt.2 h2)])
  simp;exact zO 3 ⟨by omega,by rw[ho];simp[orI,zIC (Int.ofNat_le.2 h1) (Int.ofNat_le.2 h2)]⟩ (by omega) (kf [0,1] 0 (by rfl) (by simp) (by simp;rfl))
 have hlen:a.kids.length=b.kids.length:=by
  have h0:dP a b=0:=by rw[ho];rfl
  simp only[dP,orI]at h0;split at h0<;>try contradiction
  split at h0<;>try contradiction
  split at h0<;>try contradiction
  rename_i _ _ h;simp only[aW]at h;split at h
  .cases h
  .split at h
   .cases h
   .omega
 simp;refine qI (S:=Nat) (fun i=>[(2,.ptr 0 0),(3,.ptr 1 0),(8,int i)])
  (fun s=>[.box [int a.k,int a.n,.sl a.kids.length (zT a.kids)],.box [int b.k,int b.n,.sl b.kids.length (zT b.kids)]])
  (fun i=>i<=a.kids.length/\mO a b=aL (a.kids.drop i) (b.kids.drop i)) (fun i=>a.kids.length-i) 0 ⟨by omega,by rw[fN,ho];simp[orI]⟩
  (mw [0,1] 0 (by rfl) (by simp)) ?_
 rintro i ⟨hi,ho⟩;simp;intro _;refine jI (fun h1=>?_) (fun h1=>?_)<;>simp at h1
 .have h2:i<b.kids.length:=by omega
  have hd:a.kids.drop i=a.kids[i]::a.kids.drop (i+1):=jB6 h1;have hd':b.kids.drop i=b.kids[i]::b.kids.drop (i+1):=jB6 h2;simp[h1,h2,jE h1,jE h2];refine qC (rI a.kids[i] b.kids[i]) (by simp[zN]) (by simp) ?_;simp;refine jI (fun h3=>?_) (fun h3=>?_)<;>simp at h3
  .simp;exact zB 0 (by rw[ho,hd,hd'];simp[aL,h3])
  .simp;exact zO (i+1) ⟨h1,by rw[ho,hd,hd'];simp[aL,h3]⟩ (by omega) (mw [0,1] 0 (by rfl) (by simp[zZ h1 hl]))
 .simp;have e1:a.kids.drop i=[]:=jD1 h1;have e2:b.kids.drop i=[]:=jD1 (by omega);exact zB 0 (by rw[ho,e1,e2];simp[aL])
termination_by qY a
decreasing_by exact cV (jA0 _)
variable{l:wG}
theorem zCP{m:Nat}(h1:1<=m)(h:m<l.length):yS (l.take (m+1))=if l[m-1]=l[m]then yS (l.take m)else yS (l.take m)++[l[m]]:=by
 rw[jA7 h,lN,zAA,zFi];have:(l.take m).getLast?=some l[m-1]:=by rw[List.getLast?_eq_getElem?,jAv,jAx (by omega),jBg,if_pos (by omega),jA2 (by omega)]
 rw[this];simp only[jA3]
theorem zCN(l:wG):(yS l).length<=l.length:=by
 induction l using fT with
 |nil=>simp[yS]
 |snoc l y ih =>
  rw[lN,zAA];split
  .simp;omega
  .simp;omega
theorem zRN(h:1<=l.length):yS (l.take 1)=l.take 1:=by
 cases l with
 |nil=>simp at h
 |cons x l=>simp[yS,zAA]
theorem zUu(h1:1<=i)(h:i<l.length)(hd:l[i-1]=l[i]):yS l≠l:=by
 intro e;have:∀r:wG,(yS (l.take (i+1)++r)).length<=i+r.length:=fun r=>by
  induction r using fT with
  |nil =>
   rw[jAt,zCP h1 h,if_pos hd];have:=zCN (l.take i);simp at this;simp;omega
  |snoc r y ih =>
   rw[<-jAq,lN,zAA];split
   .simp;omega
   .simp;omega
 have:=this (l.drop (i+1));rw[jBw,e]at this;simp at this;omega
theorem sT:∀{R:wG} {k:Nat} (x:Id),k<R.length->(zY R).take (k*3)++(.lit (.int .i64 x.a)::.lit (.int .i64 x.b)::.lit (.int .i64 x.c)::(zY R).drop (k*3+3))=zY (R.set k x)
 |v::R,0,x,h=>by simp
 |v::R,k+1,x,h=>by
  have e:(k+1)*3=k*3+3:=by omega
  have:=sT (R:=R) (k:=k) x (by simpa using h);rw[e,fW,List.set_cons_succ,fW,<-this];simp
def cJ(n:Nat):wG:=List.replicate n Id.zero
theorem nH:∀n:Nat,zY (cJ n)=(List.replicate n [A.lit (.int .i64 0),A.lit (.int .i64 0),A.lit (.int .i64 0)]).flatten
 | 0=>rfl
 |n+1=>by have:=nH n;simp only[cJ,List.replicate_succ,List.flatten_cons]at this ⊢;rw[<-this];rfl
theorem zL5{R:wG}{k:Nat}{x:Id}(h:k<R.length):(R.set k x).take (k+1)=R.take k++[x]:=by rw[List.take_set,jA7 h,List.set_append_right _ _ (by simp;omega)];simp[jAx (Nat.le_of_lt h)]
def zHx(l:wG):A:=if yS l=l then .row 0 l.length else .win 0 l.length 0 (yS l).length 3
theorem zFk(l:wG)(hb:l.length<=4000000000):my 58 [.row 0 l.length] [.row false 32 3 l.length (zY l)] (zHx l)
 [.row false 32 3 l.length (zY (yS l++cJ (l.length-(yS l).length)))]:=by
 have hsame:yS l=l->zY (yS l++cJ (l.length-(yS l).length))=zY l:=fun e=>by rw[e];simp[cJ]
 refine zH func58 rfl zJL (rs:=[.slot 2]) (by kernel_rfl) ?_;unfold zEJ;by_cases h2:l.length<2
 .have hc:yS l=l:=by
   match l,h2 with
   |[],_=>rfl
   |[x],_=>simp[yS,zAA]
  have h2':(l.length:Int)<2:=by omega
  simp[h2'];exact mv [0] 0 (by rfl) (by simp[hc,cJ,zHx])
 .have h2':¬(l.length:Int)<2:=by omega
  simp[h2'];refine qI (S:=Nat) (fun i=>[(0,.row 0 l.length),(3,int i)]) (fun i=>[.row false 32 3 l.length (zY l)]) (fun i=>1<=i/\i<=l.length/\yS (l.take i)=l.take i) (fun i=>l.length-i) 1 ⟨by omega,by omega,zRN (by omega)⟩
   (mw [0] 0 (by rfl) (by simp)) ?_
  rintro i ⟨h1,hi,hc⟩;by_cases h:i<l.length
  .have hi1:i-1<l.length:=by omega
   have hw:IntKind.i64.wrap ((i:Int)-1)=((i-1:Nat):Int):=by rw[Int.ofNat_sub h1];exact IntWalk.i64_in _ (by omega)
   have hn1:¬(l.length*3<i*3+3):=by omega
   have hl1:i*3+3<=l.length*3:=by omega
   have hl2:(i-1)*3+3<=l.length*3:=by omega
   have hct:=zCP h1 h;by_cases hd:l[i-1]=l[i]
   .rw[if_pos hd,hc]at hct;have hne:=zUu h1 h hd;have hd3:iJ l[i].a l[i].b l[i].c l[i-1].a l[i-1].b l[i-1].c=true:=by rw[eC];simp[hd]
    simp[h,hw,hl1,hl2,hi1,jN h,jN hi1,hd3];refine⟨hi,?_⟩;refine qI (S:=Nat×Nat×wG) (fun s=>[(0,.row 0 l.length),(3,int s.1),(4,.win 0 l.length (i*3) (l.length-i) 3),(5,int s.2.1)]) (fun s=>[.row false 32 3 l.length (zY s.2.2)])
     (fun s=>s.2.2.length=l.length/\1<=s.2.1/\i+s.2.1<=l.length/\s.1+1<=i+s.2.1/\(yS (l.take (i+s.2.1))).length=s.1/\s.2.2.take s.1=yS (l.take (i+s.2.1))/\s.2.2.drop (i+s.2.1-1)=l.drop (i+s.2.1-1))
     (fun s=>l.length-(i+s.2.1)) (i,1,l) ⟨rfl,jA _,h,by simp,by simp[hct];omega,by simp[hct],rfl⟩
     (mw [0] 0 (by rfl) (by simp)) ?_
    rintro⟨k,j,R⟩ ⟨r1,r2,r3,r4,r5,r6,r7⟩;simp only at r1 r2 r3 r4 r5 r6 r7;simp only;have hsub:(l.length:Int)-i=((l.length-i:Nat):Int):=by omega
    have hwj:IntKind.i64.wrap ((j:Int)-1)=((j-1:Nat):Int):=by rw[Int.ofNat_sub r2];exact IntWalk.i64_in _ (by omega)
    have hwj1:IntKind.i64.wrap ((j:Int)+1)=((j+1:Nat):Int):=by push_cast;exact IntWalk.i64_in _ (by omega)
    have hwk1:IntKind.i64.wrap ((k:Int)+1)=((k+1:Nat):Int):=by push_cast;exact IntWalk.i64_in _ (by omega)
    by_cases hj:i+j<l.length
    .have hjR:i+j<R.length:=by omega
     have hj1R:i+j-1<R.length:=by omega
     have hkR:k<R.length:=by omega
     have hR:R[i+j]=l[i+j]:=by have:=congrArg (fun x:wG=>x[1]?) r7;simp only[jCt]at this;rw[show i+j-1+1=i+j by omega,jA2 hjR,jA2 hj]at this;exact jAy this
     have hR1:R[i+j-1]=l[i+j-1]:=by have:=congrArg (fun x:wG=>x[0]?) r7;simp only[jCt]at this;rw[show i+j-1+0=i+j-1 by omega,jA2 hj1R,jA2 (by omega)]at this;exact jAy this
     have e0:i*3+j*3=(i+j)*3:=by omega
     have e1:i*3+(j-1)*3=(i+j-1)*3:=by omega
     have hjlt:j<l.length-i:=by omega
     have hjlt1:j-1<l.length-i:=by omega
     have hb0:(i+j)*3+3<=l.length*3:=by omega
     have hb1:(i+j-1)*3+3<=l.length*3:=by omega
     have hbk:k*3+3<=l.length*3:=by omega
     have hkl:k<l.length:=by omega
     have hct2:=zCP (l:=l) (m:=i+j) (by omega) hj;by_cases hd2:l[i+j-1]=l[i+j]
     .rw[if_pos hd2]at hct2;have hs3:iJ R[i+j].a R[i+j].b R[i+j].c R[i+j-1].a R[i+j-1].b R[i+j-1].c=true:=by rw[eC,hR,hR1,hd2];simp
      simp[hjlt,hjlt1,hwj,e0,e1,r1,hb0,hb1,jN hjR,jN hj1R,hs3];exact zO (k,j+1,R) ⟨r1,by simp,by simp only;omega,by simp only;omega,by simp only[<-jBb,hct2];exact r5,by simp only[<-jBb,hct2];exact r6,by
       have:=congrArg (fun x:wG=>x.drop 1) r7;simp only[jAu]at this;simp only;rw[show i+(j+1)-1=i+j-1+1 by omega];exact this⟩ (by simp only;omega) (mw [0] 0 (by rfl) (by simp[hwj1]))
     .rw[if_neg hd2]at hct2;have hs3:iJ R[i+j].a R[i+j].b R[i+j].c R[i+j-1].a R[i+j-1].b R[i+j-1].c=false:=by rw[eC,hR,hR1];exact decide_eq_false fun e=>hd2 e.symm
      simp[hjlt,hjlt1,hwj,e0,e1,r1,hb0,hb1,hbk,hkl,jN hjR,jN hj1R,hs3,sT _ hkR];exact zO (k+1,j+1,R.set k l[i+j]) ⟨by simp[r1],by simp,by simp only;omega,by simp only;omega,by simp only[<-jBb,hct2,jA4,r5];simp,by
       simp only[<-jBb,hct2];rw[zL5 hkR,r6],by
       have:=congrArg (fun x:wG=>x.drop 1) r7;simp only[jAu]at this;simp only;rw[show i+(j+1)-1=i+j-1+1 by omega,List.drop_set_of_lt (by omega)];exact this⟩ (by simp only;omega) (mw [0] 0 (by rfl) (by simp[hR,hwj1,hwk1]))
    .have hij:i+j=l.length:=by omega
     have hj':¬(j:Int)<((l.length-i:Nat):Int):=by omega
     simp[hj',r1];rw[hij,jAs]at r5 r6;have e2:k*3+(l.length-k)*3=l.length*3:=by omega
     have hcells:List.take (k*3) (zY R)++((List.replicate (l.length-k) [A.lit (Value.int IntKind.i64 0),A.lit (Value.int IntKind.i64 0),A.lit (Value.int IntKind.i64 0)]).flatten++List.drop (k*3+(l.length-k)*3) (zY R))=zY (yS l++cJ (l.length-(yS l).length)):=by rw[e2,List.drop_of_length_le (by simp[r1]),jAt,u7,r6,qO,nH,r5]
     rw[hcells];refine⟨by omega,by omega,by omega,?_⟩;exact mv [0] 0 (by rfl) (by simp[zHx,hne,r5])
   .rw[if_neg hd,hc]at hct;have hd3:iJ l[i].a l[i].b l[i].c l[i-1].a l[i-1].b l[i-1].c=false:=by rw[eC];exact decide_eq_false fun e=>hd e.symm
    simp[h,hw,hl1,hl2,hi1,jN h,jN hi1,hd3];exact zO (i+1) ⟨by omega,h,by rw[hct,jA7 h]⟩ (by omega) (mw [0] 0 (by rfl) (by simp[zZ h (show l.length<=maxLen by simp[maxLen];omega)]))
  .have:i=l.length:=by omega
   subst this;rw[jAs]at hc;simp;exact mv [0] 0 (by rfl) (by simp[hc,cJ,zHx])
end Go.Proofs.YtolkhapmieigcaaGreatDoor
