/- An evaluator of small code at closed abstract states: code, functions, calls. -/
import Derived.Test.YtolkhapmieigcaaGreatDoorX8
set_option linter.unusedVariables false
set_option maxHeartbeats 8000000
set_option maxRecDepth 100000
set_option linter.unusedSimpArgs false
open Go.Proofs.Tryz
namespace Go.Abs
section
variable{P:Program}{n0:Nat}
abbrev Run:=FuncId->List A->St->Option (A×St)
abbrev Res:=Option (Ex×List (Nat×A)×St)
theorem zRV{env:Env} {U:St}:fI n0 env (U++[AObj.rsv]) env U:=by
 intro H0 L0 w0 H L w N tmps h0 h1 h2;have hll:=LLe.append L [(⟨none,0,0,false⟩:LI)];refine⟨H,L++[(⟨none,0,0,false⟩:LI)],h1.trans ?_,h2.mono (HLe.refl _) hll⟩;have hs:=h1.st;refine⟨⟨hs.pers,by simp[hs.len],fun i l o hL hU=>?_,fun i j x y b hi hj hx hy=>?_,fun i x b hi hx=>?_⟩,Step.refl _ _ _,hll,fun b ⟨i,x,hi,hx⟩=>?_⟩
 .rcases jH hL with hL'|⟨rfl,rfl⟩
  .have hi:i<L.length:=(jA5.1 hL').1;rw[jAo (by rw[<-hs.len];exact hi)]at hU;exact(hs.obj i l o hL' hU).carry (fun _ _=>rfl) (HLe.refl _) hll (fun _ _ _=>rfl)
  .rw[hs.len]at hU;rw[jB8 (jA _)]at hU;simp only[jBw,jB7,jA1]at hU;subst hU;exact⟨rfl,rfl⟩
 .rcases jH hi with hi'|⟨rfl,rfl⟩
  .rcases jH hj with hj'|⟨rfl,rfl⟩
   .exact hs.inj i j x y b hi' hj' hx hy
   .cases hy
  .cases hx
 .rcases jH hi with hi'|⟨rfl,rfl⟩
  .exact hs.lt i x b hi' hx
  .cases hx
 .rcases jH hi with hi'|⟨rfl,rfl⟩
  .exact .inl ⟨i,x,hi',hx⟩
  .cases hx
theorem bL{env:Env}:∀(n:Nat) {U:St},fI n0 env (U++List.replicate n AObj.rsv) env U
 | 0,U=>by simpa using fI.refl n0 env U
 |n+1,U=>by
  have:=(zRV (n0:=n0) (env:=env) (U:=U)).trans (bL n);rw[List.replicate_succ]
  simpa using this
structure Entry where
 k:K
 rs:List RS
 frz:Bool
def zWS(f:Nat):List (Nat×Entry)->Option Entry
 |[]=>none
 |p::l=>bif Nat.beq f p.1 then some p.2 else zWS f l
end
end Go.Abs
namespace Go.Abs
section
variable{d:wD}{x v:Operand}{n f:Nat}{g:Bool}{env:Env} {U:St}
@[simp]theorem qEJ(h1:1000<=f)(h2:f<2000):cJ f (.st d x v n) env=rG (f-1000) (ev env x):=propext (zNo h1 h2)
@[simp]theorem qEG(h1:2000<=f)(h2:f<4000):cJ f (.ld d x n g) env=eG (f-2000) (ev env x):=propext (zBr h1 h2)
variable{c:Nat}
@[simp]theorem zTa{l o:Nat}:rG c (.ptr l o)=(l<c):=rfl
@[simp]theorem zSZ{l o:Nat}:eG c (.ptr l o)=(c<=l):=rfl
@[simp]theorem zSY{v:Value}:eG c (.lit v)=True:=rfl
@[simp]theorem qE5(h1:2<f):m9 f U = U:=by unfold m9;rw[if_neg (by omega),if_neg (by omega)]
@[simp]theorem qEH{o:KOp}(h1:6<f)(h2:f<1000):cJ f o env=True:=by
 unfold cJ;split
 .omega
 .omega
 .rw[if_neg (by omega),if_neg (by omega),if_neg (by omega)]
end
section
variable{n0:Nat}{env:Env} {U:St}
end
end Go.Abs
namespace Go.Proofs.YtolkhapmieigcaaGreatDoor
open Go.Abs
def zLo{β:Type}(cf : β->β->Int)(x : β):List β->List β
 |[]=>[x]
 |y::l=>if cf y x<0 then y::zLo cf x l else x::y::l
def zHv{β:Type}(cf : β->β->Int):List β->List β
 |[]=>[]
 |x::l=>zLo cf x (zHv cf l)
theorem zBP{β:Type}(cf : β->β->Int)(x : β):∀l,(zLo cf x l).Perm (x::l)
 |[]=>.refl _
 |y::l=>by
  unfold zLo;split
  .exact((zBP cf x l).cons y).trans (.swap x y l)
  .exact .refl _
theorem zCI{β:Type}{cf : β->β->Int}(ho:Ord cf)(x : β):∀{l:List β},l.Pairwise (fun x y=>¬cf y x<0)->(zLo cf x l).Pairwise (fun x y=>¬cf y x<0)
 |[],_=>by simp[zLo]
 |y::l,h=>by
  obtain⟨h1,h2⟩:=jBx.1 h;unfold zLo;split
  .rename_i hy;refine jBx.2 ⟨fun z hz=>?_,zCI ho x h2⟩;rcases jA3.1 ((zBP cf x l).mem_iff.1 hz)with rfl|hz
   .exact fun hh=>ho.irrefl _ (ho.trans _ _ _ hy hh)
   .exact h1 z hz
  .rename_i hy;refine jBx.2 ⟨fun z hz=>?_,h⟩;rcases jA3.1 hz with rfl|hz
   .exact hy
   .exact ho.ntrans _ _ _ (h1 z hz) hy
theorem zBR{β:Type}{cf : β->β->Int}(ho:Ord cf):∀l:List β,(zHv cf l).Perm l/\(zHv cf l).Pairwise (fun x y=>¬cf y x<0)
 |[]=>⟨.refl _,.nil⟩
 |x::l=>by obtain⟨h1,h2⟩:=zBR ho l;exact⟨(zBP cf x _).trans (h1.cons x),zCI ho x h2⟩
theorem n9{β:Type}{cf : β->β->Int}(ho:Ord cf)(l:List β):bE cf l=zHv cf l:=(zBp ho (zBR ho l).1 (zBR ho l).2).symm
variable{x y:Id}
theorem u4:bJ x y=true↔x.a<y.a\/(x.a=y.a/\(x.b<y.b\/(x.b=y.b/\x.c<y.c))):=by
 unfold bJ;split
 .simp only[decide_eq_true_eq];omega
 .split
  .simp only[decide_eq_true_eq];omega
  .simp only[decide_eq_true_eq];omega
theorem u5:bJ x y=false↔¬(x.a<y.a\/(x.a=y.a/\(x.b<y.b\/(x.b=y.b/\x.c<y.c)))):=by rw[<-u4];simp
theorem dN(x:Id):bJ x x=false:=by rw[u5];omega
theorem zCL{z:Id}(h:bJ x y=true)(k:bJ y z=true):bJ x z=true:=by rw[u4]at *;omega
theorem rI(h:bJ x y=false)(k:bJ y x=false):x=y:=by
 rw[u5]at *
 rw[Id.eq_iff];omega
theorem zLu(h:bJ x y=true):bJ y x=false:=by rw[u4]at h;rw[u5];omega
theorem sX:gI x y<0↔bJ x y=true:=by
 rw[u4];simp only[gI,orI,bN]
 repeat' split
 all_goals omega
theorem gR:Ord gI where
 irrefl x:=by rw[sX,dN];simp
 trans x y z h k:=by rw[sX]at *;exact zCL h k
 ntrans x y z h k:=by
  rw[sX,jC8]at *
  rw[u5]at *;omega
 anti x y h k:=by
  rw[sX,jC8]at *
  exact rI h k
def SS(l:wG):Prop:=l.Pairwise fun x y=>bJ x y=true
theorem oT{x y:Id}:∀{l:wG},y∈mC l x↔y∈l\/y=x
 |[]=>by simp[mC]
 |z::l=>by
  simp only[mC];split
  .simp only[jA3,oT (l:=l),or_assoc]
  .split
   .rename_i h;subst h;simp only[jA3];constructor
    .exact fun h=>.inl h
    .rintro(h|h)
     .exact h
     .exact .inl h
   .simp only[jA3];constructor
    all_goals
     rintro(h|h)
     .exact .inr h
     .exact .inl h
theorem zHu{x:Id}:∀{l:wG},SS l->SS (mC l x)
 |[],_=>by simp[mC,SS]
 |z::l,h=>by
  have h':=jBx.1 h;simp only[mC];split
  .rename_i hz;refine jBx.2 ⟨fun y hy=>?_,zHu h'.2⟩;rcases oT.1 hy with hy|rfl
   .exact h'.1 y hy
   .exact hz
  .rename_i hz;split
   .exact h
   .rename_i hne;have hxz:bJ x z=true:=by
     cases hh:bJ x z with
     |true=>rfl
     |false=>exact(hne (rI (by simpa using hz) hh)).elim
    refine jBx.2 ⟨fun y hy=>?_,h⟩;rcases jA3.1 hy with rfl|hy
    .exact hxz
    .exact zCL hxz (h'.1 y hy)
theorem zIM:∀{l acc:wG},SS acc->SS (l.foldl mC acc)
 |[],_,h=>h
 |_::l,_,h=>zIM (l:=l) (zHu h)
theorem zFY{y:Id}:∀{l acc:wG},y∈l.foldl mC acc↔y∈acc\/y∈l
 |[],_=>by simp
 |x::l,acc=>by simp only[jAt,zFY (l:=l),oT,jA3,or_assoc]
theorem SS.unique:∀{l l':wG},SS l->SS l'->(∀x,x∈l↔x∈l')->l=l'
 |[],[],_,_,_=>rfl
 |[],y::l',_,_,h=>by have:=(h y).2 (jAp ..);simp at this
 |x::l,[],_,_,h=>by have:=(h x).1 (jAp ..);simp at this
 |x::l,y::l',h1,h2,h=>by
  have p1:=jBx.1 h1;have p2:=jBx.1 h2;have hxy:x=y:=by
   rcases jA3.1 ((h x).1 (jAp ..))with e|e
   .exact e
   .rcases jA3.1 ((h y).2 (jAp ..))with e'|e'
    .exact e'.symm
    .have a:=p2.1 x e;have b:=p1.1 y e';rw[zLu b]at a;cases a
  subst hxy
  congr 1
  refine SS.unique p1.2 p2.2 fun z=>?_
  constructor
  .intro hz;rcases jA3.1 ((h z).1 (jAi _ hz))with e|e
   .have:=p1.1 z hz;subst e;rw[dN]at this;cases this
   .exact e
  .intro hz;rcases jA3.1 ((h z).2 (jAi _ hz))with e|e
   .have:=p2.1 z hz;subst e;rw[dN]at this;cases this
   .exact e
theorem eI{α:Type}{motive:List α->Prop}(nil:motive [])(snoc:∀l y,motive l->motive (l++[y]))(l:List α):motive l:=by
 have h:∀r:List α,motive r.reverse:=fun r=>by
  induction r with
  |nil=>exact nil
  |cons a r ih=>rw[List.reverse_cons];exact snoc _ _ ih
 have:=h l.reverse
 rwa[List.reverse_reverse]at this
def v6(acc:wG)(y:Id):wG:=if acc.getLast?=some y then acc else acc++[y]
def yG(l:wG):wG:=l.foldl v6 []
theorem iJ(l:wG)(y:Id):yG (l++[y])=v6 (yG l) y:=by simp[yG,jBr]
theorem zDF:∀(l:wG),(yG l).getLast?=l.getLast?:=by
 intro l;induction l using eI with
 |nil=>rfl
 |snoc l y ih =>
  rw[iJ,v6];split
  .rename_i h;rw[h];simp
  .simp
theorem zBC(l:wG):x∈yG l↔x∈l:=by
 induction l using eI with
 |nil=>simp[yG]
 |snoc l y ih =>
  rw[iJ,v6];split
  .rename_i h;have hy:y∈yG l:=List.mem_of_getLast? h;simp only[ih,jA6,jAk];constructor
   .exact .inl
   .rintro(h|rfl)
    .exact h
    .exact ih.1 hy |> fun h=>h
  .simp[ih]
theorem zQk(l:wG)(h:l.Pairwise fun x y=>bJ y x=false):SS (yG l):=by
 induction l using eI with
 |nil=>simp[yG,SS]
 |snoc l y ih =>
  rw[jCr]at h;have hi:=ih h.1;rw[iJ,v6];split
  .exact hi
  .rename_i hne;unfold SS;rw[jCr];refine⟨hi,by simp,fun z hz y' hy'=>?_⟩;simp only[jAk]at hy';subst hy';have hzl:=(zBC l).1 hz;have h1:=h.2.2 z hzl y' (by simp);cases hh:bJ z y' with
   |true=>rfl
   |false =>
    exfalso;have e:=rI hh h1;subst e;rw[zDF]at hne;have hl:l≠[]:=fun e=>by rw[e]at hzl;simp at hzl
    obtain⟨w,hw⟩:∃w,l.getLast?=some w:=⟨_,List.getLast?_eq_some_getLast hl⟩;have hwl:w∈l:=List.mem_of_getLast? hw;have h2:=h.2.2 w hwl z (by simp);have hwz:w=z\/bJ w z=false:=by
     obtain⟨l',rfl⟩:∃l',l=l'++[w]:=List.getLast?_eq_some_iff.1 hw;rcases jA6.1 hzl with hz'|hz'
     .have:=h.1;rw[jCr]at this;exact .inr (this.2.2 z hz' w (by simp))
     .exact .inl (jAk.1 hz').symm
    have:w=z:=by
     rcases hwz with e|e
     .exact e
     .exact rI e h2
    subst this;exact hne hw
def aP(l:wG):wG:=yG (bE gI l)
theorem cQ(l:wG):(bE gI l).Perm l:=List.mergeSort_perm l _
theorem zHN(l:wG):(bE gI l).Pairwise fun x y=>bJ y x=false:=by
 have h:=List.pairwise_mergeSort (le:=fun x y=>!decide (gI y x<0)) (fun a b c h1 h2=>by simp only[jBy,decide_eq_false_iff_not]at *;exact gR.ntrans c b a h2 h1)
  (fun a b=>by
   simp only[jBa,jBy,decide_eq_false_iff_not];by_cases h:gI b a<0
   .exact .inr fun h'=>gR.irrefl _ (gR.trans _ _ _ h h')
   .exact .inl h) l
 exact h.imp fun h=>by simp only[jBy,decide_eq_false_iff_not,sX,jC8]at h;exact h
theorem aQ{l:wG}:x∈aP l↔x∈l:=by rw[aP,zBC,(cQ l).mem_iff]
theorem i7(l:wG):SS (aP l):=zQk _ (zHN l)
theorem mH(l:wG):aP l=l.foldl mC [] :=
 SS.unique (i7 l) (zIM (by simp[SS])) fun x=>by rw[aQ,zFY];simp
end Go.Proofs.YtolkhapmieigcaaGreatDoor
namespace Go.Proofs.YtolkhapmieigcaaGreatDoor
open Go.Abs
@[simp]theorem qCO(d:Id):(zX d).take 3=zX d:=jAh (jA _)
@[simp]theorem qCP(d:Id):(zX d).length=3:=rfl
theorem zDP(d:Id):qT (zX d):=qT.lit (qT.lit (qT.lit qT.nil))
@[simp]theorem zZi(d:Id):jE (zX d)=zX d:=(zDP d).1
@[simp]theorem qHy(d:Id) {rf g}:vwL rf g (zX d)=zX d:=(zDP d).2 _ _
def zQv(s:ByteArray):wF:=[.lit (.string s)]
def aC(l:List ByteArray):wF:=l.flatMap zQv
theorem zKW(s:ByteArray):qT (zQv s):=qT.lit qT.nil
theorem dJ(l:List ByteArray):qT (aC l):=cN zKW l
@[simp]theorem zVk(l:List ByteArray):jE (aC l)=aC l:=(dJ l).1
@[simp]theorem zZQ{rf g}(l:List ByteArray):vwL rf g (aC l)=aC l:=(dJ l).2 _ _
@[simp]theorem zWy(l:List ByteArray):(aC l).length=l.length:=by rw[aC,dS (k:=1) (fun _=>rfl),Nat.mul_one]
@[simp]theorem zWz:aC []=[]:=rfl
inductive Typ where
 |mk (k:Int) (id:Id) (kids:List Typ)
abbrev wT:=List Typ
def Typ.k:Typ->Int | .mk k _ _=>k
def Typ.id:Typ->Id | .mk _ d _=>d
def Typ.kids:Typ->wT | .mk _ _ l=>l
variable{l:wT}
@[simp]theorem Typ.k_mk{k:Int}{i:Id}:(Typ.mk k i l).k=k:=rfl
@[simp]theorem Typ.id_mk{k:Int}{i:Id}:(Typ.mk k i l).id=i:=rfl
@[simp]theorem Typ.kids_mk{k:Int}{i:Id}:(Typ.mk k i l).kids=l:=rfl
mutual
def zC3:Typ->A
 | .mk _ _ l=>.sl l.length (jL l)
def jL:List Typ->wF
 |[]=>[]
 |t::l=>.lit (.int .i64 t.k)::.lit (.int .i64 t.id.a)::.lit (.int .i64 t.id.b)::.lit (.int .i64 t.id.c)::zC3 t::jL l
end
theorem zQf(t:Typ):zC3 t=.sl t.kids.length (jL t.kids):=by cases t;simp only[zC3,Typ.kids]
def zB(t:Typ):wF:=[.lit (.int .i64 t.k),.lit (.int .i64 t.id.a),.lit (.int .i64 t.id.b),.lit (.int .i64 t.id.c),.sl t.kids.length (jL t.kids)]
theorem iI(l:wT):jL l=l.flatMap zB:=by
 induction l with
 |nil=>simp only[jL,List.flatMap_nil]
 |cons t l ih=>simp only[jL,jBm,ih,zQf,zB];rfl
mutual
theorem zIu:∀t:Typ,nrm0 (zC3 t)=zC3 t/\∀rf g,vw rf g (zC3 t)=zC3 t
 | .mk k n l=>by have h:=yK l;simp only[zC3];exact⟨by simp[h.1],fun rf g=>by simp[h.2]⟩
theorem yK:∀l:wT,qT (jL l)
 |[]=>by simp only[jL];exact qT.nil
 |v::l=>by have h:=zIu v;have h':=yK l;simp only[jL];exact⟨by simp[h.1,h'.1],fun rf g=>by simp[h.2,h'.2]⟩
end
theorem zDQ(t:Typ):qT (zB t):=qT.lit (qT.lit (qT.lit (qT.lit (qT.sl (yK _) qT.nil))))
inductive Exp where
 |mk (id:Id) (k n:Int) (ref:Id) (typ:Typ) (kids:List Exp) (names:List ByteArray)
abbrev wH:=List Exp
def Exp.id:Exp->Id | .mk x _ _ _ _ _ _=>x
def Exp.k:Exp->Int | .mk _ x _ _ _ _ _=>x
def Exp.n:Exp->Int | .mk _ _ x _ _ _ _=>x
def Exp.ref:Exp->Id | .mk _ _ _ x _ _ _=>x
def Exp.typ:Exp->Typ | .mk _ _ _ _ x _ _=>x
def Exp.kids:Exp->wH | .mk _ _ _ _ _ x _=>x
def Exp.names:Exp->List ByteArray | .mk _ _ _ _ _ _ x=>x
variable{a d:Id}{b c:Int}{e:Typ}{f:wH}{g:List ByteArray}
@[simp]theorem Exp.id_mk:(Exp.mk a b c d e f g).id=a:=rfl
@[simp]theorem Exp.k_mk:(Exp.mk a b c d e f g).k=b:=rfl
@[simp]theorem Exp.n_mk:(Exp.mk a b c d e f g).n=c:=rfl
@[simp]theorem Exp.ref_mk:(Exp.mk a b c d e f g).ref=d:=rfl
@[simp]theorem Exp.typ_mk:(Exp.mk a b c d e f g).typ=e:=rfl
@[simp]theorem Exp.kids_mk:(Exp.mk a b c d e f g).kids=f:=rfl
@[simp]theorem Exp.names_mk:(Exp.mk a b c d e f g).names=g:=rfl
mutual
def zC2:Exp->A
 | .mk _ _ _ _ _ l _=>.sl l.length (qS l)
def qS:List Exp->wF
 |[]=>[]
 |e::l=>[.lit (.int .i64 e.id.a),.lit (.int .i64 e.id.b),.lit (.int .i64 e.id.c),.lit (.int .i64 e.k),.lit (.int .i64 e.n),.lit (.int .i64 e.ref.a),.lit (.int .i64 e.ref.b),.lit (.int .i64 e.ref.c),.lit (.int .i64 e.typ.k),.lit (.int .i64 e.typ.id.a),.lit (.int .i64 e.typ.id.b),.lit (.int .i64 e.typ.id.c),.sl e.typ.kids.length (jL e.typ.kids),zC2 e,.sl e.names.length (aC e.names)]++qS l
end
theorem zQe(e:Exp):zC2 e=.sl e.kids.length (qS e.kids):=by cases e;simp only[zC2,Exp.kids]
def zH(e:Exp):wF:=[.lit (.int .i64 e.id.a),.lit (.int .i64 e.id.b),.lit (.int .i64 e.id.c),.lit (.int .i64 e.k),.lit (.int .i64 e.n),.lit (.int .i64 e.ref.a),.lit (.int .i64 e.ref.b),.lit (.int .i64 e.ref.c),.lit (.int .i64 e.typ.k),.lit (.int .i64 e.typ.id.a),.lit (.int .i64 e.typ.id.b),.lit (.int .i64 e.typ.id.c),.sl e.typ.kids.length (jL e.typ.kids),.sl e.kids.length (qS e.kids),.sl e.names.length (aC e.names)]
theorem eW(l:wH):qS l=l.flatMap zH:=by
 induction l with
 |nil=>simp only[qS,List.flatMap_nil]
 |cons t l ih=>simp only[qS,jBm,ih,zQe,zH]
mutual
theorem zIt:∀t:Exp,nrm0 (zC2 t)=zC2 t/\∀rf g,vw rf g (zC2 t)=zC2 t
 | .mk _ _ _ _ _ l _=>by have h:=eX l;simp only[zC2];exact⟨by simp[h.1],fun rf g=>by simp[h.2]⟩
theorem eX:∀l:wH,qT (qS l)
 |[]=>by simp only[qS];exact qT.nil
 |v::l=>by have h:=zIt v;have h':=eX l;have h1:=yK v.typ.kids;have h2:=dJ v.names;simp only[qS];exact⟨by simp[h.1,h'.1,h1.1,h2.1],fun rf g=>by simp[h.2,h'.2,h1.2,h2.2]⟩
end
theorem xP(e:Exp):qT (zH e):=by have h:=eX e.kids;have h1:=yK e.typ.kids;have h2:=dJ e.names;exact⟨by simp[zH,h.1,h1.1,h2.1],fun rf g=>by simp[zH,h.2,h1.2,h2.2]⟩
structure Slt where
 id:Id
 name:ByteArray
 typ:Typ
 most:Int
 place:Int
def aD(s:Slt):wF:=[.lit (.int .i64 s.id.a),.lit (.int .i64 s.id.b),.lit (.int .i64 s.id.c),.lit (.string s.name),.lit (.int .i64 s.typ.k),.lit (.int .i64 s.typ.id.a),.lit (.int .i64 s.typ.id.b),.lit (.int .i64 s.typ.id.c),.sl s.typ.kids.length (jL s.typ.kids),.lit (.int .i64 s.most),.lit (.int .i64 s.place)]
theorem p9(s:Slt):qT (aD s):=by have h1:=yK s.typ.kids;exact⟨by simp[aD,h1.1],fun rf g=>by simp[aD,h1.2]⟩
def qW(l:List Slt):wF:=l.flatMap aD
theorem eZ(l:List Slt):qW l=l.flatMap aD:=rfl
structure Dfn where
 id:Id
 kind:Int
 mod:Id
 name:ByteArray
 slots:List Slt
 res:Typ
 body:Exp
 place:Int
 lay:List ByteArray
abbrev wS:=List Dfn
def zQ(d:Dfn):wF:=[.lit (.int .i64 d.id.a),.lit (.int .i64 d.id.b),.lit (.int .i64 d.id.c),.lit (.int .i64 d.kind),.lit (.int .i64 d.mod.a),.lit (.int .i64 d.mod.b),.lit (.int .i64 d.mod.c),.lit (.string d.name),.sl d.slots.length (qW d.slots),.lit (.int .i64 d.res.k),.lit (.int .i64 d.res.id.a),.lit (.int .i64 d.res.id.b),.lit (.int .i64 d.res.id.c),.sl d.res.kids.length (jL d.res.kids),.lit (.int .i64 d.body.id.a),.lit (.int .i64 d.body.id.b),.lit (.int .i64 d.body.id.c),.lit (.int .i64 d.body.k),.lit (.int .i64 d.body.n),.lit (.int .i64 d.body.ref.a),.lit (.int .i64 d.body.ref.b),.lit (.int .i64 d.body.ref.c),.lit (.int .i64 d.body.typ.k),.lit (.int .i64 d.body.typ.id.a),.lit (.int .i64 d.body.typ.id.b),.lit (.int .i64 d.body.typ.id.c),.sl d.body.typ.kids.length (jL d.body.typ.kids),.sl d.body.kids.length (qS d.body.kids),.sl d.body.names.length (aC d.body.names),.lit (.int .i64 d.place),.sl d.lay.length (aC d.lay)]
theorem p7(d:Dfn):qT (zQ d):=by have h1:=yK d.res.kids;have h2:=yK d.body.typ.kids;have h3:=eX d.body.kids;have h4:=dJ d.body.names;have h5:=dJ d.lay;have h6:=cN p9 d.slots;exact⟨by simp[zQ,qW,h1.1,h2.1,h3.1,h4.1,h5.1,h6.1],fun rf g=>by simp[zQ,qW,h1.2,h2.2,h3.2,h4.2,h5.2,h6.2]⟩
def zV(l:wS):wF:=l.flatMap zQ
theorem cW(l:wS):zV l=l.flatMap zQ:=rfl
structure Md where
 id:Id
 name:ByteArray
 uses:List Id
 defs:List Id
def oH(m:Md):wF:=[.lit (.int .i64 m.id.a),.lit (.int .i64 m.id.b),.lit (.int .i64 m.id.c),.lit (.string m.name),.sl m.uses.length (zS m.uses),.sl m.defs.length (zS m.defs)]
theorem xR(m:Md):qT (oH m):=by have h1:=eY m.uses;have h2:=eY m.defs;exact⟨by simp[oH,h1.1,h2.1],fun rf g=>by simp[oH,h1.2,h2.2]⟩
def qC(l:List Md):wF:=l.flatMap oH
theorem uQ(l:List Md):qC l=l.flatMap oH:=rfl
structure Prg where
 mods:List Md
 defs:List Dfn
def zI(p:Prg):wF:=[.sl p.mods.length (qC p.mods),.sl p.defs.length (zV p.defs)]
theorem eP(p:Prg):zI p=[.sl p.mods.length (qC p.mods),.sl p.defs.length (zV p.defs)]:=rfl
@[simp]theorem zVn(l:wT):jE (jL l)=jL l:=(yK l).1
@[simp]theorem zZU{rf g}(l:wT):vwL rf g (jL l)=jL l:=(yK l).2 _ _
@[simp]theorem zW7:jL []=[]:=by rw[iI];rfl
theorem qK(x:Typ)(l:wT):jL (x::l)=zB x++jL l:=by rw[iI,iI];rfl
theorem oF(l l':wT):jL (l++l')=jL l++jL l':=by simp only[iI,jC9]
@[simp]theorem zW6(l:wT):(jL l).length=l.length*5:=by rw[iI,dS (k:=5) (fun _=>rfl)]
variable{i:Nat}
theorem gD(h:i<l.length):(jL l).drop (i*5)=zB l[i]++jL (l.drop (i+1)):=by rw[iI,iI,gE (k:=5) (fun _=>rfl) h]
@[simp]theorem qCV(d:Typ):(zB d).length=5:=rfl
@[simp]theorem qCU(d:Typ):(zB d).take 5=zB d:=jAh (jA _)
@[simp]theorem zYD(d:Typ)(l:wF):(zB d++l).take 5=zB d:=by rw[jCa (by simp)];exact jAh (by simp)
@[simp]theorem zZl(d:Typ):jE (zB d)=zB d:=(zDQ d).1
@[simp]theorem qH1(d:Typ) {rf g}:vwL rf g (zB d)=zB d:=(zDQ d).2 _ _
@[simp]theorem zVf(l:wH):jE (qS l)=qS l:=(eX l).1
@[simp]theorem zZL{rf g}(l:wH):vwL rf g (qS l)=qS l:=(eX l).2 _ _
@[simp]theorem zWr:qS []=[]:=by rw[eW];rfl
theorem zM(x:Exp)(l:wH):qS (x::l)=zH x++qS l:=by rw[eW,eW];rfl
theorem vP(l l':wH):qS (l++l')=qS l++qS l':=by simp only[eW,jC9]
@[simp]theorem zWq(l:wH):(qS l).length=l.length*15:=by rw[eW,dS (k:=15) (fun _=>rfl)]
theorem yX{l:wH}(h:i<l.length):(qS l).drop (i*15)=zH l[i]++qS (l.drop (i+1)):=by rw[eW,eW,gE (k:=15) (fun _=>rfl) h]
theorem aR{l:wH}(h:i<l.length):qS (l.take (i+1))=qS (l.take i)++zH l[i]:=by rw[eW,eW,gP (k:=15) (fun _=>rfl) h]
@[simp]theorem qCL(d:Exp):(zH d).length=15:=rfl
@[simp]theorem qCK(d:Exp):(zH d).take 15=zH d:=jAh (jA _)
@[simp]theorem zY9(d:Exp)(l:wF):(zH d++l).take 15=zH d:=by rw[jCa (by simp)];exact jAh (by simp)
@[simp]theorem zZg(d:Exp):jE (zH d)=zH d:=(xP d).1
@[simp]theorem qHw(d:Exp) {rf g}:vwL rf g (zH d)=zH d:=(xP d).2 _ _
theorem zA9(l:List Slt):qT (qW l):=cN p9 l
@[simp]theorem zVm(l:List Slt):jE (qW l)=qW l:=(zA9 l).1
@[simp]theorem zZT{rf g}(l:List Slt):vwL rf g (qW l)=qW l:=(zA9 l).2 _ _
@[simp]theorem zW5:qW []=[]:=by rw[eZ];rfl
theorem zC6(x:Slt)(l:List Slt):qW (x::l)=aD x++qW l:=by rw[eZ,eZ];rfl
theorem zFv(l l':List Slt):qW (l++l')=qW l++qW l':=by simp only[eZ,jC9]
@[simp]theorem zW4(l:List Slt):(qW l).length=l.length*11:=by rw[eZ,dS (k:=11) (fun _=>rfl)]
theorem jN{l:List Slt}(h:i<l.length):(qW l).drop (i*11)=aD l[i]++qW (l.drop (i+1)):=by rw[eZ,eZ,gE (k:=11) (fun _=>rfl) h]
theorem zB9{l:List Slt}(h:i<l.length):qW (l.take (i+1))=qW (l.take i)++aD l[i]:=by rw[eZ,eZ,gP (k:=11) (fun _=>rfl) h]
@[simp]theorem qCT(d:Slt):(aD d).length=11:=rfl
@[simp]theorem qCS(d:Slt):(aD d).take 11=aD d:=jAh (jA _)
@[simp]theorem zYC(d:Slt)(l:wF):(aD d++l).take 11=aD d:=by rw[jCa (by simp)];exact jAh (by simp)
@[simp]theorem zZk(d:Slt):jE (aD d)=aD d:=(p9 d).1
@[simp]theorem qH0(d:Slt) {rf g}:vwL rf g (aD d)=aD d:=(p9 d).2 _ _
theorem lX(l:wS):qT (zV l):=cN p7 l
@[simp]theorem zVe(l:wS):jE (zV l)=zV l:=(lX l).1
@[simp]theorem zZK{rf g}(l:wS):vwL rf g (zV l)=zV l:=(lX l).2 _ _
@[simp]theorem zWp:zV []=[]:=by rw[cW];rfl
theorem sS(x:Dfn)(l:wS):zV (x::l)=zQ x++zV l:=by rw[cW,cW];rfl
theorem vO(l l':wS):zV (l++l')=zV l++zV l':=by simp only[cW,jC9]
@[simp]theorem zKH(l:wS):(zV l).length=l.length*31:=by rw[cW,dS (k:=31) (fun _=>rfl)]
theorem j5{l:wS}(h:i<l.length):(zV l).drop (i*31)=zQ l[i]++zV (l.drop (i+1)):=by rw[cW,cW,gE (k:=31) (fun _=>rfl) h]
theorem zB7{l:wS}(h:i<l.length):zV (l.take (i+1))=zV (l.take i)++zQ l[i]:=by rw[cW,cW,gP (k:=31) (fun _=>rfl) h]
theorem zKI{l:wS}(x:Dfn)(h:i<l.length):(zV l).take (i*31)++(zQ x++(zV l).drop (i*31+31))=zV (l.set i x):=by rw[cW,cW,zIK (k:=31) (fun _=>rfl) x h]
@[simp]theorem zQu(d:Dfn):(zQ d).length=31:=rfl
@[simp]theorem qCJ(d:Dfn):(zQ d).take 31=zQ d:=jAh (jA _)
@[simp]theorem zY8(d:Dfn)(l:wF):(zQ d++l).take 31=zQ d:=by rw[jCa (by simp)];exact jAh (by simp)
@[simp]theorem zZf(d:Dfn):jE (zQ d)=zQ d:=(p7 d).1
@[simp]theorem qHv(d:Dfn) {rf g}:vwL rf g (zQ d)=zQ d:=(p7 d).2 _ _
theorem lZ(l:List Md):qT (qC l):=cN xR l
@[simp]theorem zVj(l:List Md):jE (qC l)=qC l:=(lZ l).1
@[simp]theorem zZP{rf g}(l:List Md):vwL rf g (qC l)=qC l:=(lZ l).2 _ _
@[simp]theorem zWx:qC []=[]:=by rw[uQ];rfl
theorem gC(x:Md)(l:List Md):qC (x::l)=oH x++qC l:=by rw[uQ,uQ];rfl
@[simp]theorem zWw(l:List Md):(qC l).length=l.length*6:=by rw[uQ,dS (k:=6) (fun _=>rfl)]
@[simp]theorem qCR(d:Md):(oH d).length=6:=rfl
@[simp]theorem qCQ(d:Md):(oH d).take 6=oH d:=jAh (jA _)
@[simp]theorem zYB(d:Md)(l:wF):(oH d++l).take 6=oH d:=by rw[jCa (by simp)];exact jAh (by simp)
@[simp]theorem zZj(d:Md):jE (oH d)=oH d:=(xR d).1
@[simp]theorem qHz(d:Md) {rf g}:vwL rf g (oH d)=oH d:=(xR d).2 _ _
def Typ.zero:Typ:=.mk 0 Id.zero []
def Exp.zero:Exp:=.mk Id.zero 0 0 Id.zero Typ.zero [] []
def Dfn.zero:Dfn:=⟨Id.zero,0,Id.zero,⟨#[]⟩,[],Typ.zero,Exp.zero,0,[]⟩
end Go.Proofs.YtolkhapmieigcaaGreatDoor
namespace Go.Abs
section
variable{P:Program}
end
end Go.Abs
namespace Go.Abs
def Pan(P:Program)(f:FuncId)(args:wF) (U0:St)(v:Value):Prop:=y6 P f args U0 fun o _=>o=.pan v
section
variable{P:Program}{n0:Nat}{Qp:Value->wK}{Qd:Value->St->Prop}{K':wK}{env:Env} {U:St}{d:wD}
theorem Pan.mono{f:FuncId}{args:wF} {U0:St}{v:Value}(h:Pan P f args U0 v){Q:Out->St->Prop}(hq:∀τ,Q (.pan v) τ):y6 P f args U0 Q:=fun H L w vs h1 h2=>(h H L w vs h1 h2).mono fun e w' hh=>by obtain⟨o,U',H',L',g1,g2,rfl⟩:=hh;exact⟨_,U',H',L',g1,g2,hq U'⟩
end
end Go.Abs
namespace Go.Abs
mutual
theorem zVQ{k:Nat}:∀(a:A),(vw jW (fun _=>none) a=a)->a.bnd k=true
 | .any,_=>by simp
 | .nil,_=>by simp
 | .lit _,_=>by simp
 | .agg cs,h=>by simp at h;simp[lW cs h]
 | .tup cs,h=>by simp at h;simp[lW cs h]
 | .sl _ cs,h=>by simp at h;simp[lW cs h]
 | .fsl _ cs,h=>by simp at h;simp[lW cs h]
 | .rptr cs,h=>by simp at h;simp[lW cs h]
 | .ptr l _,h=>by simp at h
 | .row l _,h=>by simp at h
 | .rwp l _ _,h=>by simp at h
 | .win l _ _ _ _,h=>by simp[zNJ]at h
 | .map l,h=>by simp at h
 | .clo _ fs cs,h=>by simp at h;simp[lW fs h.1,lW cs h.2]
theorem lW{k:Nat}:∀(cs:wF),(vwL jW (fun _=>none) cs=cs)->bY k cs=true
 |[],_=>by simp
 |c::cs,h=>by simp at h;simp[zVQ c h.1,lW cs h.2]
end
theorem qT.bnd{cs:wF}(h:qT cs)(k:Nat):bY k cs=true:=lW cs (h.2 _ _)
def shL(m:Nat)(ks:wA):wA:=List.range m++ks.map fun k=>m+k
theorem zG2{m k:Nat}:∀ks:wA,qR (ks.map fun k=>m+k) (m+k)=qR ks k
 |[]=>rfl
 |x::ks=>by
  simp only[jAc,zAc];by_cases h:k=x
  .simp[h]
  .rw[if_neg (by omega),if_neg h,zG2 ks]
@[simp]theorem zOJ{m k:Nat}{ks:wA}:qR (shL m ks) (m+k)=(qR ks k).map (m + ·):=by unfold shL;rw[zCd (by simp),zG2,List.length_range];cases qR ks k<;>simp[jCh]
@[simp]theorem zX0{m:Nat}{ks:wA}:qR (shL m ks) m=(qR ks 0).map (m + ·):=by
 have:=zOJ (m:=m) (k:=0) (ks:=ks)
 simpa using this
@[simp]theorem qES{rf:Bool->Nat->Nat->A}{g:Nat->wD}:vwO rf g .dead=.dead:=rfl
@[simp]theorem zZy{js:wA}{n:Nat}:fE js n .dead=.dead:=rfl
section
variable{P:Program}{n0:Nat}{Qp:Value->wK}{K':wK}{env:Env}{d:wD}
theorem zIj:∀{js ks:wA} {n k:Nat},eT (js++ks) n (js.length+k)=eT ks n k
 |[],ks,n,k=>by simp
 |j::js,ks,n,k=>by
  have e:(j::js).length+k=js.length+k+1:=by simp;omega
  rw[e];simp only[jBf,eT];exact zIj
@[simp]theorem zPS{m k n:Nat}{ks:wA}:eT (shL m ks) n (m+k)=eT (ks.map fun k=>m+k) n k:=by
 have:=zIj (js:=List.range m) (ks:=ks.map fun k=>m+k) (n:=n) (k:=k)
 rwa[List.length_range]at this
@[simp]theorem zYq{m n:Nat}{ks:wA}:eT (shL m ks) n m=eT (ks.map fun k=>m+k) n 0:=by
 have:=zPS (m:=m) (k:=0) (n:=n) (ks:=ks)
 simpa using this
end
end Go.Abs
namespace Go.Proofs.YtolkhapmieigcaaGreatDoor
open Go.Abs
def zX3:Go.Shelf.Ren:=⟨fun | 6=>42 | 15=>98 | 14=>97 | 28=>163 | 29=>164 | 20=>155 | 21=>156 | 22=>157 | 23=>158 | 24=>159 | 25=>160 | 26=>161 | 27=>162 | 46=>197 | 49=>200 | 50=>201 | 57=>222 | 47=>198 | 48=>199|n=>n,fun | 22=>28 | 24=>32 | 25=>108 | 3=>3 | 39=>166 | 0=>0 | 53=>225 | 55=>227 | 4=>4 | 46=>219 | 45=>218 | 50=>136 | 5=>5 | 9=>9 | 66=>260 | 70=>264 | 76=>282 | 77=>283|n=>n,fun n=>n⟩
theorem zLs:Go.Proofs.SlLaysF0.n6 prog zX3:={
 mixed:=by kernel_rfl,
 f6:=⟨f42.name,by decide,func42.trans (congrArg some (by kernel_rfl))⟩,
 f14:=⟨f97.name,by decide,func97.trans (congrArg some (by kernel_rfl))⟩,
 f15:=func98.trans (congrArg some (by kernel_rfl)),
 f20:=⟨f155.name,by decide,func155.trans (congrArg some (by kernel_rfl))⟩,
 f21:=⟨f156.name,by decide,func156.trans (congrArg some (by kernel_rfl))⟩,
 f22:=⟨f157.name,by decide,func157.trans (congrArg some (by kernel_rfl))⟩,
 f23:=⟨f158.name,by decide,func158.trans (congrArg some (by kernel_rfl))⟩,
 f24:=⟨f159.name,by decide,func159.trans (congrArg some (by kernel_rfl))⟩,
 f25:=⟨f160.name,by decide,func160.trans (congrArg some (by kernel_rfl))⟩,
 f26:=⟨f161.name,by decide,func161.trans (congrArg some (by kernel_rfl))⟩,
 f27:=⟨f162.name,by decide,func162.trans (congrArg some (by kernel_rfl))⟩,
 f28:=func163.trans (congrArg some (by kernel_rfl)),
 f29:=func164.trans (congrArg some (by kernel_rfl)),
 f46:=⟨f197.name,by decide,func197.trans (congrArg some (by kernel_rfl))⟩,
 f47:=func198.trans (congrArg some (by kernel_rfl)),
 f48:=func199.trans (congrArg some (by kernel_rfl)),
 f49:=⟨f200.name,by decide,func200.trans (congrArg some (by kernel_rfl))⟩,
 f50:=⟨f201.name,by decide,func201.trans (congrArg some (by kernel_rfl))⟩,
 f57:=⟨f222.name,by decide,func222.trans (congrArg some (by kernel_rfl))⟩,
 t0:=underlying0,
 a0:=isAgg0,
 z0:=sizeOf0,
 v0:=zeroValue0,
 t3:=underlying3,
 a3:=isAgg3,
 z3:=sizeOf3,
 v3:=zeroValue3,
 t4:=underlying4,
 a4:=isAgg4,
 z4:=sizeOf4,
 v4:=zeroValue4,
 t5:=underlying5,
 a5:=isAgg5,
 z5:=sizeOf5,
 v5:=zeroValue5,
 t9:=underlying9,
 a9:=isAgg9,
 z9:=sizeOf9,
 v9:=zeroValue9,
 t22:=underlying28,
 a22:=isAgg28,
 z22:=sizeOf28,
 v22:=zeroValue28,
 t25:=underlying108,
 a25:=isAgg108,
 z25:=sizeOf108,
 v25:=zeroValue108,
 t39:=underlying166,
 a39:=isAgg166,
 z39:=sizeOf166,
 v39:=zeroValue166,
 t45:=underlying218,
 a45:=isAgg218,
 z45:=sizeOf218,
 v45:=zeroValue218,
 t46:=underlying219,
 a46:=isAgg219,
 z46:=sizeOf219,
 v46:=zeroValue219,
 t50:=underlying136,
 a50:=isAgg136,
 z50:=sizeOf136,
 v50:=zeroValue136,
 t53:=underlying225,
 a53:=isAgg225,
 z53:=sizeOf225,
 v53:=zeroValue225,
 t55:=underlying227,
 a55:=isAgg227,
 z55:=sizeOf227,
 v55:=zeroValue227,
 t66:=underlying260,
 a66:=isAgg260,
 z66:=sizeOf260,
 v66:=zeroValue260,
 t70:=underlying264,
 a70:=isAgg264,
 z70:=sizeOf264,
 v70:=zeroValue264,
 t76:=underlying282,
 a76:=isAgg282,
 z76:=sizeOf282,
 v76:=zeroValue282,
 t77:=underlying283,
 a77:=isAgg283,
 z77:=sizeOf283,
 v77:=zeroValue283}
def zNd:Go.Shelf.Ren:=⟨fun | 4=>124|n=>n,fun | 0=>0 | 3=>3 | 4=>4 | 9=>9 | 20=>20 | 22=>28 | 25=>32|n=>n,fun n=>n⟩
theorem zTd:Go.Proofs.Lays8.n4 prog zNd:={
 mixed:=by kernel_rfl,
 f4:=⟨f124.name,by decide,func124.trans (congrArg some (by kernel_rfl))⟩,
 t0:=underlying0,
 a0:=isAgg0,
 z0:=sizeOf0,
 v0:=zeroValue0,
 t3:=underlying3,
 a3:=isAgg3,
 z3:=sizeOf3,
 v3:=zeroValue3,
 t4:=underlying4,
 a4:=isAgg4,
 z4:=sizeOf4,
 v4:=zeroValue4,
 t9:=underlying9,
 a9:=isAgg9,
 z9:=sizeOf9,
 v9:=zeroValue9,
 t20:=underlying20,
 a20:=isAgg20,
 z20:=sizeOf20,
 v20:=zeroValue20,
 t22:=underlying28,
 a22:=isAgg28,
 z22:=sizeOf28,
 v22:=zeroValue28}
theorem zI9:∀args w,(callFunc 128 args).run prog w=.ok (.enter 128 args) w:=enters_of func128 (by kernel_rfl) rfl
theorem zRC:zB0 prog 42 128 zX gI :=
 zRD (k:=3) (fun _=>rfl) gR zRu fun α _ enc hk h1 cf hO blk off cap d w hcmp hH hblk hsz =>
  Go.Proofs.AnyQ.slices_SortFunc zLs 3 isAgg32 sizeOf32 enc hk h1 cf hO 128 #[] blk off cap d w zI9 hcmp hH hblk hsz
theorem zH3:∀(p:Option Addr) (cap:Nat) (fv:Value) (w:World),Calls prog 42 #[.slice p 0 cap,fv] w fun e w'=>e=.returned (.tuple #[])/\w'=w :=
 fun p cap fv w=>Go.Proofs.AnyF.slices_SortFunc_none zLs p cap fv w
theorem zC5(l:wG):l.flatMap zX=zS l:=by
 induction l with
 |nil=>rfl
 |cons v l ih=>rw[jBm,ih];rfl
theorem zLU(l:wG)(hmx:l.length<4611686018427387904):my 42 [.row 0 l.length,.clo 128 [] []] [.row false 32 3 l.length (zS l)] (.tup []) [.row false 32 3 l.length (zS (bE gI l))]:=by
 have:=zEX (sz:=3) (by omega) (fun _=>rfl) (fun b=>by simp[zX]) gR 32 zRC zH3 l hmx
 simpa only[zC5]using this
theorem zLV(x:A):my 42 [.sl 0 [],x] [] (.tup []) []:=by
 intro H L w vs hs hvs;obtain⟨v,vs',rfl,h1,h2⟩:=zZ hvs;obtain⟨fv,vs'',rfl,h3,h4⟩:=zZ h2;have:=qY h4;subst this;simp only[Rel]at h1;obtain⟨p,cap,rfl,_⟩:=h1;refine(zH3 p cap fv w).mono fun e' w' hh=>?_
 obtain⟨rfl,rfl⟩:=hh;exact⟨.ret (.tup []),_,H,L,⟨_,rfl,by simp[Rel,z6]⟩,Nxt.refl hs,rfl,rfl⟩
theorem zEe(n:Nat)(hn:n<=4000000000):my 124 [.nil,int n] [] (.row 0 0) [.row false 32 3 0 []] :=
 zGh (ρ:=zNd) (sz:=3) (bs:=24) (z:=.agg #[.int .i64 0,.int .i64 0,.int .i64 0]) zTd (by kernel_rfl) rfl (by omega) (by omega) (by omega)
def zK1:K:=G [kMn 2] (Z (G [M 3 0,⟨none,.isz (some 4) false (kt 3)⟩] (Y 4 (G [kMn 2] kr) ks)) (G [kd 5 32 3 0 [] [],M 6 0,kP 7 32 3 24 5 6,M 2 7] kr))
theorem zPV:ky f127 zK1:=m_ (by kernel_rfl)
def zGQ:K:=G [kMn 2] (G [kMi 3 0] (Z (G [M 9 0,kN 10 9,kMi 11 0] (K.block 0 (K.loop (G [kB 12 11 10 .lss] (Z (Y 12 ks (K.exit 0)) (Z (K.block 1 (G [kX 13 9 11 1,L 14 13 1,M 5 14] (G [M 15 3,M 16 5,kN 17 16,kB 18 15 17 .add,M 3 18] (G [M 19 3,kBi 20 19 0 .lss] (Y 20 (K.ops [⟨none,.mki (some 21) 9 (.const (.string ⟨#[108,101,110,32,111,117,116,32,111,102,32,114,97,110,103,101]⟩))⟩,⟨none,.pan none (kt 21)⟩]) ks))))) (K.ops [kBi 22 11 1 .add,M 11 22]))))))) (G [M 23 3,kC 24 124 [(.const kl),(kt 23)],M 6 24] (Z (G [M 25 0,kN 26 25,kMi 27 0] (K.block 2 (K.loop (G [kB 28 27 26 .lss] (Z (Y 28 ks (K.exit 2)) (Z (K.block 3 (G [kX 29 25 27 1,L 30 29 1,M 8 30] (K.ops [M 31 6,M 32 8,kP 33 32 3 24 31 32,M 6 33]))) (K.ops [kBi 34 27 1 .add,M 27 34]))))))) (G [M 35 6,M 2 35] kr)))))
theorem zMx:ky f56 zGQ:=m_ (by kernel_rfl)
def zDx:K:=G [kMn 2] (Z (G [M 6 0,kN 7 6,kBi 8 7 2 .lss] (Y 8 (G [M 9 0,M 2 9] kr) ks)) (Z (G [kMi 3 1] (K.block 0 (K.loop (Z (G [M 10 3,M 11 0,kN 12 11,kB 13 10 12 .lss] (Y 13 ks (K.exit 0))) (Z (K.block 1 (Z (K.dops [(0,0,M 16 0),(1,0,M 17 3),(2,0,kX 18 16 17 3),(3,0,J 19 18 3),(4,0,M 20 0),(5,0,M 21 3),(6,0,kBi 22 21 1 .sub),(7,0,kX 23 20 22 3),(8,0,J 24 23 3),(9,0,⟨none,.eqs (some 25) false [.i,.i,.i] (kt 19) (kt 24)⟩)]) (Y 25 (G [M 26 0,M 27 3,⟨none,.rslc (some 28) (kt 26) 3 (some (kt 27)) none⟩,M 4 28] (Z (G [kMi 5 1] (K.block 2 (K.loop (Z (G [M 29 5,M 30 4,kN 31 30,kB 32 29 31 .lss] (Y 32 ks (K.exit 2))) (Z (K.block 3 (Z (K.dops [(0,0,M 35 4),(1,0,M 36 5),(2,0,kX 37 35 36 3),(3,0,J 38 37 3),(4,0,M 39 4),(5,0,M 40 5),(6,0,kBi 41 40 1 .sub),(7,0,kX 42 39 41 3),(8,0,J 43 42 3),(9,0,⟨none,.eqs (some 44) true [.i,.i,.i] (kt 38) (kt 43)⟩)]) (Y 44 (G [M 45 0,M 46 3,M 47 4,M 48 5,kX 49 47 48 3,J 50 49 3,kX 51 45 46 3,S 51 50 3] (K.ops [M 52 3,kBi 53 52 1 .add,M 3 53])) ks))) (K.ops [M 33 5,kBi 34 33 1 .add,M 5 34])))))) (G [M 54 0,M 55 3,⟨none,.rslc (some 56) (kt 54) 3 (some (kt 55)) none⟩,⟨none,.mop none (.clr 3 [ki,ki,ki]) [(kt 56)]⟩] (G [M 57 0,M 58 3,⟨none,.rslc (some 59) (kt 57) 3 none (some (kt 58))⟩,M 2 59] kr)))) ks))) (K.ops [M 14 3,kBi 15 14 1 .add,M 3 15])))))) (G [M 60 0,M 2 60] kr)))
theorem zIn:ky f58 zDx:=m_ (by kernel_rfl)
theorem zI1(l:wG)(h:l≠[])(hb:l.length<=4000000000):my 127 [.sl l.length (zS l)] [] (.row 0 l.length) [.row false 32 3 l.length (zS l)]:=by refine zG func127 rfl zPV (rs:=[.slot 2]) (by kernel_rfl) ?_;unfold zK1;simp[h];refine⟨⟨by simp[maxLen];omega,by omega⟩,?_⟩;exact mv [0] 0 (by rfl) (by simp)
theorem zI2:my 127 [.sl 0 []] [] (.sl 0 []) []:=by refine zG func127 rfl zPV (rs:=[.slot 2]) (by kernel_rfl) ?_;unfold zK1;simp;exact⟨zC 0 (by simp),zC 0 (by simp)⟩
def bF(Ls:List wG):wF:=Ls.map fun l=>A.sl l.length (zS l)
theorem pS:∀(Ls:List wG),qT (bF Ls)
 |[]=>qT.nil
 |l::Ls=>by
  have h1:=pS Ls;have h2:=eY l;refine⟨?_,fun rf g=>?_⟩
  .show jE (A.sl l.length (zS l)::bF Ls)=_;simp[h1.1];rfl
  .show vwL rf g (A.sl l.length (zS l)::bF Ls)=_;simp[h1.2];rfl
@[simp]theorem zVi(l:List wG):jE (bF l)=bF l:=(pS l).1
@[simp]theorem zZO{rf g}(l:List wG):vwL rf g (bF l)=bF l:=(pS l).2 _ _
@[simp]theorem zWv(l:List wG):(bF l).length=l.length:=by simp[bF]
variable{Ls:List wG}
theorem nN{i:Nat}(h:i<Ls.length):(bF Ls).drop i=.sl Ls[i].length (zS Ls[i])::bF (Ls.drop (i+1)):=by rw[bF,<-List.map_drop,jBb h];rfl
def dC(Ls:List wG):Nat:=Ls.flatten.length
theorem vE{i:Nat}(h:i<Ls.length):dC (Ls.take (i+1))=dC (Ls.take i)+Ls[i].length:=by rw[dC,dC,jA8 h,jCi];simp
theorem zDw(Ls:List wG)(i:Nat):dC (Ls.take i)<=dC Ls:=by
 have:Ls.flatten=(Ls.take i).flatten++(Ls.drop i).flatten:=by rw[<-jCi,jBs]
 rw[dC,dC,this,jA4];omega
theorem pY(Ls:List wG)(hb:dC Ls<=4000000000):my 56 [.sl Ls.length (bF Ls)] [] (.sl (dC Ls) (zS Ls.flatten)) []:=by
 refine zG func56 rfl zMx (rs:=[.slot 2]) (by kernel_rfl) ?_;unfold zGQ;simp;intro hl;refine qH (S:=Nat) (fun i=>[(0,.sl Ls.length (bF Ls)),(3,int (dC (Ls.take i))),(9,.sl Ls.length (bF Ls)),(10,int Ls.length),(11,int i)]) (fun s=>[]) (fun i=>i<=Ls.length) (fun i=>Ls.length-i) 0 (by simp)
  (mw [] 0 (by rfl) (by simp[dC])) ?_
 intro i hi;by_cases h:i<Ls.length
 .have ht:=vE h;have hle:=zDw Ls (i+1);have hw:IntKind.i64.wrap ((dC (Ls.take i):Int)+(Ls[i].length:Int))=(dC (Ls.take (i+1)):Nat):=by rw[ht];push_cast;exact IntWalk.i64_in _ (by omega)
  have h0:¬((dC (Ls.take (i+1)):Nat):Int)<0:=by omega
  simp[h,nN h];intro _;simp[hw,h0];exact zN (i+1) h (by omega) (mw [] 0 (by rfl) (by simp[zY h hl]))
 .have hil:i=Ls.length:=by omega
  subst hil;have hI:¬(Ls.length:Int)<Ls.length:=by omega
  simp;refine mr (zEe (dC Ls) hb) [] (by simp) ?_;simp;intro _;refine qH (S:=Nat) (fun i=>[(6,.row 0 (dC (Ls.take i))),(25,.sl Ls.length (bF Ls)),(26,int Ls.length),(27,int i)]) (fun i=>[.row false 32 3 (dC (Ls.take i)) (zS (Ls.take i).flatten)]) (fun i=>i<=Ls.length) (fun i=>Ls.length-i) 0 (by simp)
   (mw [0] 0 (by rfl) (by simp[dC])) ?_
  intro i hi;by_cases h:i<Ls.length
  .have ht:=vE h;have hle:=zDw Ls (i+1);have hf:(Ls.take (i+1)).flatten=(Ls.take i).flatten++Ls[i]:=by rw[jA8 h,jCi];simp
   simp[h,nN h];refine⟨⟨by simp[maxLen];omega,by omega⟩,?_⟩;exact zN (i+1) h (by omega) (mw [0] 0 (by rfl) (by simp[ht,hf,qD,zY h hl]))
  .have hil:i=Ls.length:=by omega
   subst hil;simp;exact zC 1 (by simp)
end Go.Proofs.YtolkhapmieigcaaGreatDoor
namespace Go.Proofs.YtolkhapmieigcaaGreatDoor
open Go.Abs
def bX{α:Type}(same : α->α->Bool):List α->List α->Bool
 |[],[]=>true
 |x::a,y::b=>same x y&&bX same a b
 |_,_=>false
theorem sN{α:Type}{same : α->α->Bool}:∀{a b:List α},a.length≠b.length->bX same a b=false
 |[],[],h=>(h rfl).elim
 |x::a,y::b,h=>by simp only[bX,sN (a:=a) (b:=b) (by simpa using h),Bool.and_false]
 |[],_::_,_=>rfl
 |_::_,[],_=>rfl
theorem gL{α:Type}{same : α->α->Bool}:∀{a b:List α} (hl:a.length=b.length),bX same a b=true↔∀(j:Nat) (h:j<a.length),same a[j] (b[j]'(hl▸h))=true
 |[],[],_=>by simp[bX]
 |x::a,y::b,hl=>by
  simp only[bX,jA7,gL (a:=a) (b:=b) (by simpa using hl)];constructor
  .rintro⟨h1,h2⟩ j h;cases j with
   |zero=>exact h1
   |succ j=>exact h2 j (by simpa using h)
  .intro h;exact⟨h 0 (by simp),fun j hj=>h (j+1) (by simpa using hj)⟩
 |[],_::_,hl=>by simp at hl
 |_::_,[],hl=>by simp at hl
def qAF:K:=G [kMb 6 false] (Z (G [M 10 0,kN 11 10,M 12 1,kN 13 12,kQ 14 11 13 true] (Y 14 (G [kMb 6 false] kr) ks)) (Z (G [M 15 0,kN 16 15,kMi 17 0] (K.block 0 (K.loop (G [kB 18 17 16 .lss] (Z (Y 18 ks (K.exit 0)) (Z (K.block 1 (G [M 19 17,kX 20 15 17 5,J 21 20 5,kZ 8 kz2,M 7 19,S 8 21 5] (G [M 22 1,M 23 7,kX 24 22 23 5,J 25 24 5,kZ 9 kz2,S 9 25 5] (G [M 26 2,J 27 8 5,J 28 9 5,⟨none,.call (some 29) (kt 26) [(kt 27),(kt 28)]⟩,kR 30 29] (Y 30 (G [kMb 6 false] kr) ks))))) (K.ops [kBi 31 17 1 .add,M 17 31]))))))) (G [kMb 6 true] kr)))
theorem qIq:ky f176 qAF:=m_ (by kernel_rfl)
theorem zSE(g:FuncId)(hcal:zA prog g=true)(same:Typ->Typ->Bool)(a b:wT)(h:∀x∈a,∀y∈b,my g [.agg (zB x),.agg (zB y)] [] (bl (same x y)) []) :
 my 176 [.sl a.length (jL a),.sl b.length (jL b),.clo g [] []] [] (bl (bX same a b)) []:=by
 refine zG func176 rfl qIq (rs:=[.slot 6]) (by kernel_rfl) ?_;unfold qAF;by_cases hab:a.length=b.length
 .simp[hab];intro hlb;refine qH (S:=Nat) (fun i=>[(1,.sl b.length (jL b)),(2,.clo g [] []),(15,.sl a.length (jL a)),(16,int a.length),(17,int i)]) (fun s=>[]) (fun i=>i<=a.length/\∀(j:Nat) (h:j<a.length),j<i->same a[j] (b[j]'(hab▸h))=true) (fun i=>a.length-i) 0 (by simp)
   (mw [] 0 (by rfl) (by simp[hab])) ?_
  rintro i ⟨hi,hn⟩;by_cases hia:i<a.length
  .have hib:i<b.length:=by omega
   have hla:i*5<a.length*5:=by omega
   have hlb':i*5<b.length*5:=by omega
   simp[hia,hib,gD hia,gD hib,hcal,zB];refine mu (h a[i] (jA0 hia) b[i] (jA0 hib)) (by simp[zB]) ?_;cases hs:same a[i] b[i]with
   |true =>
    simp;exact zN (i+1) ⟨hia,fun j hj hji=>by
     by_cases e:j=i
     .subst e;exact hs
     .exact hn j hj (by omega)⟩ (by omega) (mw [] 0 (by rfl) (by simp[zY hib hlb]))
   |false =>
    have hf:bX same a b=false:=by
     cases hh:bX same a b with
     |false=>rfl
     |true=>have:=(gL hab).1 hh i hia;rw[hs]at this;cases this
    simp;exact zC 0 (by simp[hf])
  .have hil:i=a.length:=by omega
   subst hil;have ht:bX same a b=true:=(gL hab).2 fun j hj=>hn j hj hj
   simp;exact zC 0 (by simp[ht])
 .have hab':¬(a.length:Int)=b.length:=by omega
  simp[hab'];exact fun _ _=>zC 0 (by simp[sN hab])
def qAE:K:=G [kMb 6 false] (Z (G [M 10 0,kN 11 10,M 12 1,kN 13 12,kQ 14 11 13 true] (Y 14 (G [kMb 6 false] kr) ks)) (Z (G [M 15 0,kN 16 15,kMi 17 0] (K.block 0 (K.loop (G [kB 18 17 16 .lss] (Z (Y 18 ks (K.exit 0)) (Z (K.block 1 (G [M 19 17,kX 20 15 17 11,J 21 20 11,kZ 8 kz5,M 7 19,S 8 21 11] (G [M 22 1,M 23 7,kX 24 22 23 11,J 25 24 11,kZ 9 kz5,S 9 25 11] (G [M 26 2,J 27 8 11,J 28 9 11,⟨none,.call (some 29) (kt 26) [(kt 27),(kt 28)]⟩,kR 30 29] (Y 30 (G [kMb 6 false] kr) ks))))) (K.ops [kBi 31 17 1 .add,M 17 31]))))))) (G [kMb 6 true] kr)))
theorem qIp:ky f131 qAE:=m_ (by kernel_rfl)
theorem zSD(g:FuncId)(hcal:zA prog g=true)(same:Slt->Slt->Bool)(a b:List Slt)(h:∀x∈a,∀y∈b,my g [.agg (aD x),.agg (aD y)] [] (bl (same x y)) []) :
 my 131 [.sl a.length (qW a),.sl b.length (qW b),.clo g [] []] [] (bl (bX same a b)) []:=by
 refine zG func131 rfl qIp (rs:=[.slot 6]) (by kernel_rfl) ?_;unfold qAE;by_cases hab:a.length=b.length
 .simp[hab];intro hlb;refine qH (S:=Nat) (fun i=>[(1,.sl b.length (qW b)),(2,.clo g [] []),(15,.sl a.length (qW a)),(16,int a.length),(17,int i)]) (fun s=>[]) (fun i=>i<=a.length/\∀(j:Nat) (h:j<a.length),j<i->same a[j] (b[j]'(hab▸h))=true) (fun i=>a.length-i) 0 (by simp)
   (mw [] 0 (by rfl) (by simp[hab])) ?_
  rintro i ⟨hi,hn⟩;by_cases hia:i<a.length
  .have hib:i<b.length:=by omega
   have hla:i*11<a.length*11:=by omega
   have hlb':i*11<b.length*11:=by omega
   simp[hia,hib,jN hia,jN hib,hcal,aD];refine mu (h a[i] (jA0 hia) b[i] (jA0 hib)) (by simp[aD]) ?_;cases hs:same a[i] b[i]with
   |true =>
    simp;exact zN (i+1) ⟨hia,fun j hj hji=>by
     by_cases e:j=i
     .subst e;exact hs
     .exact hn j hj (by omega)⟩ (by omega) (mw [] 0 (by rfl) (by simp[zY hib hlb]))
   |false =>
    have hf:bX same a b=false:=by
     cases hh:bX same a b with
     |false=>rfl
     |true=>have:=(gL hab).1 hh i hia;rw[hs]at this;cases this
    simp;exact zC 0 (by simp[hf])
  .have hil:i=a.length:=by omega
   subst hil;have ht:bX same a b=true:=(gL hab).2 fun j hj=>hn j hj hj
   simp;exact zC 0 (by simp[ht])
 .have hab':¬(a.length:Int)=b.length:=by omega
  simp[hab'];exact fun _ _=>zC 0 (by simp[sN hab])
def qAD:K:=G [kMb 6 false] (Z (G [M 10 0,kN 11 10,M 12 1,kN 13 12,kQ 14 11 13 true] (Y 14 (G [kMb 6 false] kr) ks)) (Z (G [M 15 0,kN 16 15,kMi 17 0] (K.block 0 (K.loop (G [kB 18 17 16 .lss] (Z (Y 18 ks (K.exit 0)) (Z (K.block 1 (G [M 19 17,kX 20 15 17 15,J 21 20 15,kZ 8 kz1,M 7 19,S 8 21 15] (G [M 22 1,M 23 7,kX 24 22 23 15,J 25 24 15,kZ 9 kz1,S 9 25 15] (G [M 26 2,J 27 8 15,J 28 9 15,⟨none,.call (some 29) (kt 26) [(kt 27),(kt 28)]⟩,kR 30 29] (Y 30 (G [kMb 6 false] kr) ks))))) (K.ops [kBi 31 17 1 .add,M 17 31]))))))) (G [kMb 6 true] kr)))
theorem qIo:ky f133 qAD:=m_ (by kernel_rfl)
theorem zSC(g:FuncId)(hcal:zA prog g=true)(same:Exp->Exp->Bool)(a b:wH)(h:∀x∈a,∀y∈b,my g [.agg (zH x),.agg (zH y)] [] (bl (same x y)) []) :
 my 133 [.sl a.length (qS a),.sl b.length (qS b),.clo g [] []] [] (bl (bX same a b)) []:=by
 refine zG func133 rfl qIo (rs:=[.slot 6]) (by kernel_rfl) ?_;unfold qAD;by_cases hab:a.length=b.length
 .simp[hab];intro hlb;refine qH (S:=Nat) (fun i=>[(1,.sl b.length (qS b)),(2,.clo g [] []),(15,.sl a.length (qS a)),(16,int a.length),(17,int i)]) (fun s=>[]) (fun i=>i<=a.length/\∀(j:Nat) (h:j<a.length),j<i->same a[j] (b[j]'(hab▸h))=true) (fun i=>a.length-i) 0 (by simp)
   (mw [] 0 (by rfl) (by simp[hab])) ?_
  rintro i ⟨hi,hn⟩;by_cases hia:i<a.length
  .have hib:i<b.length:=by omega
   have hla:i*15<a.length*15:=by omega
   have hlb':i*15<b.length*15:=by omega
   simp[hia,hib,yX hia,yX hib,hcal,zH];refine mu (h a[i] (jA0 hia) b[i] (jA0 hib)) (by simp[zH]) ?_;cases hs:same a[i] b[i]with
   |true =>
    simp;exact zN (i+1) ⟨hia,fun j hj hji=>by
     by_cases e:j=i
     .subst e;exact hs
     .exact hn j hj (by omega)⟩ (by omega) (mw [] 0 (by rfl) (by simp[zY hib hlb]))
   |false =>
    have hf:bX same a b=false:=by
     cases hh:bX same a b with
     |false=>rfl
     |true=>have:=(gL hab).1 hh i hia;rw[hs]at this;cases this
    simp;exact zC 0 (by simp[hf])
  .have hil:i=a.length:=by omega
   subst hil;have ht:bX same a b=true:=(gL hab).2 fun j hj=>hn j hj hj
   simp;exact zC 0 (by simp[ht])
 .have hab':¬(a.length:Int)=b.length:=by omega
  simp[hab'];exact fun _ _=>zC 0 (by simp[sN hab])
end Go.Proofs.YtolkhapmieigcaaGreatDoor
namespace Go.Abs
section
variable{P:Program}{n0:Nat}
def zIb(H:Mem)(L:wO)(w:World)(N:Nat)(Q:Ex->wK)(dfs:List Deferred):Exit->Act->World->Prop:=fun e a' w' =>
 ∃x env' U' H' L',e=x.exit?/\a'.defers=dfs/\qI H' L' N env' a'.tmps/\Nxt H L w H' L' U' w'/\Q x env' U'
variable{Q:Ex->wK}{dfs:List Deferred}
theorem zIb.next{N:Nat}{w:World}{H:Mem}{L:wO}{H':Mem}{L':wO} {U':St}{w':World}(hn:Nxt H L w H' L' U' w'){e:Exit}{b:Act}{v:World}(h:zIb H' L' w' N Q dfs e b v):zIb H L w N Q dfs e b v:=by obtain⟨x,env'',U'',H'',L'',h1,h2,h3,h4,h5⟩:=h;exact⟨x,env'',U'',H'',L'',h1,h2,h3,hn.trans h4,h5⟩
theorem zIb.post{N:Nat}{w:World}{H:Mem}{L:wO}{e:Exit}{b:Act}{v:World}(h:zIb H L w N Q dfs e b v):v8 H L w N Q dfs e b v:=by obtain⟨x,env'',U'',H'',L'',h1,h2,h3,h4,h5⟩:=h;exact⟨x,env'',U'',H'',L'',h1,h2▸Mk.refl _ _ _,h3,h4,h5⟩
end
end Go.Abs
namespace Go.Proofs.YtolkhapmieigcaaGreatDoor
open Go.Abs
inductive Val where
 |mk (k n:Int) (kids:List Val)
abbrev wI:=List Val
def Val.k:Val->Int | .mk k _ _=>k
def Val.n:Val->Int | .mk _ n _=>n
def Val.kids:Val->wI | .mk _ _ l=>l
mutual
def vM:Val->A
 | .mk _ _ l=>.sl l.length (zT l)
def zT:List Val->wF
 |[]=>[]
 |v::l=>.lit (.int .i64 v.k)::.lit (.int .i64 v.n)::vM v::zT l
end
def z7(v:Val):wF:=[.lit (.int .i64 v.k),.lit (.int .i64 v.n),.sl v.kids.length (zT v.kids)]
theorem zIv(v:Val):vM v=.sl v.kids.length (zT v.kids):=by cases v;simp only[vM,Val.kids]
@[simp]theorem zDE:zT []=[]:=by simp only[zT]
@[simp]theorem sU(v:Val)(l:wI):zT (v::l)=.lit (.int .i64 v.k)::.lit (.int .i64 v.n)::.sl v.kids.length (zT v.kids)::zT l:=by simp only[zT,zIv]
@[simp]theorem zKL:∀l:wI,(zT l).length=l.length*3
 |[]=>by simp
 |v::l=>by simp[zKL l];omega
mutual
theorem zIw:∀v:Val,nrm0 (vM v)=vM v/\∀rf g,vw rf g (vM v)=vM v
 | .mk k n l=>by have h:=dL l;simp only[vM];exact⟨by simp[h.1],fun rf g=>by simp[h.2]⟩
theorem dL:∀l:wI,qT (zT l)
 |[]=>by simp only[zT];exact qT.nil
 |v::l=>by have h:=zIw v;have h':=dL l;simp only[zT];exact⟨by simp[h.1,h'.1],fun rf g=>by simp[h.2,h'.2]⟩
end
@[simp]theorem zVo(l:wI):jE (zT l)=zT l:=(dL l).1
@[simp]theorem zZV{rf g}(l:wI):vwL rf g (zT l)=zT l:=(dL l).2 _ _
theorem j6:∀{l:wI} {i:Nat} (h:i<l.length),(zT l).drop (i*3)=.lit (.int .i64 l[i].k)::.lit (.int .i64 l[i].n)::.sl l[i].kids.length (zT l[i].kids)::zT (l.drop (i+1))
 |v::l,0,h=>by simp
 |v::l,i+1,h=>by
  have e:(i+1)*3=i*3+3:=by omega
  rw[e,sU]
  simpa using j6 (l:=l) (i:=i) (by simpa using h)
mutual
def qU:Val->Nat
 | .mk _ _ l=>1+jK l
def jK:List Val->Nat
 |[]=>0
 |v::l=>qU v+jK l
end
theorem pK:∀{l:wI} {v:Val},v∈l->qU v<=jK l
 |x::l,v,h=>by
  simp only[jK];rcases jA3.1 h with rfl|h
  .omega
  .have:=pK h;omega
theorem dY{v x:Val}(h:x∈v.kids):qU x<qU v:=by
 cases v with
 |mk k n l=>have:=pK (l:=l) h;simp only[qU];omega
def vY:Val->Int
 | .mk _ _ l=>l.attach.foldl (fun s x=>w64 (s+vY x.1)) 1
termination_by v=>qU v
decreasing_by
 have:=pK x.2;simp only[qU];omega
def zHP(l:wI):Int:=l.foldl (fun s x=>w64 (s+vY x)) 1
theorem zKg(v:Val):vY v=zHP v.kids:=by
 cases v with
 |mk k n l =>
  rw[vY];simp only[Val.kids,zHP];rw[List.foldl_attach (f:=fun s x=>w64 (s+vY x))]
variable{i:Nat}
theorem zGF{l:wI}(h:i<l.length):zHP (l.take (i+1))=IntKind.i64.wrap (zHP (l.take i)+vY l[i]):=by rw[zHP,jA8 h,jBr];rfl
def zRg(a b:Int):Int:=if a<b then b else a
def p6:Val->Int
 | .mk _ _ l=>w64 (l.attach.foldl (fun s x=>zRg s (p6 x.1)) 0+1)
termination_by v=>qU v
decreasing_by
 have:=pK x.2;simp only[qU];omega
def zL0(l:wI):Int:=l.foldl (fun s x=>zRg s (p6 x)) 0
theorem zNK(v:Val):p6 v=w64 (zL0 v.kids+1):=by
 cases v with
 |mk k n l =>
  rw[p6];simp only[Val.kids,zL0];rw[List.foldl_attach (f:=fun s x=>zRg s (p6 x))]
theorem zO6{l:wI}(h:i<l.length):zL0 (l.take (i+1))=zRg (zL0 (l.take i)) (p6 l[i]):=by rw[zL0,jA8 h,jBr];rfl
def qBd:K:=G [kO 2 0,kO 3 1,kMi 4 0] (Z (Z (K.dops [(0,0,D 6 2 0),(1,0,L 7 6 1),(2,0,D 8 3 0),(3,0,L 9 8 1),(4,0,kC 10 100 [(kt 7),(kt 9)]),(5,0,D 11 2 1),(6,0,L 12 11 1),(7,0,D 13 3 1),(8,0,L 14 13 1),(9,0,kC 15 100 [(kt 12),(kt 14)]),(10,0,D 16 2 2),(11,0,L 17 16 1),(12,0,kN 18 17),(13,0,D 19 3 2),(14,0,L 20 19 1),(15,0,kN 21 20),(16,0,kC 22 100 [(kt 18),(kt 21)]),(17,0,kd 23 3 1 3 [ki,ki,ki] [(0,1,(kt 10)),(1,1,(kt 15)),(2,1,(kt 22))]),(18,0,kC 24 99 [(kt 23)]),(19,0,M 5 24)]) (G [M 25 5,kQi 26 25 0 true] (Y 26 (G [M 27 5,M 4 27] kr) ks))) (G [D 28 2 2,L 29 28 1,D 30 3 2,L 31 30 1,kC 32 144 [(kt 29),(kt 31),(.func 145)],M 4 32] kr))
theorem qIE:ky f145 qBd:=m_ (by kernel_rfl)
def qBc:K:=G [kMi 6 0] (Z (G [M 11 0,kN 12 11,kMi 13 0] (K.block 0 (K.loop (G [kB 14 13 12 .lss] (Z (Y 14 ks (K.exit 0)) (Z (K.block 1 (G [M 15 13,kX 16 11 13 3,J 17 16 3,kZ 8 [ki,ki,kl],M 7 15,S 8 17 3] (Z (G [M 18 7,M 19 1,kN 20 19,kB 21 18 20 .geq] (Y 21 (G [kMi 6 1] kr) ks)) (G [M 22 1,M 23 7,kX 24 22 23 3,J 25 24 3,kZ 9 [ki,ki,kl],S 9 25 3] (G [M 26 2,J 27 8 3,J 28 9 3,⟨none,.call (some 29) (kt 26) [(kt 27),(kt 28)]⟩,M 10 29] (G [M 30 10,kQi 31 30 0 true] (Y 31 (G [M 32 10,M 6 32] kr) ks))))))) (K.ops [kBi 33 13 1 .add,M 13 33]))))))) (Z (G [M 34 0,kN 35 34,M 36 1,kN 37 36,kB 38 35 37 .lss] (Y 38 (G [⟨none,.mov (some 6) (kc (-1))⟩] kr) ks)) (G [kMi 6 0] kr)))
theorem qID:ky f144 qBc:=m_ (by kernel_rfl)
mutual
def nG:Val->Val->Int
 | .mk k n l,.mk k' n' l'=>if orI [bN k k',bN n n',bN l.length l'.length]≠0 then orI [bN k k',bN n n',bN l.length l'.length]else aW l l'
def aW:List Val->List Val->Int
 |[],[]=>0
 |[],_::_=>-1
 |_::_,[]=>1
 |a::l,b::l'=>if nG a b≠0 then nG a b else aW l l'
end
def eF(a b:Val):Int:=orI [bN a.k b.k,bN a.n b.n,bN a.kids.length b.kids.length]
theorem pW(a b:Val):nG a b=if eF a b≠0 then eF a b else aW a.kids b.kids:=by cases a;cases b;rw[nG];rfl
theorem s7(xs ys:wI)(h:∀a∈xs,∀b∈ys,my 145 [.agg (z7 a),.agg (z7 b)] [] (int (nG a b)) []) :
 my 144 [.sl xs.length (zT xs),.sl ys.length (zT ys),.clo 145 [] []] [] (int (aW xs ys)) []:=by
 refine zG func144 rfl qID (rs:=[.slot 6]) (by kernel_rfl) ?_;unfold qBc;simp;intro hl;refine qH (S:=Nat) (fun i=>[(0,.sl xs.length (zT xs)),(1,.sl ys.length (zT ys)),(2,.clo 145 [] []),(11,.sl xs.length (zT xs)),(12,int xs.length),(13,int i)]) (fun s=>[])
  (fun i=>i<=xs.length/\i<=ys.length/\aW xs ys=aW (xs.drop i) (ys.drop i)) (fun i=>xs.length-i) 0 (by simp)
  (mw [] 0 (by rfl) (by simp)) ?_
 rintro i ⟨hi,hi',ho⟩;simp;refine jY (fun h1=>?_) (fun h1=>?_)<;>simp at h1
 .have hd:xs.drop i=xs[i]::xs.drop (i+1):=jBb h1;simp[h1,j6 h1];intro hl';refine jY (fun h2=>?_) (fun h2=>?_)<;>simp at h2
  .simp;have hn:ys.drop i=[]:=jDh h2;exact zC 0 (by rw[ho,hd,hn];simp[aW])
  .have hd':ys.drop i=ys[i]::ys.drop (i+1):=jBb h2;simp[h2,j6 h2];refine mu (h xs[i] (jA0 _) ys[i] (jA0 _)) (by simp[z7]) ?_;simp;refine jY (fun h3=>?_) (fun h3=>?_)<;>simp at h3
   .simp;exact zC 0 (by rw[ho,hd,hd'];simp[aW,h3])
   .simp;refine zN (i+1) ⟨h1,h2,by rw[ho,hd,hd'];simp[aW,h3]⟩ (by omega) (mw [] 0 (by rfl) (by simp[zY h1 hl]))
 .have:i=xs.length:=by omega
  subst this;simp;have hn:xs.drop xs.length=[]:=by simp
  intro _ hl';refine jY (fun h2=>?_) (fun h2=>?_)<;>simp at h2
  .have hd':ys.drop xs.length=ys[xs.length]::ys.drop (xs.length+1):=jBb h2;simp;exact zC 0 (by rw[ho,hn,hd'];simp[aW])
  .have hn':ys.drop xs.length=[]:=jDh h2;simp;exact zC 0 (by rw[ho,hn,hn'];simp[aW])
theorem zHc(a b:Val):my 145 [.agg (z7 a),.agg (z7 b)] [] (int (nG a b)) []:=by
 refine zG func145 rfl qIE (rs:=[.slot 4]) (by kernel_rfl) ?_;unfold qBd;simp[z7];refine qB (cM a.k b.k) (by simp) (by simp) ?_;simp;refine qB (cM a.n b.n) (by simp) (by simp) ?_;simp;refine qB (cM a.kids.length b.kids.length) (by simp) (by simp) ?_;simp;refine qB (zMW [bN a.k b.k,bN a.n b.n,bN a.kids.length b.kids.length]) (by simp) (by simp) ?_;simp;refine jY (fun h=>?_) (fun h=>?_)<;>simp at h
 .simp;exact zC 0 (by rw[pW];simp[eF,h])
 .simp;refine mu (s7 a.kids b.kids fun x hx y hy=>zHc x y) (by simp) ?_;simp;exact zC 0 (by rw[pW];simp[eF,h])
termination_by qU a
decreasing_by exact dY hx
variable{l:wG}
theorem zBD{m:Nat}(h1:1<=m)(h:m<l.length):yG (l.take (m+1))=if l[m-1]=l[m]then yG (l.take m)else yG (l.take m)++[l[m]]:=by
 rw[jA8 h,iJ,v6,zDF];have:(l.take m).getLast?=some l[m-1]:=by rw[List.getLast?_eq_getElem?,jAv,jAu (by omega),jBc,if_pos (by omega),jA2 (by omega)]
 rw[this];simp only[jA1]
theorem zBB(l:wG):(yG l).length<=l.length:=by
 induction l using eI with
 |nil=>simp[yG]
 |snoc l y ih =>
  rw[iJ,v6];split
  .simp;omega
  .simp;omega
theorem zQl(h:1<=l.length):yG (l.take 1)=l.take 1:=by
 cases l with
 |nil=>simp at h
 |cons x l=>simp[yG,v6]
theorem zS0(h1:1<=i)(h:i<l.length)(hd:l[i-1]=l[i]):yG l≠l:=by
 intro e;have:∀r:wG,(yG (l.take (i+1)++r)).length<=i+r.length:=fun r=>by
  induction r using eI with
  |nil =>
   rw[jAs,zBD h1 h,if_pos hd];have:=zBB (l.take i);simp at this;simp;omega
  |snoc r y ih =>
   rw[<-jAq,iJ,v6];split
   .simp;omega
   .simp;omega
 have:=this (l.drop (i+1));rw[jBs,e]at this;simp at this;omega
theorem pR:∀{R:wG} {k:Nat} (x:Id),k<R.length->(zS R).take (k*3)++(.lit (.int .i64 x.a)::.lit (.int .i64 x.b)::.lit (.int .i64 x.c)::(zS R).drop (k*3+3))=zS (R.set k x)
 |v::R,0,x,h=>by simp
 |v::R,k+1,x,h=>by
  have e:(k+1)*3=k*3+3:=by omega
  have:=pR (R:=R) (k:=k) x (by simpa using h);rw[e,eK,List.set_cons_succ,eK,<-this];simp
def cR(n:Nat):wG:=List.replicate n Id.zero
theorem lY:∀n:Nat,zS (cR n)=(List.replicate n [A.lit (.int .i64 0),A.lit (.int .i64 0),A.lit (.int .i64 0)]).flatten
 | 0=>rfl
 |n+1=>by have:=lY n;simp only[cR,List.replicate_succ,List.flatten_cons]at this ⊢;rw[<-this];rfl
theorem zKe{R:wG}{k:Nat}{x:Id}(h:k<R.length):(R.set k x).take (k+1)=R.take k++[x]:=by rw[List.take_set,jA8 h,List.set_append_right _ _ (by simp;omega)];simp[jAu (Nat.le_of_lt h)]
def zFQ(l:wG):A:=if yG l=l then .row 0 l.length else .win 0 l.length 0 (yG l).length 3
theorem zDG(l:wG)(hb:l.length<=4000000000):my 58 [.row 0 l.length] [.row false 32 3 l.length (zS l)] (zFQ l)
 [.row false 32 3 l.length (zS (yG l++cR (l.length-(yG l).length)))]:=by
 have hsame:yG l=l->zS (yG l++cR (l.length-(yG l).length))=zS l:=fun e=>by rw[e];simp[cR]
 refine zG func58 rfl zIn (rs:=[.slot 2]) (by kernel_rfl) ?_;unfold zDx;by_cases h2:l.length<2
 .have hc:yG l=l:=by
   match l,h2 with
   |[],_=>rfl
   |[x],_=>simp[yG,v6]
  have h2':(l.length:Int)<2:=by omega
  simp[h2'];exact mv [0] 0 (by rfl) (by simp[hc,cR,zFQ])
 .have h2':¬(l.length:Int)<2:=by omega
  simp[h2'];refine qH (S:=Nat) (fun i=>[(0,.row 0 l.length),(3,int i)]) (fun i=>[.row false 32 3 l.length (zS l)]) (fun i=>1<=i/\i<=l.length/\yG (l.take i)=l.take i) (fun i=>l.length-i) 1 ⟨by omega,by omega,zQl (by omega)⟩
   (mw [0] 0 (by rfl) (by simp)) ?_
  rintro i ⟨h1,hi,hc⟩;by_cases h:i<l.length
  .have hi1:i-1<l.length:=by omega
   have hw:IntKind.i64.wrap ((i:Int)-1)=((i-1:Nat):Int):=by rw[Int.ofNat_sub h1];exact IntWalk.i64_in _ (by omega)
   have hn1:¬(l.length*3<i*3+3):=by omega
   have hl1:i*3+3<=l.length*3:=by omega
   have hl2:(i-1)*3+3<=l.length*3:=by omega
   have hct:=zBD h1 h;by_cases hd:l[i-1]=l[i]
   .rw[if_pos hd,hc]at hct;have hne:=zS0 h1 h hd;have hd3:iE l[i].a l[i].b l[i].c l[i-1].a l[i-1].b l[i-1].c=true:=by rw[eO];simp[hd]
    simp[h,hw,hl1,hl2,hi1,qV h,qV hi1,hd3];refine⟨hi,?_⟩;refine qH (S:=Nat×Nat×wG) (fun s=>[(0,.row 0 l.length),(3,int s.1),(4,.win 0 l.length (i*3) (l.length-i) 3),(5,int s.2.1)]) (fun s=>[.row false 32 3 l.length (zS s.2.2)])
     (fun s=>s.2.2.length=l.length/\1<=s.2.1/\i+s.2.1<=l.length/\s.1+1<=i+s.2.1/\(yG (l.take (i+s.2.1))).length=s.1/\s.2.2.take s.1=yG (l.take (i+s.2.1))/\s.2.2.drop (i+s.2.1-1)=l.drop (i+s.2.1-1))
     (fun s=>l.length-(i+s.2.1)) (i,1,l) ⟨rfl,jA _,h,by simp,by simp[hct];omega,by simp[hct],rfl⟩
     (mw [0] 0 (by rfl) (by simp)) ?_
    rintro⟨k,j,R⟩ ⟨r1,r2,r3,r4,r5,r6,r7⟩;simp only at r1 r2 r3 r4 r5 r6 r7;simp only;have hsub:(l.length:Int)-i=((l.length-i:Nat):Int):=by omega
    have hwj:IntKind.i64.wrap ((j:Int)-1)=((j-1:Nat):Int):=by rw[Int.ofNat_sub r2];exact IntWalk.i64_in _ (by omega)
    have hwj1:IntKind.i64.wrap ((j:Int)+1)=((j+1:Nat):Int):=by push_cast;exact IntWalk.i64_in _ (by omega)
    have hwk1:IntKind.i64.wrap ((k:Int)+1)=((k+1:Nat):Int):=by push_cast;exact IntWalk.i64_in _ (by omega)
    by_cases hj:i+j<l.length
    .have hjR:i+j<R.length:=by omega
     have hj1R:i+j-1<R.length:=by omega
     have hkR:k<R.length:=by omega
     have hR:R[i+j]=l[i+j]:=by have:=congrArg (fun x:wG=>x[1]?) r7;simp only[jCq]at this;rw[show i+j-1+1=i+j by omega,jA2 hjR,jA2 hj]at this;exact jAw this
     have hR1:R[i+j-1]=l[i+j-1]:=by have:=congrArg (fun x:wG=>x[0]?) r7;simp only[jCq]at this;rw[show i+j-1+0=i+j-1 by omega,jA2 hj1R,jA2 (by omega)]at this;exact jAw this
     have e0:i*3+j*3=(i+j)*3:=by omega
     have e1:i*3+(j-1)*3=(i+j-1)*3:=by omega
     have hjlt:j<l.length-i:=by omega
     have hjlt1:j-1<l.length-i:=by omega
     have hb0:(i+j)*3+3<=l.length*3:=by omega
     have hb1:(i+j-1)*3+3<=l.length*3:=by omega
     have hbk:k*3+3<=l.length*3:=by omega
     have hkl:k<l.length:=by omega
     have hct2:=zBD (l:=l) (m:=i+j) (by omega) hj;by_cases hd2:l[i+j-1]=l[i+j]
     .rw[if_pos hd2]at hct2;have hs3:iE R[i+j].a R[i+j].b R[i+j].c R[i+j-1].a R[i+j-1].b R[i+j-1].c=true:=by rw[eO,hR,hR1,hd2];simp
      simp[hjlt,hjlt1,hwj,e0,e1,r1,hb0,hb1,qV hjR,qV hj1R,hs3];exact zN (k,j+1,R) ⟨r1,by simp,by simp only;omega,by simp only;omega,by simp only[<-jB9,hct2];exact r5,by simp only[<-jB9,hct2];exact r6,by
       have:=congrArg (fun x:wG=>x.drop 1) r7;simp only[jAy]at this;simp only;rw[show i+(j+1)-1=i+j-1+1 by omega];exact this⟩ (by simp only;omega) (mw [0] 0 (by rfl) (by simp[hwj1]))
     .rw[if_neg hd2]at hct2;have hs3:iE R[i+j].a R[i+j].b R[i+j].c R[i+j-1].a R[i+j-1].b R[i+j-1].c=false:=by rw[eO,hR,hR1];exact decide_eq_false fun e=>hd2 e.symm
      simp[hjlt,hjlt1,hwj,e0,e1,r1,hb0,hb1,hbk,hkl,qV hjR,qV hj1R,hs3,pR _ hkR];exact zN (k+1,j+1,R.set k l[i+j]) ⟨by simp[r1],by simp,by simp only;omega,by simp only;omega,by simp only[<-jB9,hct2,jA4,r5];simp,by
       simp only[<-jB9,hct2];rw[zKe hkR,r6],by
       have:=congrArg (fun x:wG=>x.drop 1) r7;simp only[jAy]at this;simp only;rw[show i+(j+1)-1=i+j-1+1 by omega,List.drop_set_of_lt (by omega)];exact this⟩ (by simp only;omega) (mw [0] 0 (by rfl) (by simp[hR,hwj1,hwk1]))
    .have hij:i+j=l.length:=by omega
     have hj':¬(j:Int)<((l.length-i:Nat):Int):=by omega
     simp[hj',r1];rw[hij,jB2]at r5 r6;have e2:k*3+(l.length-k)*3=l.length*3:=by omega
     have hcells:List.take (k*3) (zS R)++((List.replicate (l.length-k) [A.lit (Value.int IntKind.i64 0),A.lit (Value.int IntKind.i64 0),A.lit (Value.int IntKind.i64 0)]).flatten++List.drop (k*3+(l.length-k)*3) (zS R))=zS (yG l++cR (l.length-(yG l).length)):=by rw[e2,List.drop_of_length_le (by simp[r1]),jAs,sT,r6,qD,lY,r5]
     rw[hcells];refine⟨by omega,by omega,by omega,?_⟩;exact mv [0] 0 (by rfl) (by simp[zFQ,hne,r5])
   .rw[if_neg hd,hc]at hct;have hd3:iE l[i].a l[i].b l[i].c l[i-1].a l[i-1].b l[i-1].c=false:=by rw[eO];exact decide_eq_false fun e=>hd e.symm
    simp[h,hw,hl1,hl2,hi1,qV h,qV hi1,hd3];exact zN (i+1) ⟨by omega,h,by rw[hct,jA8 h]⟩ (by omega) (mw [0] 0 (by rfl) (by simp[zY h (show l.length<=maxLen by simp[maxLen];omega)]))
  .have:i=l.length:=by omega
   subst this;rw[jB2]at hc;simp;exact mv [0] 0 (by rfl) (by simp[hc,cR,zFQ])
def zP8:K:=G [kO 2 0,kO 3 1,kMb 4 false] (G [D 5 2 0,L 6 5 1,D 7 3 0,L 8 7 1,kQ 9 6 8 false,M 10 9,T 10 true (D 11 2 1),T 10 true (J 12 11 3),T 10 true (D 13 3 1),T 10 true (J 14 13 3),⟨some (10,true),.eqs (some 15) false [.i,.i,.i] (kt 12) (kt 14)⟩,kPf 16 10 15,M 17 16,T 17 true (D 18 2 4),T 17 true (L 19 18 1),T 17 true (D 20 3 4),T 17 true (L 21 20 1),T 17 true (kC 22 176 [(kt 19),(kt 21),(.func 130)]),kPf 23 17 22,M 4 23] kr)
theorem zVX:ky f130 zP8:=m_ (by kernel_rfl)
@[simp]theorem zQa:zA prog 130=true:=by kernel_rfl
def KSD:K:=G [kO 2 0,kO 3 1,kMb 4 false] (G [⟨none,.mov (some 5) (.func 129)⟩] (G [D 6 2 3,L 7 6 1,D 8 3 3,L 9 8 1,kQ 10 7 9 false,M 11 10,T 11 true (D 12 2 8),T 11 true (L 13 12 1),T 11 true (D 14 3 8),T 11 true (L 15 14 1),T 11 true (M 16 5),T 11 true (kC 17 131 [(kt 13),(kt 15),(kt 16)]),kPf 18 11 17,M 19 18,T 19 true (D 20 2 9),T 19 true (J 21 20 5),T 19 true (D 22 3 9),T 19 true (J 23 22 5),T 19 true (kC 24 130 [(kt 21),(kt 23)]),kPf 25 19 24,M 26 25,T 26 true (J 27 2 31),T 26 true (kC 28 101 [(kt 27)]),T 26 true (kR 29 28),T 26 true (M 30 29),T 30 false (D 31 2 14),T 30 false (D 32 31 0),T 30 false (J 33 32 3),T 30 false (D 34 3 14),T 30 false (D 35 34 0),T 30 false (J 36 35 3),⟨some (30,false),.eqs (some 37) false [.i,.i,.i] (kt 33) (kt 36)⟩,T 26 true (kPt 38 30 37),kPf 39 26 38,M 4 39] kr))
theorem cSD:ky f63 KSD:=m_ (by kernel_rfl)
def qAQ:K:=G [kO 2 0,kO 3 1,kMb 4 false] (G [D 5 2 0,J 6 5 3,D 7 3 0,J 8 7 3,⟨none,.eqs (some 9) false [.i,.i,.i] (kt 6) (kt 8)⟩,M 10 9,T 10 true (D 11 2 4),T 10 true (J 12 11 5),T 10 true (D 13 3 4),T 10 true (J 14 13 5),T 10 true (kC 15 130 [(kt 12),(kt 14)]),kPf 16 10 15,M 17 16,T 17 true (D 18 2 9),T 17 true (L 19 18 1),T 17 true (D 20 3 9),T 17 true (L 21 20 1),T 17 true (kQ 22 19 21 false),kPf 23 17 22,M 4 23] kr)
theorem qI1:ky f129 qAQ:=m_ (by kernel_rfl)
@[simp]theorem zWk:zA prog 129=true:=by kernel_rfl
def KSN:K:=G [kO 2 0,kO 3 1,kMb 4 false] (G [⟨none,.mov (some 5) (.func 132)⟩] (G [D 6 2 3,L 7 6 1,D 8 3 3,L 9 8 1,kQ 10 7 9 false,M 11 10,T 11 true (D 12 2 4),T 11 true (L 13 12 1),T 11 true (D 14 3 4),T 11 true (L 15 14 1),T 11 true (kQ 16 13 15 false),kPf 17 11 16,M 18 17,T 18 true (D 19 2 5),T 18 true (J 20 19 3),T 18 true (D 21 3 5),T 18 true (J 22 21 3),⟨some (18,true),.eqs (some 23) false [.i,.i,.i] (kt 20) (kt 22)⟩,kPf 24 18 23,M 25 24,T 25 true (D 26 2 8),T 25 true (J 27 26 5),T 25 true (D 28 3 8),T 25 true (J 29 28 5),T 25 true (kC 30 130 [(kt 27),(kt 29)]),kPf 31 25 30,M 32 31,T 32 true (D 33 2 13),T 32 true (L 34 33 1),T 32 true (D 35 3 13),T 32 true (L 36 35 1),T 32 true (M 37 5),T 32 true (kC 38 133 [(kt 34),(kt 36),(kt 37)]),kPf 39 32 38,M 4 39] kr))
theorem cSN:ky f65 KSN:=m_ (by kernel_rfl)
def qAR:K:=G [kO 2 0,kO 3 1,kMb 4 false] (G [D 5 2 0,J 6 5 3,D 7 3 0,J 8 7 3,⟨none,.eqs (some 9) false [.i,.i,.i] (kt 6) (kt 8)⟩,M 4 9] kr)
theorem qI2:ky f132 qAR:=m_ (by kernel_rfl)
@[simp]theorem zWl:zA prog 132=true:=by kernel_rfl
def qA0:K:=G [kO 1 0,kMb 2 false] (G [D 3 1 3,L 4 3 1,kQi 5 4 2 false,M 6 5,T 6 false (D 7 1 3),T 6 false (L 8 7 1),T 6 false (kQi 9 8 3 false),kPt 10 6 9,M 11 10,T 11 false (D 12 1 3),T 11 false (L 13 12 1),T 11 false (kQi 14 13 4 false),kPt 15 11 14,M 16 15,T 16 false (D 17 1 3),T 16 false (L 18 17 1),T 16 false (kQi 19 18 5 false),kPt 20 16 19,M 2 20] kr)
theorem qIb:ky f101 qA0:=m_ (by kernel_rfl)
mutual
def yH:Typ->Typ->Bool
 | .mk k i l,.mk k' i' l'=>decide (k=k')&&(decide (i=i')&&lP l l')
def lP:List Typ->List Typ->Bool
 |[],[]=>true
 |x::a,y::b=>yH x y&&lP a b
 |_,_=>false
end
theorem zGA:∀(a b:wT),lP a b=bX yH a b
 |[],[]=>by simp only[lP,bX]
 |x::a,y::b=>by simp only[lP,bX,zGA a b]
 |[],_::_=>by simp only[lP,bX]
 |_::_,[]=>by simp only[lP,bX]
theorem zG9(a b:Typ):yH a b=(decide (a.k=b.k)&&(decide (a.id=b.id)&&bX yH a.kids b.kids)):=by cases a;cases b;simp only[yH,zGA];rfl
mutual
theorem gF:∀(a b:Typ),yH a b=true↔a=b
 | .mk k i l,.mk k' i' l'=>by simp only[yH,jA7,decide_eq_true_eq,zEO l l',Typ.mk.injEq]
theorem zEO:∀(a b:wT),lP a b=true↔a=b
 |[],[]=>by simp[lP]
 |x::a,y::b=>by simp only[lP,jA7,gF x y,zEO a b,jBd]
 |[],_::_=>by simp[lP]
 |_::_,[]=>by simp[lP]
end
theorem iR(a:Typ):yH a a=true:=(gF a a).2 rfl
mutual
theorem nZ:∀(a b:Typ),my 130 [.agg (zB a),.agg (zB b)] [] (bl (yH a b)) []
 | .mk k i l,b=>by
  have ih:=zBl l;generalize ha:Typ.mk k i l=a;have hal:a.kids=l:=by rw[<-ha];rfl
  rw[<-hal]at ih;refine zG func130 rfl zVX (rs:=[.slot 4]) (by kernel_rfl) ?_;unfold zP8;have hd:=zG9 a b;by_cases h1:a.k=b.k
  .by_cases h2:a.id=b.id
   .simp[zB,h1,h2];refine mu (zSE 130 zQa yH a.kids b.kids fun x hx y hy=>ih x hx y) (by simp) ?_;simp;exact zC 0 (by simp[hd,h1,h2])
   .have h3:iE a.id.a a.id.b a.id.c b.id.a b.id.b b.id.c=false:=by rw[eO];exact decide_eq_false h2
    simp[zB,h1,h3];exact zC 0 (by simp[hd,h2])
  .simp[zB,h1];exact zC 0 (by simp[hd,h1])
theorem zBl:∀(l:wT),∀x∈l,∀y:Typ,my 130 [.agg (zB x),.agg (zB y)] [] (bl (yH x y)) []
 |[],x,hx,_=>by simp at hx
 |z::l,x,hx,y=>by
  rcases jA3.1 hx with e|hx
  .rw[e];exact nZ z y
  .exact zBl l x hx y
end
def eV(k:Int):Bool:=decide (k=2)||(decide (k=3)||(decide (k=4)||decide (k=5)))
theorem uO(d:Dfn):my 101 [.agg (zQ d)] [] (bl (eV d.kind)) []:=by
 refine zG func101 rfl qIb (rs:=[.slot 2]) (by kernel_rfl) ?_;unfold qA0;by_cases h2:d.kind=2
 .simp[zQ,h2];exact zC 0 (by simp[eV,h2])
 .by_cases h3:d.kind=3
  .simp[zQ,h2,h3];exact zC 0 (by simp[eV,h2,h3])
  .by_cases h4:d.kind=4
   all_goals
    simp[zQ,h2,h3,h4];exact zC 0 (by simp[eV,h2,h3,h4])
def m8(x y:Slt):Bool:=decide (x.id=y.id)&&(yH x.typ y.typ&&decide (x.most=y.most))
theorem zJP(x y:Slt):my 129 [.agg (aD x),.agg (aD y)] [] (bl (m8 x y)) []:=by
 refine zG func129 rfl qI1 (rs:=[.slot 4]) (by kernel_rfl) ?_;unfold qAQ;by_cases h1:x.id=y.id
 .simp[aD,h1];refine mu (nZ x.typ y.typ) (by simp[zB]) ?_;cases h2:yH x.typ y.typ with
  |true =>
   simp;exact zC 0 (by simp[m8,h1,h2])
  |false =>
   simp;exact zC 0 (by simp[m8,h1,h2])
 .have h3:iE x.id.a x.id.b x.id.c y.id.a y.id.b y.id.c=false:=by rw[eO];exact decide_eq_false h1
  simp[aD,h3];exact zC 0 (by simp[m8,h1])
def sG(x y:Exp):Bool:=decide (x.id=y.id)
theorem zHK(x y:Exp):my 132 [.agg (zH x),.agg (zH y)] [] (bl (sG x y)) []:=by refine zG func132 rfl qI2 (rs:=[.slot 4]) (by kernel_rfl) ?_;unfold qAR;simp[zH];exact zC 0 (by simp[sG])
def aU(a b:Dfn):Bool:=decide (a.kind=b.kind)&&(bX m8 a.slots b.slots&&(yH a.res b.res&&(!eV a.kind||decide (a.body.id=b.body.id))))
theorem zLP(a b:Dfn):my 63 [.agg (zQ a),.agg (zQ b)] [] (bl (aU a b)) []:=by
 refine zG func63 rfl cSD (rs:=[.slot 4]) (by kernel_rfl) ?_;unfold KSD;by_cases h1:a.kind=b.kind
 .simp[zQ,h1];refine mu (zSD 129 zWk m8 a.slots b.slots fun x _ y _=>zJP x y) (by simp) ?_;cases h2:bX m8 a.slots b.slots with
  |false =>
   simp;exact zC 0 (by simp[aU,h1,h2])
  |true =>
   simp[zQ];refine mu (nZ a.res b.res) (by simp[zB]) ?_;cases h3:yH a.res b.res with
   |false =>
    simp;exact zC 0 (by simp[aU,h1,h2,h3])
   |true =>
    simp[zQ];refine mu (uO a) (by simp[zQ,h1]) ?_;cases h4:eV a.kind with
    |false =>
     simp;exact zC 0 (by rw[h1]at h4;simp[aU,h1,h2,h3,h4])
    |true =>
     simp[zQ];exact zC 0 (by rw[h1]at h4;simp[aU,h1,h2,h3,h4])
 .simp[zQ,h1];exact zC 0 (by simp[aU,h1])
def bS(a b:Exp):Bool:=decide (a.k=b.k)&&(decide (a.n=b.n)&&(decide (a.ref=b.ref)&&(yH a.typ b.typ&&bX sG a.kids b.kids)))
theorem zJU(a b:Exp):my 65 [.agg (zH a),.agg (zH b)] [] (bl (bS a b)) []:=by
 refine zG func65 rfl cSN (rs:=[.slot 4]) (by kernel_rfl) ?_;unfold KSN;by_cases h1:a.k=b.k
 .by_cases h2:a.n=b.n
  .by_cases h3:a.ref=b.ref
   .simp[zH,h1,h2,h3];refine mu (nZ a.typ b.typ) (by simp[zB]) ?_;cases h4:yH a.typ b.typ with
    |false =>
     simp;exact zC 0 (by simp[bS,h1,h2,h3,h4])
    |true =>
     simp[zH];refine mu (zSC 132 zWl sG a.kids b.kids fun x _ y _=>zHK x y) (by simp) ?_;simp;exact zC 0 (by simp[bS,h1,h2,h3,h4])
   .have h5:iE a.ref.a a.ref.b a.ref.c b.ref.a b.ref.b b.ref.c=false:=by rw[eO];exact decide_eq_false h3
    simp[zH,h1,h2,h5];exact zC 0 (by simp[bS,h1,h2,h3])
  .simp[zH,h1,h2];exact zC 0 (by simp[bS,h1,h2])
 .simp[zH,h1];exact zC 0 (by simp[bS,h1])
end Go.Proofs.YtolkhapmieigcaaGreatDoor
