/- Programs that differ in names alone, with any change of the names in bodies. -/
import Derived.Test.YtolkhapmieigcaaGreatDoorX18
import Derived.Tactics2
import Derived.Handy
import Derived.Deep.Draws
import Derived.Deep.RegionLaw
import Derived.Laws.IdiomCopy
import Derived.Laws.Rows
import Derived.RecoverIn
import Derived.Tactics
set_option linter.unusedVariables false
set_option maxHeartbeats 8000000
set_option maxRecDepth 100000
set_option linter.unusedSimpArgs false
namespace Go.Proofs.YtolkhapmieigcaaGreatDoor
open Go.Abs
mutual
def fY(g:ByteArray->ByteArray):Exp->Exp
 | .mk i k n r t ks ns=>.mk i k n r t (zGt g ks) (ns.map g)
def zGt(g:ByteArray->ByteArray):List Exp->wH
 |[]=>[]
 |e::l=>fY g e::zGt g l
end
theorem zGu(g:ByteArray->ByteArray):∀l:wH,zGt g l=l.map (fY g)
 |[]=>rfl
 |e::l=>by simp only[zGt,jAc,zGu g l]
mutual
theorem zMM:∀e:Exp,fY (fun x=>x) e=e
 | .mk i k n r t ks ns=>by simp only[fY,zJt ks,List.map_id']
theorem zJt:∀l:wH,zGt (fun x=>x) l=l
 |[]=>rfl
 |e::l=>by simp only[zGt,zMM e,zJt l]
end
inductive AlG{α:Type}(R : α->α->Prop):List α->List α->Prop
 |nil:AlG R [] []
 |cons {a b : α} {l m:List α} (h:R a b) (t:AlG R l m):AlG R (a::l) (b::m)
section
variable{α:Type}{R : α->α->Prop}
variable{l m:List α}
theorem AlG.len(h:AlG R l m):m.length=l.length:=by
 induction h with
 |nil=>rfl
 |cons _ _ ih=>simp[ih]
theorem AlG.append{l' m':List α}(h:AlG R l m)(h':AlG R l' m'):AlG R (l++l') (m++m'):=by
 induction h with
 |nil=>exact h'
 |cons h _ ih=>exact .cons h ih
theorem AlG.map{β:Type}{f g : α->β}(hf:∀a b,R a b->g b=f a)(h:AlG R l m):m.map g=l.map f:=by
 induction h with
 |nil=>rfl
 |cons h _ ih=>simp only[jAc,ih,hf _ _ h]
theorem AlG.get(h:AlG R l m):∀(i:Nat) (h1:i<l.length) (h2:i<m.length),R l[i] m[i]:=by
 induction h with
 |nil=>intro i h1;simp at h1
 |cons h _ ih =>
  intro i h1 h2;cases i with
  |zero=>exact h
  |succ i=>exact ih i (by simpa using h1) (by simpa using h2)
theorem AlG.mem(h:AlG R l m){b : α}(hb:b∈m):∃a∈l,R a b:=by obtain⟨i,hi,rfl⟩:=jAl hb;exact⟨_,jA0 (by rw[<-h.len];exact hi),h.get i _ hi⟩
theorem AlG.pair{S : α->α->Prop}(hS:∀a b a' b',R a b->R a' b'->S a a'->S b b')(h:AlG R l m)(hp:l.Pairwise S):m.Pairwise S:=by rw[jC0]at hp ⊢;intro i j hi hj hij;exact hS _ _ _ _ (h.get i (by rw[<-h.len];exact hi) hi) (h.get j (by rw[<-h.len];exact hj) hj) (hp i j _ _ hij)
theorem AlG.find{idf : α->Id}(hR:∀a b,R a b->idf b=idf a)(h:AlG R l m)(x:Id) :
 (yZ idf l x=none/\yZ idf m x=none)\/∃a b,yZ idf l x=some a/\yZ idf m x=some b/\R a b:=by
 induction h with
 |nil=>exact .inl ⟨rfl,rfl⟩
 | @cons a b l m h t ih =>
  have e:=hR a b h;simp only[yZ,jC5,e];by_cases hx:idf a=x
  .exact .inr ⟨a,b,by simp[hx],by simp[hx],h⟩
  .simp only[hx,decide_false];exact ih
theorem AlG.mapIdx{f:Nat->α->α}(hf:∀i a,R a (f i a)):∀(l:List α),AlG R l (l.mapIdx f)
 |[]=>.nil
 |a::l=>by rw[List.mapIdx_cons];exact .cons (hf 0 a) (AlG.mapIdx (f:=fun i=>f (i+1)) (fun i a=>hf (i+1) a) l)
end
structure SameSG(s s':Slt):Prop where
 id:s'.id=s.id
 typ:s'.typ=s.typ
 most:s'.most=s.most
def zDz(e e':Exp):Prop:=∃t,e'=fY t e
structure SameD0G(d d':Dfn):Prop where
 id:d'.id=d.id
 kind:d'.kind=d.kind
 slots:AlG SameSG d.slots d'.slots
 res:d'.res=d.res
structure SameDG(d d':Dfn):Prop extends SameD0G d d' where
 body:zDz d.body d'.body
abbrev xA(p q:Prg):Prop:=AlG SameD0G p.defs q.defs
abbrev lN(p q:Prg):Prop:=AlG SameDG p.defs q.defs
theorem AlG.imp{α:Type}{R S : α->α->Prop}(h:∀a b,R a b->S a b){l m:List α}(hl:AlG R l m):AlG S l m:=by
 induction hl with
 |nil=>exact .nil
 |cons h1 _ ih=>exact .cons (h _ _ h1) ih
variable{p q:Prg}
theorem lN.to0(h:lN p q):xA p q:=AlG.imp (fun _ _ h=>h.toSameD0G) h
theorem aO(t:ByteArray->ByteArray)(i:Id)(k n:Int)(r:Id)(u:Typ)(ks:wH)(ns:List ByteArray):fY t (.mk i k n r u ks ns)=.mk i k n r u (ks.map (fY t)) (ns.map t):=by rw[fY,zGu]
theorem zAZ(t:ByteArray->ByteArray)(e:Exp):(fY t e).id=e.id:=by cases e;rw[aO];rfl
theorem zL5(t:ByteArray->ByteArray)(e:Exp):(fY t e).k=e.k:=by cases e;rw[aO];rfl
theorem zL6(t:ByteArray->ByteArray)(e:Exp):(fY t e).n=e.n:=by cases e;rw[aO];rfl
theorem zJz(t:ByteArray->ByteArray)(e:Exp):(fY t e).ref=e.ref:=by cases e;rw[aO];rfl
theorem zRj(t:ByteArray->ByteArray)(e:Exp):(fY t e).typ=e.typ:=by cases e;rw[aO];rfl
theorem zBV(t:ByteArray->ByteArray)(e:Exp):(fY t e).kids=e.kids.map (fY t):=by cases e;rw[aO];rfl
theorem zBW(t:ByteArray->ByteArray):fY t .zero=.zero:=by simp[Exp.zero,aO]
theorem zO8(t:ByteArray->ByteArray):∀l:wH,(l.map (fY t)).headD .zero=fY t (l.headD .zero)
 |[]=>(zBW t).symm
 |_::_=>rfl
theorem zJy(t:ByteArray->ByteArray):∀(l:wH) (i:Nat),(l.map (fY t)).getD i .zero=fY t (l.getD i .zero)
 |[],i=>by simp[zBW]
 |_::_,0=>rfl
 |_::l,i+1=>by simpa using zJy t l i
theorem zLQ{a b:Slt}(h:SameSG a b):m8 a b=true:=by simp[m8,h.id,h.typ,h.most,iR]
theorem zPL{α:Type}{R : α->α->Prop}{same : α->α->Bool}(hs:∀a b,R a b->same a b=true){l m:List α}(h:AlG R l m):bX same l m=true:=by
 induction h with
 |nil=>rfl
 |cons h _ ih=>simp only[bX,hs _ _ h,ih,Bool.and_self]
theorem zJQ{a b:Dfn}(h:SameDG a b):aU a b=true:=by
 obtain⟨t,ht⟩:=h.body;have hb:b.body.id=a.body.id:=by rw[ht,zAZ]
 simp[aU,h.kind,h.res,hb,iR,zPL (fun _ _=>zLQ) h.slots]
theorem zFC{same:Exp->Exp->Bool}{f:Exp->Exp}(hs:∀a,same a (f a)=true):∀l:wH,bX same l (l.map f)=true
 |[]=>rfl
 |a::l=>by simp only[jAc,bX,hs a,zFC hs l,Bool.and_self]
theorem zJS{a b:Exp}(h:zDz a b):bS a b=true:=by obtain⟨t,rfl⟩:=h;simp[bS,zL5,zL6,zJz,zRj,zBV,iR,zFC (same:=sG) (f:=fY t) (fun a=>by simp[sG,zAZ])]
mutual
theorem zD8(t:ByteArray->ByteArray):∀e:Exp,AlG zDz (aB e) (aB (fY t e))
 | .mk i k n r u ks ns=>by rw[aO,aB,aB];exact .cons ⟨t,(aO t i k n r u ks ns).symm⟩ (zCy t ks)
theorem zCy(t:ByteArray->ByteArray):∀l:wH,AlG zDz (yR l) (yR (l.map (fY t)))
 |[]=>.nil
 |e::l=>by rw[jAc,yR,yR];exact(zD8 t e).append (zCy t l)
end
theorem zH2{l m:wS}(h:AlG SameDG l m):AlG zDz (jZ l) (jZ m):=by
 induction h with
 |nil=>exact .nil
 | @cons a b l m h _ ih =>
  have e:∀(x:Dfn) (L:wS),jZ (x::L)=(if eV x.kind then aB x.body else [])++jZ L:=fun _ _=>rfl
  rw[e,e,h.kind];refine AlG.append ?_ ih;obtain⟨t,ht⟩:=h.body;by_cases hb:eV a.kind=true
  .rw[if_pos hb,if_pos hb,ht];exact zD8 t a.body
  .rw[if_neg hb,if_neg hb];exact .nil
theorem zJC{α:Type}{idf : α->Id}{same : α->α->Bool}{R : α->α->Prop}(hi:∀a b,R a b->idf b=idf a)(hs:∀a b,R a b->same a b=true)(hc:∀a b,same a b=same b a){P Q:List α}(h:AlG R P Q)(x:Id) :
 x∉zBf idf same P Q/\x∉zBf idf same Q P:=by
 rcases h.find hi x with ⟨h1,h2⟩|⟨a,b,h1,h2,hR⟩
 .constructor<;>intro hx<;>rw[lJ]at hx<;>obtain⟨c,hc',_⟩:=hx
  .rw[h1]at hc';cases hc'
  .rw[h2]at hc';cases hc'
 .constructor<;>intro hx<;>rw[lJ]at hx<;>obtain⟨c,hc',hn⟩:=hx
  .rw[h1]at hc';cases hc';have:=hn b h2;rw[hs _ _ hR]at this;cases this
  .rw[h2]at hc';cases hc';have:=hn a h1;rw[hc,hs _ _ hR]at this;cases this
theorem zKN{p q:wS}(h:AlG SameDG p q):l9 p q=[]/\l9 q p=[]:=by
 have h1:=zJC (idf:=Dfn.id) (same:=aU) (fun _ _ h=>h.id) (fun _ _=>zJQ) nY h;have h2:=zJC (idf:=Exp.id) (same:=bS) (fun _ _ ⟨t,ht⟩=>by rw[ht,zAZ]) (fun _ _=>zJS) zCY (zH2 h);have key:∀(L:wG),(∀x,x∉L)->L=[]:=fun L hL=>by
  cases L with
  |nil=>rfl
  |cons x L=>exact(hL x (by simp)).elim
 constructor
 .refine key _ fun x hx=>?_
  rw[<-zAA,aQ,zGo]at hx;simp only[jA6]at hx;rcases hx with (hx|hx)|(hx|hx)
  .exact(h1 x).1 hx
  .exact(h2 x).1 hx
  .exact(h1 x).2 hx
  .exact(h2 x).2 hx
 .refine key _ fun x hx=>?_
  rw[<-zAA,aQ,zGo]at hx;simp only[jA6]at hx;rcases hx with (hx|hx)|(hx|hx)
  .exact(h1 x).2 hx
  .exact(h2 x).2 hx
  .exact(h1 x).1 hx
  .exact(h2 x).1 hx
section
variable{p q:Prg}(hA:lN p q)
include hA
theorem lF(r:Id):(qM p.defs r=none/\qM q.defs r=none)\/∃d d',qM p.defs r=some d/\qM q.defs r=some d'/\SameDG d d' :=
 AlG.find (idf:=Dfn.id) (fun _ _ h=>h.id) hA r
theorem zNL(r:Id):SameDG (dfn p r) (dfn q r):=by
 unfold dfn;rcases lF hA r with ⟨h1,h2⟩|⟨d,d',h1,h2,h⟩
 .rw[h1,h2];exact⟨⟨rfl,rfl,.nil,rfl⟩,⟨fun x=>x,(zBW _).symm⟩⟩
 .rw[h1,h2];exact h
end
section
variable{p q:Prg}(hA:xA p q)
include hA
theorem zAJ(r:Id):(qM p.defs r=none/\qM q.defs r=none)\/∃d d',qM p.defs r=some d/\qM q.defs r=some d'/\SameD0G d d' :=
 AlG.find (idf:=Dfn.id) (fun _ _ h=>h.id) hA r
theorem zDJ(r:Id):SameD0G (dfn p r) (dfn q r):=by
 unfold dfn;rcases zAJ hA r with ⟨h1,h2⟩|⟨d,d',h1,h2,h⟩
 .rw[h1,h2];exact⟨rfl,rfl,.nil,rfl⟩
 .rw[h1,h2];exact h
theorem zBv:∀(n:Nat) (t:Typ),yA q n t=yA p n t
 | 0,t=>rfl
 |n+1,t=>by
  have hk:iM (qM q.defs t.id)=iM (qM p.defs t.id):=by
   rcases zAJ hA t.id with ⟨h1,h2⟩|⟨d,d',h1,h2,h⟩
   .rw[h1,h2]
   .rw[h1,h2];simp[iM,h.kind]
  have ih:=zBv n;simp only[yA,hk,ih]
end
mutual
theorem tH{p q:Prg}(hA:xA p q):∀(v:Val) (t:Typ),cD q t v=cD p t v
 | .mk k n l,t=>by
  have hd:=zDJ hA t.id;have hv:validT q t=validT p t:=zBv hA 24 t;have hm:(dfn q t.id).slots.map Slt.typ=(dfn p t.id).slots.map Slt.typ:=hd.slots.map fun _ _ h=>h.typ
  rw[cD,cD,hv,hd.kind,hd.slots.len,hm,zCC hA l,zII hA l,nW hA l]
theorem zCC{p q:Prg}(hA:xA p q):∀(l:wI) (t:Typ),lG q t l=lG p t l
 |[],t=>by rw[lG,lG]
 |v::l,t=>by rw[lG,lG,tH hA v,zCC hA l]
theorem zII{p q:Prg}(hA:xA p q):∀(l:wI) (o:Option Typ),eE q o l=eE p o l
 |[],none=>by rw[eE,eE]<;>simp
 |[],some t=>by rw[eE,eE]<;>simp
 |v::l,none=>by rw[eE,eE]<;>simp
 |v::l,some t=>by rw[eE,eE,tH hA v]
theorem nW{p q:Prg}(hA:xA p q):∀(l:wI) (ts:wT),aH q ts l=aH p ts l
 |[],[]=>by rw[aH,aH]<;>simp
 |[],t::ts=>by rw[aH,aH]<;>simp
 |v::l,[]=>by rw[aH,aH]<;>simp
 |v::l,t::ts=>by rw[aH,aH,tH hA v,nW hA l]
end
section
variable{p q:Prg}(hA:xA p q)
include hA
variable{l m:List Slt}
omit hA in
theorem zFZ{f g:List Id->Typ->wG}(hf:∀L t,g L t=f L t)(h:AlG SameSG l m):∀L:wG,m.foldl (fun L s=>g L s.typ) L=l.foldl (fun L s=>f L s.typ) L:=by
 induction h with
 |nil=>intro L;rfl
 |cons h _ ih=>intro L;rw[jAt,jAt,h.typ,hf,ih]
theorem zBj:∀(n:Nat) (t:Typ) (L:wG),j3 q n t L=j3 p n t L
 | 0,t,L=>rfl
 |n+1,t,L=>by
  have ih:=zBj n;have hk:(fun(L:wG) k=>j3 q n k L)=fun L k=>j3 p n k L:=by funext L k;exact ih k L
  have hs:=zFZ (f:=fun L t=>j3 p n t L) (g:=fun L t=>j3 q n t L) (fun L t=>ih t L) (zDJ hA t.id).slots;simp only[j3,hk,hs]
theorem zBi(h:AlG SameSG l m)(L:wG):c7 q m L=c7 p l L :=
 zFZ (f:=fun L t=>j3 p 10 t L) (g:=fun L t=>j3 q 10 t L) (fun L t=>zBj hA 10 t L) h L
end
section
variable{ev ev':Evl}(hE:∀t e V s,ev' (fY t e) V s=ev e V s)
include hE
theorem zFD(t:ByteArray->ByteArray)(V:wP):∀(l:wH) (s:XS),jQ ev' V (l.map (fY t)) s=jQ ev V l s
 |[],s=>rfl
 |e::l,s=>by simp only[jAc,jQ,hE,zFD t V l]
theorem zEa(t:ByteArray->ByteArray)(V:wP)(i:Id)(b:Exp):∀(l:wI) (r:Val×XS),aN ev' V i (fY t b) l r=aN ev V i b l r
 |[],r=>rfl
 |x::l,r=>by simp only[aN,hE,zEa t V i b l]
omit hE in
theorem zKY{l m:List Slt}(h:AlG SameSG l m):∀vs:wI,iK m vs=iK l vs:=by
 induction h with
 |nil=>intro vs;rfl
 |cons h _ ih =>
  intro vs;cases vs with
  |nil=>rfl
  |cons v vs =>
   have:=ih vs;simp only[iK,List.zipWith_cons_cons,h.id]at this ⊢;rw[this]
theorem xE{d d':Dfn}(h:SameDG d d')(vs:wI)(s:XS):dR ev' d' vs s=dR ev d vs s:=by obtain⟨t,ht⟩:=h.body;simp only[dR,ht,hE,h.id,zKY h.slots]
theorem zGU(t:ByteArray->ByteArray)(e:Exp)(V:wP)(s:XS):jO ev' (fY t e) V s=jO ev e V s:=by simp only[jO,zL5,zBV,zO8,zJy,zAZ,zL6,hE,zEa hE]
theorem zKu{p q:Prg}(hA:lN p q)(fl:Nat)(t:ByteArray->ByteArray)(e:Exp)(V:wP)(s:XS):qP q fl ev' (fY t e) V s=qP p fl ev e V s:=by simp only[qP,zL5,zBV,zL6,zJz,zGU hE,zFD hE,xE hE (zNL hA e.ref)]
end
theorem zAa{p q:Prg}(hA:lN p q)(fl:Nat):∀(m:Nat) (t:ByteArray->ByteArray) (e:Exp) (V:wP) (s:XS),bD q fl m (fY t e) V s=bD p fl m e V s
 | 0,t,e,V,s=>rfl
 |m+1,t,e,V,s=>by
  have ht:gH (fY t e) s=gH e s:=by simp only[gH,zAZ]
  simp only[bD,ht,zKu (zAa hA fl m) hA]
theorem zC1(hA:lN p q)(id:Id)(vs:wI)(fuel:Int):yW q id vs fuel=yW p id vs fuel:=by
 unfold yW;rcases lF hA id with ⟨h1,h2⟩|⟨d,d',h1,h2,h⟩
 .rw[h1,h2]
 .rw[h1,h2];have hm:d'.slots.map Slt.typ=d.slots.map Slt.typ:=h.slots.map fun _ _ h=>h.typ
  simp only[h.kind,h.slots.len,hm,nW hA.to0,nI,zBi hA.to0 h.slots,xE (zAa hA 1 fuel.toNat) h]
theorem zQ9{α β:Type}{R : α->α->Prop}{f : α->β}(hf:∀a b,R a b->f b=f a){l m:List α}(h:AlG R l m)(i:Nat)(h1:i<l.length)(h2:i<m.length):f m[i]=f l[i]:=hf _ _ (h.get i h1 h2)
theorem zSi(hA:lN p q)(t:ByteArray->ByteArray){env:wJ}{e:Exp}{u:Typ}(h:WE p env e u):WE q env (fY t e) u:=by
 have key:∀{r:Id} {d:Dfn},qM p.defs r=some d->∃d',qM q.defs r=some d'/\SameDG d d':=fun {r d} hd=>by
  rcases lF hA r with ⟨h1,_⟩|⟨a,b,h1,h2,h⟩
  .rw[h1]at hd;cases hd
  .rw[h1]at hd;cases hd;exact⟨b,h2,h⟩
 induction h with
 |int env i n r u ns h1 h2=>rw[aO];exact .int _ _ _ _ _ _ h1 h2
 |bool env i n r u ns h=>rw[aO];exact .bool _ _ _ _ _ _ h
 |var env i n r u ns t h=>rw[aO];exact .var _ _ _ _ _ _ _ h
 |call env i n r u ks ns hn d hd hk hl hw ih =>
  obtain⟨d',hd',hs⟩:=key hd;have hm:d'.slots.map Slt.typ=d.slots.map Slt.typ:=hs.slots.map fun _ _ h=>h.typ
  rw[aO,<-hs.res];refine .call _ _ _ _ _ _ _ (by simpa using hn) d' hd' (hs.kind.trans hk) (by rw[hm];simpa using hl) fun j hj=>?_
  have hj':j<ks.length:=by simpa using hj
  have:=ih j hj'
  simpa[hm]using this
 |op env i n r u ks ns hn ts t ho hl hw ih =>
  rw[aO];refine .op _ _ _ _ _ _ _ (by simpa using hn) ts t ho (by simpa using hl) fun j hj=>?_
  have hj':j<ks.length:=by simpa using hj
  simpa using ih j hj'
 |ite env i n r u a b c ns t ha hb hc i1 i2 i3=>rw[aO];exact .ite _ _ _ _ _ _ _ _ _ _ i1 i2 i3
 |lets env i n r u a b ns v t hf ha hb i1 i2=>rw[aO];exact .lets _ _ _ _ _ _ _ _ _ _ hf i1 i2
 |record env i n r u ks ns hn d hd hk hl hw ih =>
  obtain⟨d',hd',hs⟩:=key hd;have hm:d'.slots.map Slt.typ=d.slots.map Slt.typ:=hs.slots.map fun _ _ h=>h.typ
  rw[aO];refine .record _ _ _ _ _ _ _ (by simpa using hn) d' hd' (hs.kind.trans hk) (by rw[hm];simpa using hl) fun j hj=>?_
  have hj':j<ks.length:=by simpa using hj
  simpa[hm]using ih j hj'
 |field env i r u a ns d j hd hk hj ha ih =>
  obtain⟨d',hd',hs⟩:=key hd;have hj':j<d'.slots.length:=by rw[hs.slots.len];exact hj
  rw[aO,<-zQ9 (f:=Slt.typ) (fun _ _ h=>h.typ) hs.slots j hj hj'];exact .field _ _ _ _ _ _ d' j hd' (hs.kind.trans hk) hj' ih
 |case env i r u a ns d j hd hk hj ha ih =>
  obtain⟨d',hd',hs⟩:=key hd;have hj':j<d'.slots.length:=by rw[hs.slots.len];exact hj
  rw[aO];refine .case _ _ _ _ _ _ d' j hd' (hs.kind.trans hk) hj' ?_;rw[zQ9 (f:=Slt.typ) (fun _ _ h=>h.typ) hs.slots j hj hj'];exact ih
 |mtch env i n r u a ks ns d t hf hd hk hl ha hw i1 ih =>
  obtain⟨d',hd',hs⟩:=key hd;rw[aO];refine .mtch _ _ _ _ _ _ _ _ d' _ hf hd' (hs.kind.trans hk) (by rw[jAa,hs.slots.len];exact hl) i1 fun j hj=>?_
  have hj':j<ks.length:=by simpa using hj
  have hjd:j<d.slots.length:=hl▸hj';have hjd':j<d'.slots.length:=by rw[hs.slots.len];exact hjd
  have:=ih j hj';rw[<-zQ9 (f:=Slt.typ) (fun _ _ h=>h.typ) hs.slots j hjd hjd']at this
  simpa using this
 |list env i n r u ks ns t hn hw ih =>
  rw[aO];refine .list _ _ _ _ _ _ _ _ (by simpa using hn) fun j hj=>?_
  have hj':j<ks.length:=by simpa using hj
  simpa using ih j hj'
 |fold env i n r u l s b ns v t hf hl hs hb i1 i2 i3=>rw[aO];exact .fold _ _ _ _ _ _ _ _ _ _ _ hf i1 i2 i3
variable{hs:wQ}
theorem zK5{hs':wQ}(hl:hs'.length=hs.length)(h1:∀(k:Nat)(a:k<hs.length)(b:k<hs'.length),hs'[k].id=hs[k].id/\hs'[k].kind=hs[k].kind/\AlG SameSG hs[k].slots hs'[k].slots){r:Nat}{t:Typ}(h:TyOk hs r t):TyOk hs' r t:=by
 induction h with
 |int r=>exact .int _
 |bool r=>exact .bool _
 |list r t _ ih=>exact .list _ _ ih
 |dfn r k h n1 h2 h3 h4 ih =>
  have h':k<hs'.length:=by omega
  obtain⟨a1,a2,a3⟩:=h1 k h h';rw[<-a1];refine .dfn r k h' (fun j hj=>?_) (by rw[a2,a3.len];exact h2) (by rw[a3.len];exact h3) fun s hs=>?_
  .rw[a1,(h1 j (by omega) (by omega)).1];exact n1 j hj
  .obtain⟨s0,hs0,hS⟩:=a3.mem hs;rw[hS.typ];exact ih s0 hs0
variable{d:Dfn}
theorem zKZ{d':Dfn}(h:SameDG d d'):cC d'=cC d:=h.slots.map fun a b h=>by rw[h.id,h.typ]
theorem Fit.sameG(hA:lN p q)(h:Fit p hs):Fit q (q.defs.map Dfn.hd):=by
 have hl:=hA.len;have hhs:hs=p.defs.map Dfn.hd:=h.heads.symm;have hT:∀{r:Nat} {t:Typ},TyOk hs r t->TyOk (q.defs.map Dfn.hd) r t:=fun ht=>by
  refine zK5 (by rw[hhs];simp[hl]) (fun k a b=>?_) ht;have a':k<p.defs.length:=by rw[hhs]at a;simpa using a
  have b':k<q.defs.length:=by simpa using b
  have e1:hs[k]=p.defs[k].hd:=by simp[hhs]
  have e2:(q.defs.map Dfn.hd)[k]=q.defs[k].hd:=by simp
  rw[e1,e2];have hk:=hA.get k a' b';exact⟨hk.id,hk.kind,hk.slots⟩
 refine⟨rfl,by rw[hl];exact h.len8,hA.pair (fun a b a' b' r1 r2 hne=>by rw[r1.id,r2.id];exact hne) h.nd,fun d hd=>?_,fun d hd=>?_,fun r d hd hb=>?_⟩
 .obtain⟨a,ha,hS⟩:=hA.mem hd;obtain⟨s1,s2,s3,s4,s5⟩:=h.slots a ha;rw[hS.slots.len,hS.kind];refine⟨s1,s2,s3,hS.slots.pair (fun a b a' b' r1 r2 hne=>by rw[r1.id,r2.id];exact hne) s4,fun s hs=>?_⟩;obtain⟨s0,hs0,hs'⟩:=hS.slots.mem hs;have:=hT (s5 s0 hs0);rw[hs'.typ];exact this
 .obtain⟨a,ha,hS⟩:=hA.mem hd;rw[hS.kind];exact h.kinds a ha
 .rcases lF hA r with ⟨_,h2⟩|⟨a,b,h1,h2,hS⟩
  .rw[h2]at hd;cases hd
  .rw[h2]at hd;cases hd;obtain⟨t,ht⟩:=hS.body;rw[zKZ hS,ht,hS.res];refine zSi hA t (h.bods r a h1 ?_)
   simpa[eU,hS.kind]using hb
def zEF(s:Slt):Slt:={s with name:=s.name++⟨#[122]⟩}
def iP(d:Dfn):Dfn:={d with name:=d.name++⟨#[122]⟩,place:=w64 (d.place+3),lay:=[],slots:=d.slots.map zEF}
def aY(p:Prg):Prg:=⟨p.mods,p.defs.map iP⟩
theorem AlG.of_map{α:Type}{R : α->α->Prop}{f : α->α}(h:∀a,R a (f a)):∀l:List α,AlG R l (l.map f)
 |[]=>.nil
 |a::l=>.cons (h a) (AlG.of_map h l)
theorem m7(p:Prg):lN p (aY p):=AlG.of_map (fun d=>⟨⟨rfl,rfl,AlG.of_map (fun _=>⟨rfl,rfl,rfl⟩) _,rfl⟩,⟨fun x=>x,(zMM _).symm⟩⟩) _
section
variable{p:Prg}{F:Int}{c:Nat}{m:Int}{ev:Evl}{e:Exp}{V:wP}{s:XS}
@[simp]theorem qKm:zA Tryz.prog 226=true:=by kernel_rfl
section
variable{A:wI×XS}(hA:my 233 [.ptr 0 0,.sl e.kids.length (qS e.kids),.sl V.length (iZ V)] (uS p F s) (.sl A.1.length (zT A.1)) (uS p F A.2))
include hA
end
end
section
variable{p:Prg}{c:Nat}{m:Int}{ev:Evl}{e:Exp}{V:wP}{s:XS}
end
def zNr(d:Dfn)(L:wG):wG:=if d.id∈L then namS d.slots L else L
theorem RS.namS(hf:Fit p hs){ss:List Slt}(h:∀s∈ss,TyOk hs 4 s.typ){L:wG}(hL:RS p L):RS p (namS ss L) :=
 RS.fold (fun(s:Slt) L=>zJu s.typ L) ss L (fun s hs' L hL=>hL.nam hf (h s hs')) hL
theorem RS.turn(hf:Fit p hs)(hd:d∈p.defs){L:wG}(hL:RS p L):RS p (zNr d L):=by
 unfold zNr;split
 .exact hL.namS hf (hf.slots d hd).2.2.2.2
 .exact hL
theorem RS.rnd(hf:Fit p hs){ds:wS}(hd:∀d∈ds,d∈p.defs){L:wG}(hL:RS p L):RS p (ds.foldl (fun L d=>zNr d L) L) :=
 RS.fold zNr ds L (fun d hd' L hL=>hL.turn hf (hd d hd')) hL
inductive Al{α:Type}(R : α->α->Prop):List α->List α->Prop
 |nil:Al R [] []
 |cons {a b : α} {l m:List α} (h:R a b) (t:Al R l m):Al R (a::l) (b::m)
section
variable{α:Type}{R : α->α->Prop}
variable{l m:List α}
theorem Al.len(h:Al R l m):m.length=l.length:=by
 induction h with
 |nil=>rfl
 |cons _ _ ih=>simp[ih]
theorem Al.append{l' m':List α}(h:Al R l m)(h':Al R l' m'):Al R (l++l') (m++m'):=by
 induction h with
 |nil=>exact h'
 |cons h _ ih=>exact .cons h ih
theorem Al.map{β:Type}{f g : α->β}(hf:∀a b,R a b->g b=f a)(h:Al R l m):m.map g=l.map f:=by
 induction h with
 |nil=>rfl
 |cons h _ ih=>simp only[jAc,ih,hf _ _ h]
theorem Al.get(h:Al R l m):∀(i:Nat) (h1:i<l.length) (h2:i<m.length),R l[i] m[i]:=by
 induction h with
 |nil=>intro i h1;simp at h1
 |cons h _ ih =>
  intro i h1 h2;cases i with
  |zero=>exact h
  |succ i=>exact ih i (by simpa using h1) (by simpa using h2)
theorem Al.mem(h:Al R l m){b : α}(hb:b∈m):∃a∈l,R a b:=by obtain⟨i,hi,rfl⟩:=jAl hb;exact⟨_,jA0 (by rw[<-h.len];exact hi),h.get i _ hi⟩
theorem Al.pair{S : α->α->Prop}(hS:∀a b a' b',R a b->R a' b'->S a a'->S b b')(h:Al R l m)(hp:l.Pairwise S):m.Pairwise S:=by rw[jC0]at hp ⊢;intro i j hi hj hij;exact hS _ _ _ _ (h.get i (by rw[<-h.len];exact hi) hi) (h.get j (by rw[<-h.len];exact hj) hj) (hp i j _ _ hij)
theorem Al.find{idf : α->Id}(hR:∀a b,R a b->idf b=idf a)(h:Al R l m)(x:Id) :
 (yZ idf l x=none/\yZ idf m x=none)\/∃a b,yZ idf l x=some a/\yZ idf m x=some b/\R a b:=by
 induction h with
 |nil=>exact .inl ⟨rfl,rfl⟩
 | @cons a b l m h t ih =>
  have e:=hR a b h;simp only[yZ,jC5,e];by_cases hx:idf a=x
  .exact .inr ⟨a,b,by simp[hx],by simp[hx],h⟩
  .simp only[hx,decide_false];exact ih
theorem Al.mapIdx{f:Nat->α->α}(hf:∀i a,R a (f i a)):∀(l:List α),Al R l (l.mapIdx f)
 |[]=>.nil
 |a::l=>by rw[List.mapIdx_cons];exact .cons (hf 0 a) (Al.mapIdx (f:=fun i=>f (i+1)) (fun i a=>hf (i+1) a) l)
end
structure SameS(s s':Slt):Prop where
 id:s'.id=s.id
 typ:s'.typ=s.typ
 most:s'.most=s.most
def qBp(e e':Exp):Prop:=∃t,e'=zH0 t e
structure SameD0(d d':Dfn):Prop where
 id:d'.id=d.id
 kind:d'.kind=d.kind
 slots:Al SameS d.slots d'.slots
 res:d'.res=d.res
structure SameD(d d':Dfn):Prop extends SameD0 d d' where
 body:qBp d.body d'.body
abbrev zCu(p q:Prg):Prop:=Al SameD0 p.defs q.defs
abbrev zIc(p q:Prg):Prop:=Al SameD p.defs q.defs
theorem Al.imp{α:Type}{R S : α->α->Prop}(h:∀a b,R a b->S a b){l m:List α}(hl:Al R l m):Al S l m:=by
 induction hl with
 |nil=>exact .nil
 |cons h1 _ ih=>exact .cons (h _ _ h1) ih
theorem zIc.to0(h:zIc p q):zCu p q:=Al.imp (fun _ _ h=>h.toSameD0) h
theorem iN(t:ByteArray)(i:Id)(k n:Int)(r:Id)(u:Typ)(ks:wH)(ns:List ByteArray):zH0 t (.mk i k n r u ks ns)=.mk i k n r u (ks.map (zH0 t)) (ns.map fun _=>t):=by rw[zH0,zJx]
section
variable{p q:Prg}(hA:zIc p q)
include hA
theorem zDT(r:Id):(qM p.defs r=none/\qM q.defs r=none)\/∃d d',qM p.defs r=some d/\qM q.defs r=some d'/\SameD d d' :=
 Al.find (idf:=Dfn.id) (fun _ _ h=>h.id) hA r
end
section
variable{p q:Prg}(hA:zCu p q)
include hA
theorem zCB(r:Id):(qM p.defs r=none/\qM q.defs r=none)\/∃d d',qM p.defs r=some d/\qM q.defs r=some d'/\SameD0 d d' :=
 Al.find (idf:=Dfn.id) (fun _ _ h=>h.id) hA r
theorem zFR(r:Id):SameD0 (dfn p r) (dfn q r):=by
 unfold dfn;rcases zCB hA r with ⟨h1,h2⟩|⟨d,d',h1,h2,h⟩
 .rw[h1,h2];exact⟨rfl,rfl,.nil,rfl⟩
 .rw[h1,h2];exact h
theorem zDb:∀(n:Nat) (t:Typ),yA q n t=yA p n t
 | 0,t=>rfl
 |n+1,t=>by
  have hk:iM (qM q.defs t.id)=iM (qM p.defs t.id):=by
   rcases zCB hA t.id with ⟨h1,h2⟩|⟨d,d',h1,h2,h⟩
   .rw[h1,h2]
   .rw[h1,h2];simp[iM,h.kind]
  have ih:=zDb n;simp only[yA,hk,ih]
end
mutual
theorem xZ{p q:Prg}(hA:zCu p q):∀(v:Val) (t:Typ),cD q t v=cD p t v
 | .mk k n l,t=>by
  have hd:=zFR hA t.id;have hv:validT q t=validT p t:=zDb hA 24 t;have hm:(dfn q t.id).slots.map Slt.typ=(dfn p t.id).slots.map Slt.typ:=hd.slots.map fun _ _ h=>h.typ
  rw[cD,cD,hv,hd.kind,hd.slots.len,hm,zDW hA l,zLc hA l,xY hA l]
theorem zDW{p q:Prg}(hA:zCu p q):∀(l:wI) (t:Typ),lG q t l=lG p t l
 |[],t=>by rw[lG,lG]
 |v::l,t=>by rw[lG,lG,xZ hA v,zDW hA l]
theorem zLc{p q:Prg}(hA:zCu p q):∀(l:wI) (o:Option Typ),eE q o l=eE p o l
 |[],none=>by rw[eE,eE]<;>simp
 |[],some t=>by rw[eE,eE]<;>simp
 |v::l,none=>by rw[eE,eE]<;>simp
 |v::l,some t=>by rw[eE,eE,xZ hA v]
theorem xY{p q:Prg}(hA:zCu p q):∀(l:wI) (ts:wT),aH q ts l=aH p ts l
 |[],[]=>by rw[aH,aH]<;>simp
 |[],t::ts=>by rw[aH,aH]<;>simp
 |v::l,[]=>by rw[aH,aH]<;>simp
 |v::l,t::ts=>by rw[aH,aH,xZ hA v,xY hA l]
end
section
variable{p q:Prg}(hA:zCu p q)
include hA
variable{l m:List Slt}
omit hA in
theorem zIN{f g:List Id->Typ->wG}(hf:∀L t,g L t=f L t)(h:Al SameS l m):∀L:wG,m.foldl (fun L s=>g L s.typ) L=l.foldl (fun L s=>f L s.typ) L:=by
 induction h with
 |nil=>intro L;rfl
 |cons h _ ih=>intro L;rw[jAt,jAt,h.typ,hf,ih]
theorem zCS:∀(n:Nat) (t:Typ) (L:wG),j3 q n t L=j3 p n t L
 | 0,t,L=>rfl
 |n+1,t,L=>by
  have ih:=zCS n;have hk:(fun(L:wG) k=>j3 q n k L)=fun L k=>j3 p n k L:=by funext L k;exact ih k L
  have hs:=zIN (f:=fun L t=>j3 p n t L) (g:=fun L t=>j3 q n t L) (fun L t=>ih t L) (zFR hA t.id).slots;simp only[j3,hk,hs]
theorem zJH(h:Al SameS l m)(L:wG):c7 q m L=c7 p l L :=
 zIN (f:=fun L t=>j3 p 10 t L) (g:=fun L t=>j3 q 10 t L) (fun L t=>zCS hA 10 t L) h L
end
section
variable{ev ev':Evl}(hE:∀t e V s,ev' (zH0 t e) V s=ev e V s)
include hE
end
theorem zWU{α β:Type}{R : α->α->Prop}{f : α->β}(hf:∀a b,R a b->f b=f a){l m:List α}(h:Al R l m)(i:Nat)(h1:i<l.length)(h2:i<m.length):f m[i]=f l[i]:=hf _ _ (h.get i h1 h2)
theorem zVI(hA:zIc p q)(t:ByteArray){env:wJ}{e:Exp}{u:Typ}(h:WE p env e u):WE q env (zH0 t e) u:=by
 have key:∀{r:Id} {d:Dfn},qM p.defs r=some d->∃d',qM q.defs r=some d'/\SameD d d':=fun {r d} hd=>by
  rcases zDT hA r with ⟨h1,_⟩|⟨a,b,h1,h2,h⟩
  .rw[h1]at hd;cases hd
  .rw[h1]at hd;cases hd;exact⟨b,h2,h⟩
 induction h with
 |int env i n r u ns h1 h2=>rw[iN];exact .int _ _ _ _ _ _ h1 h2
 |bool env i n r u ns h=>rw[iN];exact .bool _ _ _ _ _ _ h
 |var env i n r u ns t h=>rw[iN];exact .var _ _ _ _ _ _ _ h
 |call env i n r u ks ns hn d hd hk hl hw ih =>
  obtain⟨d',hd',hs⟩:=key hd;have hm:d'.slots.map Slt.typ=d.slots.map Slt.typ:=hs.slots.map fun _ _ h=>h.typ
  rw[iN,<-hs.res];refine .call _ _ _ _ _ _ _ (by simpa using hn) d' hd' (hs.kind.trans hk) (by rw[hm];simpa using hl) fun j hj=>?_
  have hj':j<ks.length:=by simpa using hj
  have:=ih j hj'
  simpa[hm]using this
 |op env i n r u ks ns hn ts t ho hl hw ih =>
  rw[iN];refine .op _ _ _ _ _ _ _ (by simpa using hn) ts t ho (by simpa using hl) fun j hj=>?_
  have hj':j<ks.length:=by simpa using hj
  simpa using ih j hj'
 |ite env i n r u a b c ns t ha hb hc i1 i2 i3=>rw[iN];exact .ite _ _ _ _ _ _ _ _ _ _ i1 i2 i3
 |lets env i n r u a b ns v t hf ha hb i1 i2=>rw[iN];exact .lets _ _ _ _ _ _ _ _ _ _ hf i1 i2
 |record env i n r u ks ns hn d hd hk hl hw ih =>
  obtain⟨d',hd',hs⟩:=key hd;have hm:d'.slots.map Slt.typ=d.slots.map Slt.typ:=hs.slots.map fun _ _ h=>h.typ
  rw[iN];refine .record _ _ _ _ _ _ _ (by simpa using hn) d' hd' (hs.kind.trans hk) (by rw[hm];simpa using hl) fun j hj=>?_
  have hj':j<ks.length:=by simpa using hj
  simpa[hm]using ih j hj'
 |field env i r u a ns d j hd hk hj ha ih =>
  obtain⟨d',hd',hs⟩:=key hd;have hj':j<d'.slots.length:=by rw[hs.slots.len];exact hj
  rw[iN,<-zWU (f:=Slt.typ) (fun _ _ h=>h.typ) hs.slots j hj hj'];exact .field _ _ _ _ _ _ d' j hd' (hs.kind.trans hk) hj' ih
 |case env i r u a ns d j hd hk hj ha ih =>
  obtain⟨d',hd',hs⟩:=key hd;have hj':j<d'.slots.length:=by rw[hs.slots.len];exact hj
  rw[iN];refine .case _ _ _ _ _ _ d' j hd' (hs.kind.trans hk) hj' ?_;rw[zWU (f:=Slt.typ) (fun _ _ h=>h.typ) hs.slots j hj hj'];exact ih
 |mtch env i n r u a ks ns d t hf hd hk hl ha hw i1 ih =>
  obtain⟨d',hd',hs⟩:=key hd;rw[iN];refine .mtch _ _ _ _ _ _ _ _ d' _ hf hd' (hs.kind.trans hk) (by rw[jAa,hs.slots.len];exact hl) i1 fun j hj=>?_
  have hj':j<ks.length:=by simpa using hj
  have hjd:j<d.slots.length:=hl▸hj';have hjd':j<d'.slots.length:=by rw[hs.slots.len];exact hjd
  have:=ih j hj';rw[<-zWU (f:=Slt.typ) (fun _ _ h=>h.typ) hs.slots j hjd hjd']at this
  simpa using this
 |list env i n r u ks ns t hn hw ih =>
  rw[iN];refine .list _ _ _ _ _ _ _ _ (by simpa using hn) fun j hj=>?_
  have hj':j<ks.length:=by simpa using hj
  simpa using ih j hj'
 |fold env i n r u l s b ns v t hf hl hs hb i1 i2 i3=>rw[iN];exact .fold _ _ _ _ _ _ _ _ _ _ _ hf i1 i2 i3
theorem zNy{hs':wQ}(hl:hs'.length=hs.length)(h1:∀(k:Nat)(a:k<hs.length)(b:k<hs'.length),hs'[k].id=hs[k].id/\hs'[k].kind=hs[k].kind/\Al SameS hs[k].slots hs'[k].slots){r:Nat}{t:Typ}(h:TyOk hs r t):TyOk hs' r t:=by
 induction h with
 |int r=>exact .int _
 |bool r=>exact .bool _
 |list r t _ ih=>exact .list _ _ ih
 |dfn r k h n1 h2 h3 h4 ih =>
  have h':k<hs'.length:=by omega
  obtain⟨a1,a2,a3⟩:=h1 k h h';rw[<-a1];refine .dfn r k h' (fun j hj=>?_) (by rw[a2,a3.len];exact h2) (by rw[a3.len];exact h3) fun s hs=>?_
  .rw[a1,(h1 j (by omega) (by omega)).1];exact n1 j hj
  .obtain⟨s0,hs0,hS⟩:=a3.mem hs;rw[hS.typ];exact ih s0 hs0
theorem zNQ{d':Dfn}(h:SameD d d'):cC d'=cC d:=h.slots.map fun a b h=>by rw[h.id,h.typ]
theorem Fit.same(hA:zIc p q)(h:Fit p hs):Fit q (q.defs.map Dfn.hd):=by
 have hl:=hA.len;have hhs:hs=p.defs.map Dfn.hd:=h.heads.symm;have hT:∀{r:Nat} {t:Typ},TyOk hs r t->TyOk (q.defs.map Dfn.hd) r t:=fun ht=>by
  refine zNy (by rw[hhs];simp[hl]) (fun k a b=>?_) ht;have a':k<p.defs.length:=by rw[hhs]at a;simpa using a
  have b':k<q.defs.length:=by simpa using b
  have e1:hs[k]=p.defs[k].hd:=by simp[hhs]
  have e2:(q.defs.map Dfn.hd)[k]=q.defs[k].hd:=by simp
  rw[e1,e2];have hk:=hA.get k a' b';exact⟨hk.id,hk.kind,hk.slots⟩
 refine⟨rfl,by rw[hl];exact h.len8,hA.pair (fun a b a' b' r1 r2 hne=>by rw[r1.id,r2.id];exact hne) h.nd,fun d hd=>?_,fun d hd=>?_,fun r d hd hb=>?_⟩
 .obtain⟨a,ha,hS⟩:=hA.mem hd;obtain⟨s1,s2,s3,s4,s5⟩:=h.slots a ha;rw[hS.slots.len,hS.kind];refine⟨s1,s2,s3,hS.slots.pair (fun a b a' b' r1 r2 hne=>by rw[r1.id,r2.id];exact hne) s4,fun s hs=>?_⟩;obtain⟨s0,hs0,hs'⟩:=hS.slots.mem hs;have:=hT (s5 s0 hs0);rw[hs'.typ];exact this
 .obtain⟨a,ha,hS⟩:=hA.mem hd;rw[hS.kind];exact h.kinds a ha
 .rcases zDT hA r with ⟨_,h2⟩|⟨a,b,h1,h2,hS⟩
  .rw[h2]at hd;cases hd
  .rw[h2]at hd;cases hd;obtain⟨t,ht⟩:=hS.body;rw[zNQ hS,ht,hS.res];refine zVI hA t (h.bods r a h1 ?_)
   simpa[eU,hS.kind]using hb
structure RelX(k:Int)(s s':XS):Prop where
 fuel:s'.fuel=s.fuel-k
 fail:s'.fail=s.fail
 ds:s'.ds=s.ds
 ns:s'.ns=s.ns
def iA(s' s:XS):Prop:=(∀x∈s'.ds,x∈s.ds)/\∀x∈s'.ns,x∈s.ns
theorem iA.rfl'(s:XS):iA s s:=⟨fun _ h=>h,fun _ h=>h⟩
theorem iA.trans{a b c:XS}(h:iA a b)(k:iA b c):iA a c:=⟨fun x hx=>k.1 x (h.1 x hx),fun x hx=>k.2 x (h.2 x hx)⟩
variable{s:XS}
theorem RelX.sub{k:Int}{s':XS}(h:RelX k s s'):iA s' s:=⟨fun x hx=>by rw[<-h.ds];exact hx,fun x hx=>by rw[<-h.ns];exact hx⟩
theorem zEZ(s:XS):InvX (iA s) :=
 ⟨fun e t h _=>⟨h.1,fun x hx=>jBq _ (h.2 x hx)⟩,fun d t h=>⟨fun x hx=>jBq _ (h.1 x hx),h.2⟩,fun x t h=>h⟩
def Grow(ev:Evl):Prop:=∀e V s,iA s (ev e V s).2
theorem zJ3(p:Prg)(fl n:Nat):Grow (bD p fl n):=fun e V s=>zGw (zEZ s) fl n e V s (iA.rfl' s)
def qBn{α:Type}(k:Int)(r r' : α×XS):Prop:=(RelX k r.2 r'.2/\r'.1=r.1)\/(r'.2.fail≠0/\iA r'.2 r.2)
theorem qBn.grow{α:Type}{k:Int}{r r' : α×XS}{t : α}(h:r'.2.fail≠0/\iA r'.2 r.2)(hs:iA r.2 s):qBn k (t,s) r':=.inr ⟨h.1,h.2.trans hs⟩
section
variable{p:Prg}{k:Int}{ev ev':Evl}
theorem Grow.all(hg:Grow ev)(V:wP)(l:wH)(s:XS):iA s (jQ ev V l s).2:=zD3 (I:=iA s) (fun e V t ht=>ht.trans (hg e V t)) V l s (iA.rfl' s)
theorem Grow.fold(hg:Grow ev)(V:wP)(i:Id)(b:Exp)(l:wI)(r:Val×XS):iA r.2 (aN ev V i b l r).2:=zBL (I:=iA r.2) (fun e V t ht=>ht.trans (hg e V t)) V i b l r (iA.rfl' r.2)
theorem Grow.body(hg:Grow ev)(d:Dfn)(vs:wI)(s:XS):iA s (dR ev d vs s).2:=zFJ (I:=iA s) (zEZ s) (fun e V t ht=>ht.trans (hg e V t)) d vs s (iA.rfl' s)
end
theorem RP.congr{f:FuncId}{args:wF}{F:Int}{s':XS}{r r':A}(h:RP f args p F s r s')(hr:s'.fail=0->r=r'):RP f args p F s r' s' :=
 ⟨fun hf=>by rw[<-hr hf];exact h.ret hf,h.pan⟩
section
variable{p:Prg}{F m:Int}{ev:Evl}{B:wJ}{e:Exp}{t:Typ}{V:wP}{s:XS}
end
def qBl:K:=G [kO 1 0,kMi 2 0] (G [D 4 1 1,L 5 4 1,D 6 1 1,L 7 6 1,D 8 1 1,L 9 8 1,D 10 1 2,L 11 10 1,kN 12 11,kb 13 [ki,ki,ki,ki,ki] [(0,1,(kt 5)),(1,1,(kt 7)),(2,1,(kc 0)),(3,1,(kt 9)),(4,1,(kt 12))],kZ 3 [ki,ki,ki,ki,ki],S 3 13 5] (Z (G [D 14 1 0,L 15 14 1,kQi 16 15 0 false,M 17 16,T 17 true (D 18 1 1),T 17 true (L 19 18 1),T 17 true (kBi 20 19 0 .lss),kPf 21 17 20] (Y 21 (G [D 22 1 1,L 23 22 1,⟨none,.neg (some 24) (kt 23)⟩,M 2 24] kr) ks)) (G [D 25 1 0,L 26 25 1,⟨none,.idxarr (some 27) (kt 3) (kt 26) 5 1⟩,L 28 27 1,M 2 28] kr)))
theorem qIM:ky Tryz.f189 qBl:=m_ (by kernel_rfl)
def qBm:K:=G [kO 1 0,kMi 2 0] (Z (G [D 6 1 0,L 7 6 1,kBi 8 7 0 .lss,M 9 8,T 9 false (D 10 1 0),T 9 false (L 11 10 1),T 9 false (kBi 12 11 4 .gtr),kPt 13 9 12] (Y 13 (G [kMi 2 0] kr) ks)) (G [J 14 1 3,kC 15 189 [(kt 14)],M 3 15] (Z (G [D 16 1 0,L 17 16 1,kQi 18 17 0 false,M 19 18,T 19 false (D 20 1 0),T 19 false (L 21 20 1),T 19 false (kQi 22 21 1 false),kPt 23 19 22] (Y 23 (G [M 24 3,M 2 24] kr) ks)) (Z (G [D 25 1 2,L 26 25 1,kN 27 26,kMi 28 0] (K.block 0 (K.loop (G [kB 29 28 27 .lss] (Z (Y 29 ks (K.exit 0)) (Z (K.block 1 (G [kX 30 26 28 3,J 31 30 3,kZ 5 [ki,ki,kl],S 5 31 3] (K.ops [M 32 3,J 33 5 3,kC 34 143 [(kt 33)],kB 35 32 34 .add,M 3 35]))) (K.ops [kBi 36 28 1 .add,M 28 36]))))))) (G [M 37 3,M 2 37] kr)))))
theorem qIN:ky Tryz.f143 qBm:=m_ (by kernel_rfl)
def zHA(v:Val):Int:=if v.k=0/\v.n<0 then w64 (0-v.n)else if v.k=0\/v.k=1\/v.k=3 then v.n else if v.k=4 then v.kids.length else 0
theorem zMf(v:Val)(h0:0<=v.k)(h4:v.k<=4):my 189 [.agg (z7 v)] [] (int (zHA v)) []:=by
 refine zG Tryz.func189 rfl qIM (rs:=[.slot 2]) (by kernel_rfl) ?_;unfold qBl;by_cases hk:v.k=0
 .by_cases hn:v.n<0
  .simp -implicitDefEqProofs [z7,hk,hn];exact fun _=>zC 0 (by simp[zHA,hk,hn,w64])
  .simp -implicitDefEqProofs [z7,hk,hn];exact fun _=>zC 0 (by simp[zHA,hk,hn])
 .simp -implicitDefEqProofs [z7,hk];intro hl;have hc:v.k=1\/v.k=2\/v.k=3\/v.k=4:=by omega
  rcases hc with h|h|h|h<;>simp -implicitDefEqProofs [h]<;>exact zC 0 (by simp[zHA,h])
def sB:Val->Int
 | .mk k n l=>if k<0\/4<k then 0 else if k=0\/k=1 then zHA (.mk k n l)else l.attach.foldl (fun s x=>w64 (s+sB x.1)) (zHA (.mk k n l))
termination_by v=>qU v
decreasing_by
 have:=pK x.2;simp only[qU];omega
def uD(s:Int)(l:wI):Int:=l.foldl (fun s x=>w64 (s+sB x)) s
theorem nE(v:Val):sB v=if v.k<0\/4<v.k then 0 else if v.k=0\/v.k=1 then zHA v else uD (zHA v) v.kids:=by
 cases v with
 |mk k n l =>
  rw[sB];simp only[Val.k,Val.kids,uD]
  congr 2
  rw[List.foldl_attach (f:=fun s x=>w64 (s+sB x))]
theorem zGG{s:Int}{l:wI}{i:Nat}(h:i<l.length):uD s (l.take (i+1))=IntKind.i64.wrap (uD s (l.take i)+sB l[i]):=by rw[uD,jA8 h,jBr];rfl
theorem zGO(v:Val):my 143 [.agg (z7 v)] [] (int (sB v)) []:=by
 refine zG Tryz.func143 rfl qIN (rs:=[.slot 2]) (by kernel_rfl) ?_;unfold qBm;by_cases hk:v.k<0
 .simp -implicitDefEqProofs [z7,hk];exact zC 0 (by simp[nE v,hk])
 by_cases hk':4<v.k
 .simp -implicitDefEqProofs [z7,hk,hk'];exact zC 0 (by simp[nE v,hk'])
 simp -implicitDefEqProofs [z7,hk,hk'];refine mu (zMf v (by omega) (by omega)) (by simp[z7]) ?_;by_cases h0:v.k=0
 .simp -implicitDefEqProofs [h0];exact zC 0 (by simp[nE v,h0])
 by_cases h1:v.k=1
 .simp -implicitDefEqProofs [h1];exact zC 0 (by simp[nE v,h1])
 simp -implicitDefEqProofs [h0,h1];intro hl;refine qH (S:=Nat) (fun i=>[(3,int (uD (zHA v) (v.kids.take i))),(26,.sl v.kids.length (zT v.kids)),(27,int v.kids.length),(28,int i)]) (fun s=>[]) (fun i=>i<=v.kids.length) (fun i=>v.kids.length-i) 0 (by simp)
  (mw [] 0 (by rfl) (by simp[uD])) ?_
 intro i hi;simp -implicitDefEqProofs;refine jY (fun h=>?_) (fun h=>?_)<;>simp at h
 .simp -implicitDefEqProofs [h,j6 h];refine mu (zGO v.kids[i]) (by simp[z7]) ?_;simp -implicitDefEqProofs;refine zN (i+1) h (by omega) (mw [] 0 (by rfl) (by simp[zY h hl,zGG h]))
 .have:i=v.kids.length:=by omega
  subst this;simp -implicitDefEqProofs;exact zC 0 (by simp[nE v,hk,hk',h0,h1])
termination_by qU v
decreasing_by exact dY (jA0 _)
structure Lin{α:Type}(c : α->α->Int):Prop where
 refl:∀x,c x x=0
 eq:∀x y,c x y=0->x=y
 swap:∀x y,c x y<0↔0<c y x
 trans:∀x y z,c x y<0->c y z<0->c x z<0
theorem Lin.ord{α:Type}{c : α->α->Int}(h:Lin c):Ord c where
 irrefl x:=by rw[h.refl];omega
 trans:=h.trans
 ntrans x y z h1 h2 h3:=by
  by_cases e1:c x y=0
  .rw[h.eq _ _ e1]at h3;exact h2 h3
  by_cases e2:c y z=0
  .rw[<-h.eq _ _ e2]at h3;exact h1 h3
  have h4:c y x<0:=(h.swap y x).2 (by omega);have h5:=h.trans _ _ _ h4 h3;exact h2 h5
 anti x y h1 h2:=by
  by_cases e1:c x y=0
  .exact h.eq _ _ e1
  .have:c y x<0:=(h.swap y x).2 (by omega);exact(h2 this).elim
variable{a b:Int}
theorem lE:bN a b<0↔a<b:=by
 unfold bN;split
 .omega
 .split<;>omega
theorem sY:0<bN a b↔b<a:=by
 unfold bN;split
 .omega
 .split<;>omega
theorem yF:bN a b=0↔a=b:=by
 unfold bN;split
 .omega
 .split<;>omega
theorem qD4:Lin bN where
 refl x:=yF.2 rfl
 eq x y h:=yF.1 h
 swap x y:=by rw[lE,sY]
 trans x y z:=by simp only[lE];omega
theorem zH9(a:Int):orI [a]=a:=by simp only[orI];split<;>simp_all
theorem zE7(a:Int)(l:wC):orI (a::l)=if a=0 then orI l else a:=rfl
theorem zQW{α:Type}{c d : α->α->Int}(hc0:∀x,c x x=0)(hcs:∀x y,c x y<0↔0<c y x)(hct:∀x y z,c x y<0->c y z<0->c x z<0)
 (hce:∀x y z,c x y=0->c x z=c y z/\c z x=c z y)(hd0:∀x,d x x=0)(hde:∀x y,c x y=0->d x y=0->x=y)(hds:∀x y,c x y=0->(d x y<0↔0<d y x))
 (hdt:∀x y z,c x y=0->c y z=0->d x y<0->d y z<0->d x z<0):Lin fun x y=>if c x y=0 then d x y else c x y where
 refl x:=by simp[hc0,hd0]
 eq x y h:=by
  split at h
  .rename_i hc;exact hde x y hc h
  .rename_i hc;exact(hc h).elim
 swap x y:=by
  by_cases h:c x y=0
  .have h':c y x=0:=by have:=(hce x y x h).1;rw[hc0]at this;exact this.symm
   simp only[h,h',if_true];exact hds x y h
  .have h':¬c y x=0:=fun e=>h (by
    have:=(hce y x y e).1;rw[hc0]at this;exact this.symm)
   simp only[h,h',if_false];exact hcs x y
 trans x y z:=by
  by_cases h1:c x y=0
  .by_cases h2:c y z=0
   .have h3:c x z=0:=by rw[(hce x y z h1).1];exact h2
    simp only[h1,h2,h3,if_true];exact hdt x y z h1 h2
   .have h3:¬c x z=0:=by rw[(hce x y z h1).1];exact h2
    simp only[h1,h2,h3,if_true,if_false];intro _ h;rw[(hce x y z h1).1];exact h
  .by_cases h2:c y z=0
   .have h3:¬c x z=0:=by rw[<-(hce y z x h2).2];exact h1
    simp only[h1,h2,h3,if_true,if_false];intro h _;rw[<-(hce y z x h2).2];exact h
   .simp only[h1,h2,if_false];intro h4 h5;have h6:=hct x y z h4 h5;have h3:¬c x z=0:=by omega
    simp only[h3,if_false];exact h6
mutual
theorem zBA:∀(a:Val),nG a a=0
 | .mk k n l=>by
  rw[pW];have:eF (.mk k n l) (.mk k n l)=0:=by simp[eF,orI,yF.2]
  simp only[this,ne_eq,not_true_eq_false,if_false,Val.kids];exact xI l
theorem xI:∀(l:wI),aW l l=0
 |[]=>by simp only[aW]
 |a::l=>by simp only[aW,zBA a,ne_eq,not_true_eq_false,if_false];exact xI l
end
theorem mN{a b:Val}:eF a b=0↔a.k=b.k/\a.n=b.n/\a.kids.length=b.kids.length:=by
 simp only[eF,orI];by_cases h1:a.k=b.k
 .by_cases h2:a.n=b.n
  .by_cases h3:a.kids.length=b.kids.length
   .simp[h1,h2,h3,yF.2]
   .have:¬bN a.kids.length b.kids.length=0:=fun e=>h3 (by have:=yF.1 e;omega)
    simp[h1,h2,h3,yF.2,this]
  .have:¬bN a.n b.n=0:=fun e=>h2 (yF.1 e)
   simp[h1,h2,yF.2,this]
 .have:¬bN a.k b.k=0:=fun e=>h1 (yF.1 e)
  simp[h1,this]
mutual
theorem oS:∀(a b:Val),nG a b=0->a=b
 | .mk k n l,.mk k' n' l',h=>by
  rw[pW]at h;split at h
  .rename_i h1;exact(h1 h).elim
  .rename_i h1;simp only[ne_eq,Decidable.not_not]at h1;obtain⟨e1,e2,e3⟩:=mN.1 h1;simp only[Val.k,Val.n,Val.kids]at e1 e2 e3 h;rw[e1,e2,xK l l' h]
theorem xK:∀(l l':wI),aW l l'=0->l=l'
 |[],[],_=>rfl
 |[],_::_,h=>by simp[aW]at h
 |_::_,[],h=>by simp[aW]at h
 |a::l,b::l',h=>by
  simp only[aW]at h;split at h
  .rename_i h1;exact(h1 h).elim
  .rename_i h1;simp only[ne_eq,Decidable.not_not]at h1;rw[oS a b h1,xK l l' h]
end
theorem zAP{a b:Val}:eF a b<0↔a.k<b.k\/(a.k=b.k/\(a.n<b.n\/(a.n=b.n/\a.kids.length<b.kids.length))):=by
 simp only[eF,zE7,zH9];by_cases h1:a.k=b.k
 .by_cases h2:a.n=b.n
  .simp[h1,h2,yF.2,lE];simp only[orI];split<;>rename_i h<;>simp_all [lE];have:=yF.1 h;omega
  .have:¬bN a.n b.n=0:=fun e=>h2 (yF.1 e)
   simp[h1,h2,yF.2,this,lE]
 .have:¬bN a.k b.k=0:=fun e=>h1 (yF.1 e)
  simp[h1,this,lE]
theorem zQH{a b:Val}:0<eF a b↔eF b a<0:=by
 rw[zAP];simp only[eF,zE7,zH9];by_cases h1:a.k=b.k
 .by_cases h2:a.n=b.n
  .simp[h1,h2,yF.2];simp only[orI];split<;>rename_i h<;>simp_all [sY];have:=yF.1 h;omega
  .have:¬bN a.n b.n=0:=fun e=>h2 (yF.1 e)
   simp[h1,yF.2,this,sY];omega
 .have:¬bN a.k b.k=0:=fun e=>h1 (yF.1 e)
  simp[this,sY];omega
mutual
theorem zNI:∀(a b:Val),nG a b<0↔0<nG b a
 | .mk k n l,.mk k' n' l'=>by
  rw[pW,pW];by_cases h:eF (.mk k n l) (.mk k' n' l')=0
  .have h':eF (.mk k' n' l') (.mk k n l)=0:=by rw[mN]at *;omega
   simp only[h,h',ne_eq,not_true_eq_false,if_false,Val.kids];exact xJ l l'
  .have h':¬eF (.mk k' n' l') (.mk k n l)=0:=by rw[mN]at *;omega
   simp only[h,h',ne_eq,not_false_eq_true,if_true];rw[zQH]
theorem xJ:∀(l l':wI),aW l l'<0↔0<aW l' l
 |[],[]=>by simp[aW]
 |[],_::_=>by simp[aW]
 |_::_,[]=>by simp[aW]
 |a::l,b::l'=>by
  simp only[aW];by_cases h:nG a b=0
  .have e:=oS a b h;subst e;simp only[h,ne_eq,not_true_eq_false,if_false];exact xJ l l'
  .have h':¬nG b a=0:=fun e=>h (by rw[oS b a e];exact zBA a)
   simp only[h,h',ne_eq,not_false_eq_true,if_true];exact zNI a b
end
mutual
theorem zKO:∀(a b c:Val),nG a b<0->nG b c<0->nG a c<0
 | .mk k n l,.mk k' n' l',.mk k'' n'' l'',h1,h2=>by
  rw[pW]at *
  by_cases e1:eF (.mk k n l) (.mk k' n' l')=0
  .by_cases e2:eF (.mk k' n' l') (.mk k'' n'' l'')=0
   .have e3:eF (.mk k n l) (.mk k'' n'' l'')=0:=by rw[mN]at *;omega
    simp only[e1,e2,e3,ne_eq,not_true_eq_false,if_false,Val.kids]at *
    exact sZ l l' l'' h1 h2
   .have e3:eF (.mk k n l) (.mk k'' n'' l'')<0:=by simp only[e2,ne_eq,not_false_eq_true,if_true]at h2;rw[mN]at e1;rw[zAP]at *;omega
    have e4:eF (.mk k n l) (.mk k'' n'' l'')≠0:=by omega
    simp only[e4,ne_eq,not_false_eq_true,if_true];exact e3
  .simp only[e1,ne_eq,not_false_eq_true,if_true]at h1;have e3:eF (.mk k n l) (.mk k'' n'' l'')<0:=by
    by_cases e2:eF (.mk k' n' l') (.mk k'' n'' l'')=0
    .rw[mN]at e2;rw[zAP]at *;omega
    .simp only[e2,ne_eq,not_false_eq_true,if_true]at h2;rw[zAP]at *;omega
   have e4:eF (.mk k n l) (.mk k'' n'' l'')≠0:=by omega
   simp only[e4,ne_eq,not_false_eq_true,if_true];exact e3
theorem sZ:∀(a b c:wI),aW a b<0->aW b c<0->aW a c<0
 |[],[],_,h1,_=>by simp[aW]at h1
 |[],_::_,[],_,h2=>by simp[aW]at h2
 |[],_::_,_::_,_,_=>by simp[aW]
 |_::_,[],_,h1,_=>by simp[aW]at h1
 |_::_,_::_,[],_,h2=>by simp[aW]at h2
 |a::l,b::l',c::l'',h1,h2=>by
  simp only[aW]at *
  by_cases e1:nG a b=0
  .have e:=oS a b e1;subst e;by_cases e2:nG a c=0
   .simp only[zBA,e2,ne_eq,not_true_eq_false,if_false]at *
    exact sZ l l' l'' h1 h2
   .simp only[e2,ne_eq,not_false_eq_true,if_true]at *
    exact h2
  .simp only[e1,ne_eq,not_false_eq_true,if_true]at h1;have e3:nG a c<0:=by
    by_cases e2:nG b c=0
    .rw[<-oS b c e2];exact h1
    .simp only[e2,ne_eq,not_false_eq_true,if_true]at h2;exact zKO a b c h1 h2
   have e4:nG a c≠0:=by omega
   simp only[e4,ne_eq,not_false_eq_true,if_true];exact e3
end
theorem zO2:Lin aW:=⟨xI,xK,xJ,sZ⟩
theorem zXg{α:Type}(f : α->Int){d : α->α->Int}(h:Lin d):Lin fun x y=>orI [bN (f x) (f y),d x y]:=by
 have:=zQW (c:=fun x y=>bN (f x) (f y)) (d:=d) (fun x=>yF.2 rfl) (fun x y=>by rw[lE,sY]) (fun x y z=>by simp only[lE];omega)
  (fun x y z e=>by have:=yF.1 e;simp[this]) h.refl (fun x y _=>h.eq x y) (fun x y _=>h.swap x y) (fun x y z _ _=>h.trans x y z)
 have e:(fun x y=>orI [bN (f x) (f y),d x y])=fun x y=>if bN (f x) (f y)=0 then d x y else bN (f x) (f y):=by funext x y;rw[zE7,zH9]
 rw[e];exact this
end Go.Proofs.YtolkhapmieigcaaGreatDoor
namespace Go.Proofs.YtolkhapmieigcaaGreatDoor
open Go.Proofs Go.Abs
theorem zRi(c:Int)(hc:c=0\/c=1\/c=2)(w:World):Calls Tryz.prog 212 #[.int .u64 1,.int .u64 c] w fun e w'=>e=.returned (.tuple #[.int .u64 0,.int .u64 c])/\w'=w:=by
 rcases hc with rfl|rfl|rfl
 all_goals
  go_enter Tryz.func212,Tryz.ntmps212
  go_wp2
  go_ret2
  exact⟨by kernel_rfl,rfl⟩
theorem zL4(c:Int)(hc:c=0\/c=1\/c=2)(w:World):Calls Tryz.prog 180 #[.int .u64 1,.int .u64 c] w fun e w'=>e=.returned (.tuple #[.int .u64 0,.int .u64 c])/\w'=w:=by
 have h:=zRi c hc;have hw:IntKind.u64.wrap c=c:=by rcases hc with rfl|rfl|rfl<;>rfl
 go_enter Tryz.func180,Tryz.ntmps180
 go_wp2_with (go_at_call 212;refine(h _).mono ?_;rintro e w' ⟨rfl,rfl⟩)
 go_ret2
 exact⟨rfl,rfl⟩
theorem u49:Tryz.prog.underlying 79=some (.slice 82):=by kernel_rfl
theorem zTK:(Tryz.prog.info? 82).map (·.size)=some 1:=by kernel_rfl
theorem i36:(Tryz.prog.info? 82).map (fun i=>(i.size,i.bytes,i.zero))=some (1,24,some (.slice none 0 0)):=by kernel_rfl
theorem zL2(c:Nat)(hc:c<=2)(w:World):(Instr.makeSlice 79 (.int .i64 c) (.int .i64 c)).run Tryz.prog w=.ok (.slice (some ⟨w.heap.size,0,none⟩) c c) (w.alloc (.cells (madeCells #[.slice none 0 0] c) 82)):=by obtain⟨i,hi,hh⟩:=jAe.1 i36;simp only[jBl]at hh;obtain⟨h1,h2,h3⟩:=hh;have:=run_make w 79 82 i (.slice none 0 0) u49 hi h3 .i64 .i64 c c (by omega) (by omega) (by rw[h2];omega) (by omega);rw[this,h1];simp[Value.cells]
theorem zPa{P:Program}{ops:Array Oper}{o:Oper}{a:Act}{w w':World}{K:Act->World->Prop}{Q:Exit->Act->World->Prop}{E:Prop}
 (hg:o.guard=none)(d s:Operand)(t:TypeId)(hop:o.op=Op.call {callee:=Callee.builtin Builtin.copy,args:=#[d,s],argTypes:=#[t,t]})
 (vd vs:Value)(hd:a.eval d=vd)(hs:a.eval s=vs)(v:Value)(hrun:(Builtin.copy_ #[t,t] o.type #[vd,vs]).run P w=.ok v w')(hK:K (a.put o.dst v) w') :
 if Region.wanted o (yielded ops a.tmps)=true then Oper.wp P o a w K Q else E:=by
 have hw:Region.wanted o (yielded ops a.tmps)=true:=by simp[Region.wanted,hg]
 rw[if_pos hw];unfold Oper.wp;simp[execOp,hop,resolve,invoke,builtin,hs,hd,hrun,Result.andThen];exact hK
theorem zRd(z:Value)(n:Nat):madeCells #[z] n=Array.replicate n z:=Array.ext (by simp[madeCells]) (by intro i h1 h2;simp[madeCells,Nat.mod_one])
theorem zB3(w:World)(cur cur':Array Value):(w.alloc (.cells cur 82)).setRow w.heap.size cur'=w.alloc (.cells cur' 82):=by unfold World.setRow World.alloc;simp only[World.mk.injEq,and_true];apply Array.ext_getElem?;intro k;simp only[Array.getElem?_modify,Array.getElem?_push];split<;>split<;>simp_all
theorem zLJ(b o cap:Nat)(v:Value)(w:World)(hv:w.cell? ⟨b,o,none⟩=some v) :
 Calls Tryz.prog 137 #[.slice (some ⟨b,o,none⟩) 1 cap,.int .i64 0] w fun e w'=>e=.returned (.slice (some ⟨w.heap.size,0,none⟩) 0 0)/\w'=w.alloc (.cells #[] 82):=by
 have h:=zL4 0 (by simp);have hm:∀w:World,(Instr.makeSlice 79 (.int .i64 0) (.int .i64 0)).run Tryz.prog w=.ok (.slice (some ⟨w.heap.size,0,none⟩) 0 0) (w.alloc (.cells #[] 82)):=fun w=>(zL2 0 (by decide) w).trans (by rw[zRd];rfl)
 go_enter Tryz.func137,Tryz.ntmps137
 go_wp2_with (go_at_call 180;refine(h _).mono ?_;rintro e w' ⟨rfl,rfl⟩)
 have hcp:=run_copy_none (P:=Tryz.prog) (w'.alloc (.cells #[] 82)) 79 79 3 82 (some ⟨w'.heap.size,0,none⟩) (some ⟨b,o,none⟩) 0 0 1 cap u49 zTK (by rfl)
 go_wp2
 rw[hcp]
 go_wp2
 refine wp_loop_rounds 1 ?_;simp only[Code.rounds]
 go_wp2
 go_ret
 exact⟨rfl,rfl⟩
theorem zLK(b o cap:Nat)(v:Value)(w:World)(hv:w.cell? ⟨b,o,none⟩=some v)(h1:v.oneCell'=true)(hb:b<w.heap.size) :
 Calls Tryz.prog 137 #[.slice (some ⟨b,o,none⟩) 1 cap,.int .i64 1] w fun e w'=>e=.returned (.slice (some ⟨w.heap.size,0,none⟩) 1 1)/\w'=w.alloc (.cells #[v] 82):=by
 have h:=zL4 1 (by simp);have hm:∀w:World,(Instr.makeSlice 79 (.int .i64 1) (.int .i64 1)).run Tryz.prog w=.ok (.slice (some ⟨w.heap.size,0,none⟩) 1 1) (w.alloc (.cells #[.slice none 0 0] 82)):=fun w=>(zL2 1 (by decide) w).trans (by rw[zRd];rfl)
 go_enter Tryz.func137,Tryz.ntmps137
 go_wp2_with (go_at_call 180;refine(h _).mono ?_;rintro e w' ⟨rfl,rfl⟩)
 have hcp:=run_copy_row (P:=Tryz.prog) (w'.alloc (.cells #[.slice none 0 0] 82)) 79 79 3 82 w'.heap.size 0 1 1 ⟨b,o,none⟩ 1 cap #[.slice none 0 0] 82 [v] u49 zTK (heap_alloc_new _ _) (by rfl)
  (by
   intro j u hj;cases j with
   |succ j=>simp at hj
   |zero =>
    simp at hj;subst hj;rw[<-hv];exact World.cell?_alloc_lt _ _ (a:=⟨b,o+0,none⟩) hb) (by simp) (by simpa using h1)
 rw[zB3]at hcp;simp only[List.take_zero,jBp,jAb,jB4,List.drop_succ_cons,jAx,List.drop_nil,jAs]at hcp
 go_wp2
 rw[hcp]
 go_wp2
 refine wp_loop_rounds 1 ?_;simp only[Code.rounds]
 go_wp2
 go_ret
 exact⟨rfl,rfl⟩
theorem zLL(b o cap:Nat)(v:Value)(w:World)(hv:w.cell? ⟨b,o,none⟩=some v)(h1:v.oneCell'=true)(hb:b<w.heap.size) :
 Calls Tryz.prog 137 #[.slice (some ⟨b,o,none⟩) 1 cap,.int .i64 2] w fun e w'=>e=.returned (.slice (some ⟨w.heap.size,0,none⟩) 2 2)/\w'=(w.alloc (.cells #[v,v] 82)).drew:=by
 have h:=zL4 2 (by simp);have hm:∀w:World,(Instr.makeSlice 79 (.int .i64 2) (.int .i64 2)).run Tryz.prog w=.ok (.slice (some ⟨w.heap.size,0,none⟩) 2 2) (w.alloc (.cells #[.slice none 0 0,.slice none 0 0] 82)):=fun w=>(zL2 2 (by decide) w).trans (by rw[zRd];rfl)
 go_enter Tryz.func137,Tryz.ntmps137
 go_wp2_with (go_at_call 180;refine(h _).mono ?_;rintro e w' ⟨rfl,rfl⟩)
 have hcp:=run_copy_row (P:=Tryz.prog) (w'.alloc (.cells #[.slice none 0 0,.slice none 0 0] 82)) 79 79 3 82 w'.heap.size 0 2 2 ⟨b,o,none⟩ 1 cap #[.slice none 0 0,.slice none 0 0] 82 [v] u49 zTK (heap_alloc_new _ _) (by rfl)
  (by
   intro j u hj;cases j with
   |succ j=>simp at hj
   |zero =>
    simp at hj;subst hj;rw[<-hv];exact World.cell?_alloc_lt _ _ (a:=⟨b,o+0,none⟩) hb) (by simp) (by simpa using h1)
 rw[zB3]at hcp;simp only[List.take_zero,jBp,jAb,jB4,List.drop_succ_cons,List.drop_zero,jAx,jBf]at hcp
 go_wp2
 rw[hcp]
 go_wp2
 refine wp_loop_rounds 2 ?_;simp only[Code.rounds]
 go_wp2
 have hcp2:=run_copy_row (P:=Tryz.prog) (w'.alloc (.cells #[v,.slice none 0 0] 82)).drew 79 79 3 82 w'.heap.size 1 1 1 ⟨w'.heap.size,0,none⟩ 1 2 #[v,.slice none 0 0] 82 [v] u49 zTK (heap_alloc_new _ _) (by rfl)
  (by
   intro j u hj;cases j with
   |succ j=>simp at hj
   |zero =>
    simp at hj;subst hj;exact World.cell?_alloc_new _ _ 82 0) (by simp) (by simpa using h1)
 have e:(w'.alloc (.cells #[v,.slice none 0 0] 82)).drew.setRow w'.heap.size (List.take 1 #[v,.slice none 0 0].toList++[v]++List.drop (1+[v].length) #[v,.slice none 0 0].toList).toArray=(w'.alloc (.cells #[v,v] 82)).drew:=by show ((w'.alloc (.cells #[v,.slice none 0 0] 82)).setRow w'.heap.size _).drew=_;rw[zB3];rfl
 rw[e]at hcp2
 go_region_law (refine zPa rfl (.tmp 41) (.tmp 44) 79 rfl _ _ rfl rfl _ hcp2 ?_)
 go_wp2
 go_ret
 exact⟨rfl,rfl⟩
theorem zBd{H:Mem}{L:wO} {U:St}{w:World}(hs:RelSt H L U w):Nxt H L w H L U w.drew :=
 ⟨hs.heap_eq rfl,⟨rfl,rfl,rfl,jA _,fun _ _ _=>rfl,HLe.refl _,fun _ _ _ h=>.inl h,jCo _,fun _ _ h=>h⟩,LLe.refl _,fun _ h=>.inl h⟩
theorem tZ{H:Mem}{L:wO}{c:A}{v:Value}(h:Rel H L c v):∀n,z6 H L (List.replicate n c) (List.replicate n v)
 | 0=>jF
 |n+1=>qF h (tZ h n)
theorem zON(n:Nat)(hn:n<=2)(c:A):my 137 [.sl 1 [c],int n] [] (.sl n (List.replicate n c)) []:=by
 intro H L w vs hs hvs;obtain⟨x,t,rfl,hx,ht⟩:=zZ hvs;obtain⟨y,t,rfl,hy,ht⟩:=zZ ht;obtain rfl:=qY ht;simp only[int,Rel]at hx hy;subst hy;obtain⟨a,cap,rfl,h1,h2,h3⟩:=hx;rcases h3 with h3|⟨b,o,us,rfl,hc,ho,hat⟩
 .omega
 obtain⟨v,t,rfl,hv,ht⟩:=zZ hc;obtain rfl:=qY ht;have hp:=hs.pers b o v (by simpa using hat 0 v rfl);have h1v:v.oneCell'=true:=ho v (by simp);have hb:=World.block_lt_of_cell? w _ hp;have key:Calls Tryz.prog 137 #[.slice (some ⟨b,o,none⟩) 1 cap,.int .i64 n] w fun e w'=>e=.returned (.slice (some ⟨w.heap.size,0,none⟩) n n) /\
  (w'=w.alloc (.cells (List.replicate n v).toArray 82)\/w'=(w.alloc (.cells (List.replicate n v).toArray 82)).drew):=by
  have h:n=0\/n=1\/n=2:=by omega
  rcases h with rfl|rfl|rfl
  .exact(zLJ b o cap v w hp).mono fun e w' h=>⟨h.1,.inl h.2⟩
  .exact(zLK b o cap v w hp h1v hb).mono fun e w' h=>⟨h.1,.inl h.2⟩
  .exact(zLL b o cap v w hp h1v hb).mono fun e w' h=>⟨h.1,.inr h.2⟩
 refine key.mono fun e w' h=>?_
 obtain⟨rfl,hw⟩:=h;obtain⟨hn1,hn2⟩:=zCO hs (List.replicate n v) 82;refine⟨.ret (.sl n (List.replicate n c)),[],zF1 H w.heap.size (List.replicate n v),L,⟨_,rfl,?_⟩,?_,rfl,rfl⟩
 .simp only[Rel];refine⟨_,n,rfl,jA _,by simp[maxLen];omega,.inr ⟨w.heap.size,0,List.replicate n v,rfl,?_,fun u hu=>?_,hn2⟩⟩
  .have hv':=Rel.mono hn1.step.hle (LLe.refl _) _ hv;exact tZ hv' n
  .rw[(jDd.1 hu).2];exact h1v
 .rcases hw with rfl|rfl
  .exact hn1
  .exact hn1.trans (zBd hn1.st)
end Go.Proofs.YtolkhapmieigcaaGreatDoor
namespace Go.Proofs.YtolkhapmieigcaaGreatDoor
open Go.Abs
def woP(p:Prg)(t:Id):Prg:=⟨p.mods,p.defs.filter fun d=>decide (d.id≠t)⟩
variable{p:Prg}
theorem zKw{t r:Id}(h:r≠t):qM (woP p t).defs r=qM p.defs r:=by
 show List.find? _ (p.defs.filter _)=List.find? _ p.defs;rw[List.find?_filter]
 congr 1
 funext d;by_cases hd:d.id=r
 .simp[hd,h]
 .simp[hd]
theorem zRX(p:Prg)(t:Id):qM (woP p t).defs t=none:=by
 show List.find? _ (p.defs.filter _)=none;rw[jD5];intro d hd;have:=(List.mem_filter.1 hd).2
 simpa using this
theorem TyOk.sub{hs hs':wQ}(hn:hs'.Pairwise fun a b=>a.id≠b.id)(hm:∀h∈hs,h.kind=0\/h.kind=1->h∈hs'){r:Nat}{t:Typ}(h:TyOk hs r t):TyOk hs' r t:=by
 induction h with
 |int r=>exact .int _
 |bool r=>exact .bool _
 |list r t h ih=>exact .list _ _ ih
 |dfn r k h h1 h2 h3 h4 ih =>
  obtain⟨k',hk',e⟩:=jAl (hm hs[k] (jA0 h) (h2.imp id And.left));rw[<-e]at h2 h3 ih ⊢;refine .dfn r k' hk' (fun j hj=>?_) h2 h3 ih;exact jC0.1 hn j k' (by omega) hk' hj
variable{q:Prg}{env:wJ}{e:Exp}{u:Typ}
theorem WE.sub(h:∀(r:Id)(d:Dfn),qM p.defs r=some d->d.kind=0\/d.kind=1\/d.kind=2->qM q.defs r=some d)(he:WE p env e u):WE q env e u:=by
 induction he with
 |int env i n r u ns h1 h2=>exact .int _ _ _ _ _ _ h1 h2
 |bool env i n r u ns h=>exact .bool _ _ _ _ _ _ h
 |var env i n r u ns t h=>exact .var _ _ _ _ _ _ _ h
 |call env i n r u ks ns hn d hd hk hl hw ih=>exact .call _ _ _ _ _ _ _ hn d (h r d hd (.inr (.inr hk))) hk hl ih
 |op env i n r u ks ns hn ts t ho hl hw ih=>exact .op _ _ _ _ _ _ _ hn ts t ho hl ih
 |ite env i n r u a b c ns t ha hb hc iha ihb ihc=>exact .ite _ _ _ _ _ _ _ _ _ _ iha ihb ihc
 |lets env i n r u a b ns v t hf ha hb iha ihb=>exact .lets _ _ _ _ _ _ _ _ _ _ hf iha ihb
 |record env i n r u ks ns hn d hd hk hl hw ih=>exact .record _ _ _ _ _ _ _ hn d (h r d hd (.inl hk)) hk hl ih
 |field env i r u a ns d j hd hk hj ha ih=>exact .field _ _ _ _ _ _ d j (h r d hd (.inl hk)) hk hj ih
 |case env i r u a ns d j hd hk hj ha ih=>exact .case _ _ _ _ _ _ d j (h r d hd (.inr (.inl hk))) hk hj ih
 |mtch env i n r u a ks ns d t hf hd hk hl ha hw iha ih=>exact .mtch _ _ _ _ _ _ _ _ d t hf (h r d hd (.inr (.inl hk))) hk hl iha ih
 |list env i n r u ks ns t hn hw ih=>exact .list _ _ _ _ _ _ _ _ hn ih
 |fold env i n r u l s b ns v t hf hl hs hb ihl ihs ihb=>exact .fold _ _ _ _ _ _ _ _ _ _ _ hf ihl ihs ihb
theorem zTP{hs:wQ}(hf:Fit p hs){t:Id}(ht:∀d∈p.defs,d.id=t->d.kind=4):Fit (woP p t) ((woP p t).defs.map Dfn.hd):=by
 have hnd:(woP p t).defs.Pairwise fun a b=>a.id≠b.id:=hf.nd.filter _
 have hsub:∀d∈(woP p t).defs,d∈p.defs:=fun d hd=>(List.mem_filter.1 hd).1
 have hT:∀{r:Nat} {u:Typ},TyOk hs r u->TyOk ((woP p t).defs.map Dfn.hd) r u:=fun hu=>by
  refine hu.sub (jCw.2 (hnd.imp fun h=>h)) fun h hh hk=>?_
  rw[<-hf.heads]at hh;obtain⟨d,hd,rfl⟩:=jAf.1 hh;refine List.mem_map_of_mem (List.mem_filter.2 ⟨hd,?_⟩);have hk':d.kind=0\/d.kind=1:=hk;by_cases e:d.id=t
  .have:=ht d hd e;omega
  .simpa using e
 refine⟨rfl,jB1 (jBg _ _) hf.len8,hnd,fun d hd=>?_,fun d hd=>hf.kinds d (hsub d hd),fun r d hd hb=>?_⟩
 .obtain⟨s1,s2,s3,s4,s5⟩:=hf.slots d (hsub d hd);exact⟨s1,s2,s3,s4,fun s hs=>hT (s5 s hs)⟩
 .have hr:r≠t:=fun e=>by rw[e,zRX]at hd;cases hd
  rw[zKw hr]at hd;refine(hf.bods r d hd hb).sub fun r' d' hd' hk'=>?_
  have hr':r'≠t:=fun e=>by have h1:=(y8 hd');have:=ht d' h1.1 (h1.2.trans e);omega
  rw[zKw hr'];exact hd'
section
variable{p:Prg}{F:Int}{c:Nat}{m:Int}{ev:Evl}{e:Exp}{V:wP}{s:XS}
end
structure TwD(Q:Exp->Exp->Prop)(d d':Dfn):Prop where
 eq:d'=d.wb d'.body
 q:Q d.body d'.body
 no:eV d.kind=false->d'.body=d.body
variable{Q:Exp->Exp->Prop}
theorem TwD.s0{d d':Dfn}(h:TwD Q d d'):SameD0 d d':=by
 have al:∀l:List Slt,Al SameS l l:=fun l=>by
  induction l with
  |nil=>exact .nil
  |cons x l ih=>exact .cons ⟨rfl,rfl,rfl⟩ ih
 rw[h.eq];exact⟨rfl,rfl,al _,rfl⟩
theorem Al.refl{α:Type}{R : α->α->Prop}(h:∀a,R a a):∀l:List α,Al R l l
 |[]=>.nil
 |a::l=>.cons (h a) (Al.refl h l)
theorem Al.set{α:Type}{R : α->α->Prop}{l m:List α}(h:Al R l m):∀(i:Nat) (b : α),(∀a b0,l[i]?=some a->m[i]?=some b0->R a b0->R a b)->Al R l (m.set i b):=by
 induction h with
 |nil=>intro i b _;exact .nil
 | @cons a c l m h t ih =>
  intro i b hb;cases i with
  |zero=>exact .cons (hb a c rfl rfl h) t
  |succ i=>exact .cons h (ih i b fun a' b0 h1 h2=>hb a' b0 (by simpa using h1) (by simpa using h2))
theorem zPe(hs:∀e e' a x,0<=x->Q e e'->Q e (yT e' a x).1)(l:wC)(hl:∀x∈l,w64 x=x){ds es:wS}(h:Al (TwD Q) ds es)(i:Nat):Al (TwD Q) ds (r9 l es i):=by
 unfold r9;split
 .rename_i d hd;split
  .rename_i hk;refine h.set _ _ fun a b0 h1 h2 hR=>?_
   rw[hd]at h2;cases h2;refine⟨?_,hs _ _ _ _ (yN hl (by omega)).1 hR.q,fun hn=>?_⟩
   .rw[hR.eq];rfl
   .rw[hR.eq]at hk;rw[show (a.wb d.body).kind=a.kind from rfl,hn]at hk;cases hk
  .exact h
 .exact h
theorem zKo{Q:Exp->Exp->Prop}(hr:∀e,Q e e)(hs:∀e e' a x,0<=x->Q e e'->Q e (yT e' a x).1)(l:wC)(hl:∀x∈l,w64 x=x)(ds:wS):∀i:Nat,Al (TwD Q) ds (bU l ds i)
 | 0=>Al.refl (fun d=>⟨rfl,hr _,fun _=>rfl⟩) ds
 |i+1=>zPe hs l hl (zKo hr hs l hl ds i) i
def Ids(e e':Exp):Prop:=e'.id=e.id/\((aB e').map Exp.id).Perm ((aB e).map Exp.id)
theorem Ids.rfl'(e:Exp):Ids e e:=⟨rfl,.refl _⟩
theorem Ids.trans{a b c:Exp}(h:Ids a b)(k:Ids b c):Ids a c:=⟨k.1.trans h.1,k.2.trans h.2⟩
theorem zDp(e:Exp)(n:Int):Ids e (twN e n):=⟨rfl,by rw[fW,fW];exact .refl _⟩
theorem zQI(e:Exp)(x:Int):Ids e (yP e x):=by
 unfold yP;split
 .exact zDp _ _
 split
 .exact zDp _ _
 split
 .split
  .exact zDp _ _
  .split
   .exact zDp _ _
   .exact .rfl' _
 split
 .split
  .rename_i a b c hk;refine⟨rfl,?_⟩;rw[fW,fW,hk];show (e.id::(yR [a,c,b]).map Exp.id).Perm (e.id::(yR [a,b,c]).map Exp.id);refine .cons _ ?_;simp only[yR,jAs,jBh];exact .append_left _ jDl
  .exact .rfl' _
 .exact .rfl' _
mutual
theorem zGk:∀(e:Exp) (a x:Int),Ids e (yT e a x).1
 | .mk i k n r t ks ns,a,x=>by
  simp only[yT];split
  .exact zQI _ _
  .refine⟨rfl,?_⟩;simp only[aB,jAc];exact .cons _ (x6 ks (a-1) x)
theorem x6:∀(l:wH) (a x:Int),((yR (qN l a x).1).map Exp.id).Perm ((yR l).map Exp.id)
 |[],a,x=>.refl _
 |e::l,a,x=>by
  simp only[qN];split
  .simp only[yR,jBh];exact .append (zGk e a x).2 (x6 l _ x)
  .simp only[yR,jBh];exact .append (.refl _) (x6 l a x)
end
theorem qEW(key:∀r d,qM p.defs r=some d->∃d',qM q.defs r=some d'/\d'=d.wb d'.body)(h:WE p env e u):WE q env e u:=by
 induction h with
 |int env i n r u ns h1 h2=>exact .int _ _ _ _ _ _ h1 h2
 |bool env i n r u ns h=>exact .bool _ _ _ _ _ _ h
 |var env i n r u ns t h=>exact .var _ _ _ _ _ _ _ h
 |call env i n r u ks ns hn d hd hk hl hw ih =>
  obtain⟨d',hd',e⟩:=key r d hd;have hs:d'.slots=d.slots:=by rw[e];rfl
  have hr:d'.res=d.res:=by rw[e];rfl
  have hkk:d'.kind=2:=by rw[e];exact hk
  rw[<-hr];exact .call _ _ _ _ _ _ _ hn d' hd' hkk (by rw[hs];exact hl) fun j hj=>by simpa only[hs]using ih j hj
 |op env i n r u ks ns hn ts t ho hl hw ih=>exact .op _ _ _ _ _ _ _ hn ts t ho hl ih
 |ite env i n r u a b c ns t ha hb hc i1 i2 i3=>exact .ite _ _ _ _ _ _ _ _ _ _ i1 i2 i3
 |lets env i n r u a b ns v t hf ha hb i1 i2=>exact .lets _ _ _ _ _ _ _ _ _ _ hf i1 i2
 |record env i n r u ks ns hn d hd hk hl hw ih =>
  obtain⟨d',hd',e⟩:=key r d hd;have hs:d'.slots=d.slots:=by rw[e];rfl
  have hkk:d'.kind=0:=by rw[e];exact hk
  exact .record _ _ _ _ _ _ _ hn d' hd' hkk (by rw[hs];exact hl) fun j hj=>by simpa only[hs]using ih j hj
 |field env i r u a ns d j hd hk hj ha ih =>
  obtain⟨d',hd',e⟩:=key r d hd;have hs:d'.slots=d.slots:=by rw[e];rfl
  have hkk:d'.kind=0:=by rw[e];exact hk
  have:=WE.field env i r u a ns d' j hd' hkk (by rw[hs];exact hj) ih
  simpa only[hs]using this
 |case env i r u a ns d j hd hk hj ha ih =>
  obtain⟨d',hd',e⟩:=key r d hd;have hs:d'.slots=d.slots:=by rw[e];rfl
  have hkk:d'.kind=1:=by rw[e];exact hk
  exact .case _ _ _ _ _ _ d' j hd' hkk (by rw[hs];exact hj) (by simpa only[hs]using ih)
 |mtch env i n r u a ks ns d t hf hd hk hl ha hw i1 ih =>
  obtain⟨d',hd',e⟩:=key r d hd;have hs:d'.slots=d.slots:=by rw[e];rfl
  have hkk:d'.kind=1:=by rw[e];exact hk
  exact .mtch _ _ _ _ _ _ _ _ d' _ hf hd' hkk (by rw[hs];exact hl) i1 fun j hj=>by simpa only[hs]using ih j hj
 |list env i n r u ks ns t hn hw ih=>exact .list _ _ _ _ _ _ _ _ hn ih
 |fold env i n r u l s b ns v t hf hl hs hb i1 i2 i3=>exact .fold _ _ _ _ _ _ _ _ _ _ _ hf i1 i2 i3
def Tk(x:Int)(e e':Exp):Prop:=e'=e\/∃b,e'=(yT e b x).1
theorem b7(x:Int):∀(l:wH) (a:Int),Al (Tk x) l (qN l a x).1
 |[],a=>.nil
 |e::l,a=>by
  simp only[qN];split
  .exact .cons (.inr ⟨a,rfl⟩) (b7 x l _)
  .exact .cons (.inl rfl) (b7 x l _)
variable{x:Int}
theorem lU{e':Exp}{t:Typ}(h:WE q env e t)(ih:∀a,WE q env (yT e a x).1 t)(hk:Tk x e e'):WE q env e' t:=by
 rcases hk with rfl|⟨b,rfl⟩
 .exact h
 .exact ih b
theorem zFb{m:Int}(hx:0<=x)(hm:0<m):0<=x.tmod m/\x.tmod m<m:=⟨jDm m hx,Int.tmod_lt_of_pos x hm⟩
theorem qEO(hx:0<=x)(h:WE q env e u):∀a,WE q env (yT e a x).1 u:=by
 induction h with
 |int env i n r u ns h1 h2 =>
  intro a;have hm:=zFb hx (m:=9) (by omega);have hw:=z8 (x.tmod 9-4) (by omega);rw[aM];split
  .rw[show yP (.mk i 0 n r u [] ns) x=.mk i 0 (x.tmod 9-4) r u [] ns by simp[yP,twN,hw]];exact .int _ _ _ _ _ _ (by omega) (by omega)
  .exact .int _ _ _ _ _ _ h1 h2
 |bool env i n r u ns h =>
  intro a;have hw:=z8 (1-n) (by omega);rw[aM];split
  .rw[show yP (.mk i 1 n r u [] ns) x=.mk i 1 (1-n) r u [] ns by simp[yP,twN,hw]];exact .bool _ _ _ _ _ _ (by omega)
  .exact .bool _ _ _ _ _ _ h
 |var env i n r u ns t h =>
  intro a;rw[aM];split
  .exact .var _ _ _ _ _ _ _ h
  .exact .var _ _ _ _ _ _ _ h
 |call env i n r u ks ns hn d hd hk hl hw ih =>
  intro a;have hA:=b7 x ks (a-1);rw[aM];split
  .exact .call _ _ _ _ _ _ _ hn d hd hk hl hw
  .exact .call _ _ _ _ _ _ _ (by show (qN ks (a-1) x).1.length<=_;rw[hA.len];exact hn) d hd hk (by show (qN ks (a-1) x).1.length=_;rw[hA.len];exact hl) fun j hj =>
    lU (hw j (by rw[<-hA.len];exact hj)) (ih j (by rw[<-hA.len];exact hj)) (hA.get j _ hj)
 |op env i n r u ks ns hn ts t ho hl hw ih =>
  intro a;have hA:=b7 x ks (a-1);rw[aM];split
  .have hm:=zFb hx (m:=5) (by omega);have hop:∀n',OpT n' ts t->WE q env (.mk i 4 n' r u ks ns) t:=fun n' ho'=>.op _ _ _ _ _ _ _ hn ts t ho' hl hw
   cases ho with
   |arith n h1 h2 =>
    rw[show yP (.mk i 4 n r u ks ns) x=.mk i 4 (x.tmod 5) r u ks ns by simp[yP,twN,h2]];exact hop _ (.arith _ (by omega) (by omega))
   |less=>exact hop _ .less
   |same u'=>exact hop _ (.same u')
   |andor n h =>
    have hw15:=z8 (15-n) (by omega);have h4:¬n<=4:=by omega
    rw[show yP (.mk i 4 n r u ks ns) x=.mk i 4 (15-n) r u ks ns by simp[yP,twN,h4,h,hw15]];exact hop _ (.andor _ (by omega))
   |not=>exact hop _ .not
   |join t'=>exact hop _ (.join t')
   |len t'=>exact hop _ (.len t')
  .exact .op _ _ _ _ _ _ _ (by show (qN ks (a-1) x).1.length<=_;rw[hA.len];exact hn) ts t ho (by show (qN ks (a-1) x).1.length=_;rw[hA.len];exact hl) fun j hj =>
    lU (hw j (by rw[<-hA.len];exact hj)) (ih j (by rw[<-hA.len];exact hj)) (hA.get j _ hj)
 |ite env i n r u a b c ns t ha hb hc i1 i2 i3 =>
  intro m;rw[aM];split
  .exact .ite _ _ _ _ _ _ _ _ _ _ ha hc hb
  .have hA:=b7 x [a,b,c] (m-1);show WE q env (.mk i 5 n r u (qN [a,b,c] (m-1) x).1 ns) t;generalize (qN [a,b,c] (m-1) x).1=L at hA;cases hA with|cons k1 hA=>cases hA with|cons k2 hA=>cases hA with|cons k3 hA =>
   cases hA;exact .ite _ _ _ _ _ _ _ _ _ _ (lU ha i1 k1) (lU hb i2 k2) (lU hc i3 k3)
 |lets env i n r u a b ns v t hf ha hb i1 i2 =>
  intro m;rw[aM];split
  .exact .lets _ _ _ _ _ _ _ _ _ _ hf ha hb
  .have hA:=b7 x [a,b] (m-1);show WE q env (.mk i 6 n r u (qN [a,b] (m-1) x).1 ns) t;generalize (qN [a,b] (m-1) x).1=L at hA;cases hA with|cons k1 hA=>cases hA with|cons k2 hA =>
   cases hA;exact .lets _ _ _ _ _ _ _ _ _ _ hf (lU ha i1 k1) (lU hb i2 k2)
 |record env i n r u ks ns hn d hd hk hl hw ih =>
  intro a;have hA:=b7 x ks (a-1);rw[aM];split
  .exact .record _ _ _ _ _ _ _ hn d hd hk hl hw
  .exact .record _ _ _ _ _ _ _ (by show (qN ks (a-1) x).1.length<=_;rw[hA.len];exact hn) d hd hk (by show (qN ks (a-1) x).1.length=_;rw[hA.len];exact hl) fun j hj =>
    lU (hw j (by rw[<-hA.len];exact hj)) (ih j (by rw[<-hA.len];exact hj)) (hA.get j _ hj)
 |field env i r u a ns d j hd hk hj ha ih =>
  intro m;rw[aM];split
  .exact .field _ _ _ _ _ _ d j hd hk hj ha
  .have hA:=b7 x [a] (m-1);show WE q env (.mk i 8 j r u (qN [a] (m-1) x).1 ns) _;generalize (qN [a] (m-1) x).1=L at hA;cases hA with|cons k1 hA =>
   cases hA;exact .field _ _ _ _ _ _ d j hd hk hj (lU ha ih k1)
 |case env i r u a ns d j hd hk hj ha ih =>
  intro m;rw[aM];split
  .exact .case _ _ _ _ _ _ d j hd hk hj ha
  .have hA:=b7 x [a] (m-1);show WE q env (.mk i 9 j r u (qN [a] (m-1) x).1 ns) _;generalize (qN [a] (m-1) x).1=L at hA;cases hA with|cons k1 hA =>
   cases hA;exact .case _ _ _ _ _ _ d j hd hk hj (lU ha ih k1)
 |mtch env i n r u a ks ns d t hf hd hk hl ha hw i1 ih =>
  intro m;rw[aM];split
  .exact .mtch _ _ _ _ _ _ _ _ d _ hf hd hk hl ha hw
  .have hA:=b7 x (a::ks) (m-1);show WE q env (.mk i 10 n r u (qN (a::ks) (m-1) x).1 ns) _;generalize (qN (a::ks) (m-1) x).1=L at hA;cases hA with | @cons _ a' _ ks' k1 hA =>
   exact .mtch _ _ _ _ _ _ _ _ d _ hf hd hk (by rw[hA.len];exact hl) (lU ha i1 k1) fun j hj=>lU (hw j (by rw[<-hA.len];exact hj)) (ih j (by rw[<-hA.len];exact hj)) (hA.get j _ hj)
 |list env i n r u ks ns t hn hw ih =>
  intro a;have hA:=b7 x ks (a-1);rw[aM];split
  .exact .list _ _ _ _ _ _ _ _ hn hw
  .exact .list _ _ _ _ _ _ _ _ (by show (qN ks (a-1) x).1.length<=_;rw[hA.len];exact hn) fun j hj=>lU (hw j (by rw[<-hA.len];exact hj)) (ih j (by rw[<-hA.len];exact hj)) (hA.get j _ hj)
 |fold env i n r u l s b ns v t hf hl hs hb i1 i2 i3 =>
  intro m;rw[aM];split
  .exact .fold _ _ _ _ _ _ _ _ _ _ _ hf hl hs hb
  .have hA:=b7 x [l,s,b] (m-1);show WE q env (.mk i 12 n r u (qN [l,s,b] (m-1) x).1 ns) t;generalize (qN [l,s,b] (m-1) x).1=L at hA;cases hA with|cons k1 hA=>cases hA with|cons k2 hA=>cases hA with|cons k3 hA =>
   cases hA;exact .fold _ _ _ _ _ _ _ _ _ _ _ hf (lU hl i1 k1) (lU hs i2 k2) (lU hb i3 k3)
end Go.Proofs.YtolkhapmieigcaaGreatDoor
namespace Go.Proofs.YtolkhapmieigcaaGreatDoor
open Go Go.Abs
end Go.Proofs.YtolkhapmieigcaaGreatDoor
namespace Go.Proofs.YtolkhapmieigcaaGreatDoor
open Go.Abs
@[simp]theorem qJU:zA Tryz.prog 225=true:=by kernel_rfl
def tW(a b:wI):Int:=orI [bN (uD 0 a) (uD 0 b),aW a b]
theorem rJ:Lin tW:=zXg (fun l=>uD 0 l) zO2
end Go.Proofs.YtolkhapmieigcaaGreatDoor
