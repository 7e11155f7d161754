/-
  Programs that differ in names alone: the same types, the same runs, and nothing has changed.
  The reference's evaluator: nodes.
  The reference's Call.
  The reference tracer's Call returns what the program's does.
  The law TraceCalls, walked.
  The law TraceNames, walked.
-/
import Derived.Test.YthglhccibdlccaaGreatDoorX45
import Derived.Test.YthglhccibdlccaaGreatDoorX42
import Derived.Test.YthglhccibdlccaaGreatDoorX36
import Derived.Test.YthglhccibdlccaaGreatDoorX43
import Derived.Test.YthglhccibdlccaaGreatDoorX28
set_option linter.unusedVariables false
set_option linter.unusedSimpArgs false
namespace Go.Proofs.YthglhccibdlccaaGreatDoor
open Go.Abs
inductive Al {α : Type}(R : α→α→Prop):List α→List α→Prop
 | nil:Al R [] []
 | cons {a b : α} {l m:List α} (h:R a b) (t:Al R l m):Al R (a::l) (b::m)
section
variable {α : Type}{R : α→α→Prop}
theorem Al.len {l m:List α}(h:Al R l m):m.length=l.length:=by
 induction h with
 | nil=>rfl
 | cons _ _ ih=>simp[ih]
theorem Al.append {l m l' m':List α}(h:Al R l m)(h':Al R l' m'):Al R (l++l') (m++m'):=by
 induction h with
 | nil=>exact h'
 | cons h _ ih=>exact .cons h ih
theorem Al.map {β : Type}{f g : α→β}(hf:∀a b,R a b→g b=f a){l m:List α}(h:Al R l m):m.map g=l.map f:=by
 induction h with
 | nil=>rfl
 | cons h _ ih=>simp only[List.map_cons,ih,hf _ _ h]
theorem Al.get {l m:List α}(h:Al R l m):∀(i:Nat) (h1:i<l.length) (h2:i<m.length),R l[i] m[i]:=by
 induction h with
 | nil=>intro i h1; simp at h1
 | cons h _ ih =>
  intro i h1 h2;cases i with
  | zero=>exact h
  | succ i=>exact ih i (by simpa using h1) (by simpa using h2)
theorem Al.mem {l m:List α}(h:Al R l m){b : α}(hb:b∈m):∃a∈l,R a b:=by obtain⟨i,hi,rfl⟩:=List.getElem_of_mem hb;exact⟨_,List.getElem_mem (by rw[←h.len]; exact hi),h.get i _ hi⟩
theorem Al.pair {l m:List α}{S : α→α→Prop}(hS:∀a b a' b',R a b→R a' b'→S a a'→S b b')(h:Al R l m)(hp:l.Pairwise S):m.Pairwise S:=by rw[List.pairwise_iff_getElem]at hp ⊢;intro i j hi hj hij;exact hS _ _ _ _ (h.get i (by rw[←h.len]; exact hi) hi) (h.get j (by rw[←h.len]; exact hj) hj) (hp i j _ _ hij)
theorem Al.find {idf : α→Id}(hR:∀a b,R a b→idf b=idf a){l m:List α}(h:Al R l m)(x:Id) :
 (zAg idf l x=none∧zAg idf m x=none)∨∃a b,zAg idf l x=some a∧zAg idf m x=some b∧R a b:=by
 induction h with
 | nil=>exact .inl ⟨rfl,rfl⟩
 | @cons a b l m h t ih =>
  have e:=hR a b h;simp only[zAg,List.find?_cons,e];by_cases hx:idf a=x
  ·exact .inr ⟨a,b,by simp[hx],by simp[hx],h⟩
  ·simp only[hx,decide_false];exact ih
theorem Al.mapIdx {f:Nat→α→α}(hf:∀i a,R a (f i a)):∀(l:List α),Al R l (l.mapIdx f)
 | []=>.nil
 | a::l=>by rw[List.mapIdx_cons];exact .cons (hf 0 a) (Al.mapIdx (f:=fun i=>f (i+1)) (fun i a=>hf (i+1) a) l)
end
structure SameS (s s':Slt):Prop where
 id:s'.id=s.id
 typ:s'.typ=s.typ
 most:s'.most=s.most
def zN3 (e e':Exp):Prop:=∃t,e'=zA4 t e
structure SameD (d d':Dfn):Prop where
 id:d'.id=d.id
 kind:d'.kind=d.kind
 slots:Al SameS d.slots d'.slots
 res:d'.res=d.res
 body:zN3 d.body d'.body
abbrev zJz (p q:Prg):Prop:=Al SameD p.defs q.defs
theorem zT4 (n:Int)(p:Prg):zJz p (zLy n p):=by
 show Al SameD p.defs (zCs n _ p.defs);unfold zCs;refine Al.mapIdx (fun i d=>⟨rfl,rfl,?_,rfl,⟨_,rfl⟩⟩) _;show Al SameS d.slots (slN n d.slots d.slots.length);unfold slN;refine Al.mapIdx (fun k s=>?_) _;by_cases h:k<d.slots.length
 ·rw[if_pos h]; exact⟨rfl,rfl,rfl⟩
 ·rw[if_neg h]; exact⟨rfl,rfl,rfl⟩
theorem zAB (t:ByteArray)(i:Id)(k n:Int)(r:Id)(u:Typ)(ks:List Exp)(ns:List ByteArray):zA4 t (.mk i k n r u ks ns)=.mk i k n r u (ks.map (zA4 t)) (ns.map fun _=>t):=by rw[zA4,zKr]
theorem zKs (t:ByteArray)(e:Exp):(zA4 t e).id=e.id:=by cases e; rw[zAB]; rfl
theorem zWi (t:ByteArray)(e:Exp):(zA4 t e).k=e.k:=by cases e; rw[zAB]; rfl
theorem zWj (t:ByteArray)(e:Exp):(zA4 t e).n=e.n:=by cases e; rw[zAB]; rfl
theorem zRL (t:ByteArray)(e:Exp):(zA4 t e).ref=e.ref:=by cases e; rw[zAB]; rfl
theorem zY2 (t:ByteArray)(e:Exp):(zA4 t e).typ=e.typ:=by cases e; rw[zAB]; rfl
theorem zKt (t:ByteArray)(e:Exp):(zA4 t e).kids=e.kids.map (zA4 t):=by cases e; rw[zAB]; rfl
theorem zKu (t:ByteArray):zA4 t .zero=.zero:=by simp[Exp.zero,zAB]
theorem zWh (t:ByteArray):∀l:List Exp,(l.map (zA4 t)).headD .zero=zA4 t (l.headD .zero)
 | []=>(zKu t).symm
 | _::_=>rfl
theorem zRK (t:ByteArray):∀(l:List Exp) (i:Nat),(l.map (zA4 t)).getD i .zero=zA4 t (l.getD i .zero)
 | [],i=>by simp[zKu]
 | _::_,0=>rfl
 | _::l,i+1=>by simpa using zRK t l i
theorem zT9 {a b:Slt}(h:SameS a b):zF1 a b=true:=by simp[zF1,h.id,h.typ,h.most,zGC]
theorem zXj {α : Type}{R : α→α→Prop}{same : α→α→Bool}(hs:∀a b,R a b→same a b=true){l m:List α}(h:Al R l m):zB4 same l m=true:=by
 induction h with
 | nil=>rfl
 | cons h _ ih=>simp only[zB4,hs _ _ h,ih,Bool.and_self]
theorem zQL {a b:Dfn}(h:SameD a b):zB0 a b=true:=by
 obtain⟨t,ht⟩:=h.body;have hb:b.body.id=a.body.id:=by rw[ht,zKs]
 simp[zB0,h.kind,h.res,hb,zGC,zXj (fun _ _=>zT9) h.slots]
theorem zN5 {same:Exp→Exp→Bool}{f:Exp→Exp}(hs:∀a,same a (f a)=true):∀l:List Exp,zB4 same l (l.map f)=true
 | []=>rfl
 | a::l=>by simp only[List.map_cons,zB4,hs a,zN5 hs l,Bool.and_self]
theorem zQM {a b:Exp}(h:zN3 a b):zB1 a b=true:=by obtain⟨t,rfl⟩:=h;simp[zB1,zWi,zWj,zRL,zY2,zKt,zGC,zN5 (same:=zJb) (f:=zA4 t) (fun a=>by simp[zJb,zKs])]
mutual
theorem zL6 (t:ByteArray):∀e:Exp,Al zN3 (zAJ e) (zAJ (zA4 t e))
 | .mk i k n r u ks ns=>by rw[zAB,zAJ,zAJ];exact .cons ⟨t,(zAB t i k n r u ks ns).symm⟩ (zJ6 t ks)
theorem zJ6 (t:ByteArray):∀l:List Exp,Al zN3 (zAK l) (zAK (l.map (zA4 t)))
 | []=>.nil
 | e::l=>by rw[List.map_cons,zAK,zAK];exact(zL6 t e).append (zJ6 t l)
end
theorem zOL {l m:List Dfn}(h:Al SameD l m):Al zN3 (zA0 l) (zA0 m):=by
 induction h with
 | nil=>exact .nil
 | @cons a b l m h _ ih =>
  have e:∀(x:Dfn) (L:List Dfn),zA0 (x::L)=(if zBO x.kind then zAJ x.body else [])++zA0 L:=fun _ _=>rfl
  rw[e,e,h.kind];refine Al.append ?_ ih;obtain⟨t,ht⟩:=h.body;by_cases hb:zBO a.kind=true
  ·rw[if_pos hb,if_pos hb,ht]; exact zL6 t a.body
  ·rw[if_neg hb,if_neg hb]; exact .nil
theorem zRO {α : Type}{idf : α→Id}{same : α→α→Bool}{R : α→α→Prop}(hi:∀a b,R a b→idf b=idf a)(hs:∀a b,R a b→same a b=true)(hc:∀a b,same a b=same b a){P Q:List α}(h:Al R P Q)(x:Id) :
 x∉zLw idf same P Q∧x∉zLw idf same Q P:=by
 rcases h.find hi x with ⟨h1,h2⟩ | ⟨a,b,h1,h2,hR⟩
 ·constructor<;>intro hx<;>rw[zHw]at hx<;>obtain⟨c,hc',_⟩:=hx
  ·rw[h1]at hc'; cases hc'
  ·rw[h2]at hc'; cases hc'
 ·constructor<;>intro hx<;>rw[zHw]at hx<;>obtain⟨c,hc',hn⟩:=hx
  ·rw[h1]at hc'; cases hc';have:=hn b h2;rw[hs _ _ hR]at this; cases this
  ·rw[h2]at hc'; cases hc';have:=hn a h1;rw[hc,hs _ _ hR]at this; cases this
theorem zS6 {p q:List Dfn}(h:Al SameD p q):zMH p q=[]∧zMH q p=[]:=by
 have h1:=zRO (idf:=Dfn.id) (same:=zB0) (fun _ _ h=>h.id) (fun _ _=>zQL) zJa h;have h2:=zRO (idf:=Exp.id) (same:=zB1) (fun _ _ ⟨t,ht⟩=>by rw[ht,zKs]) (fun _ _=>zQM) zJc (zOL h);have key:∀(L:List Id),(∀x,x∉L)→L=[]:=fun L hL=>by
  cases L with
  | nil=>rfl
  | cons x L=>exact(hL x (by simp)).elim
 constructor
 ·refine key _ fun x hx=>?_
  rw[←zRv,zCt,zRF]at hx;simp only[List.mem_append]at hx;rcases hx with (hx | hx) | (hx | hx)
  ·exact(h1 x).1 hx
  ·exact(h2 x).1 hx
  ·exact(h1 x).2 hx
  ·exact(h2 x).2 hx
 ·refine key _ fun x hx=>?_
  rw[←zRv,zCt,zRF]at hx;simp only[List.mem_append]at hx;rcases hx with (hx | hx) | (hx | hx)
  ·exact(h1 x).2 hx
  ·exact(h2 x).2 hx
  ·exact(h1 x).1 hx
  ·exact(h2 x).1 hx
section
variable {p q:Prg}(hA:zJz p q)
include hA
theorem zDy (r:Id):(yV p.defs r=none∧yV q.defs r=none)∨∃d d',yV p.defs r=some d∧yV q.defs r=some d'∧SameD d d' :=
 Al.find (idf:=Dfn.id) (fun _ _ h=>h.id) hA r
theorem zJH (r:Id):SameD (dfn p r) (dfn q r):=by
 unfold dfn;rcases zDy hA r with ⟨h1,h2⟩ | ⟨d,d',h1,h2,h⟩
 ·rw[h1,h2]; exact⟨rfl,rfl,.nil,rfl,⟨⟨#[]⟩,(zKu _).symm⟩⟩
 ·rw[h1,h2]; exact h
theorem zJe:∀(n:Nat) (t:Typ),jP q n t=jP p n t
 | 0,t=>rfl
 | n+1,t=>by
  have hk:zD0 (yV q.defs t.id)=zD0 (yV p.defs t.id):=by
   rcases zDy hA t.id with ⟨h1,h2⟩ | ⟨d,d',h1,h2,h⟩
   ·rw[h1,h2]
   ·rw[h1,h2]; simp[zD0,h.kind]
  have ih:=zJe n;simp only[jP,hk,ih]
end
mutual
theorem zG3 {p q:Prg}(hA:zJz p q):∀(v:Val) (t:Typ),zBq q t v=zBq p t v
 | .mk k n l,t=>by
  have hd:=zJH hA t.id;have hv:validT q t=validT p t:=zJe hA 24 t;have hm:(dfn q t.id).slots.map Slt.typ=(dfn p t.id).slots.map Slt.typ:=hd.slots.map fun _ _ h=>h.typ
  rw[zBq,zBq,hv,hd.kind,hd.slots.len,hm,zJT hA l,zQe hA l,zG2 hA l]
theorem zJT {p q:Prg}(hA:zJz p q):∀(l:List Val) (t:Typ),zFn q t l=zFn p t l
 | [],t=>by rw[zFn,zFn]
 | v::l,t=>by rw[zFn,zFn,zG3 hA v,zJT hA l]
theorem zQe {p q:Prg}(hA:zJz p q):∀(l:List Val) (o:Option Typ),zDL q o l=zDL p o l
 | [],none=>by rw[zDL,zDL]<;>simp
 | [],some t=>by rw[zDL,zDL]<;>simp
 | v::l,none=>by rw[zDL,zDL]<;>simp
 | v::l,some t=>by rw[zDL,zDL,zG3 hA v]
theorem zG2 {p q:Prg}(hA:zJz p q):∀(l:List Val) (ts:List Typ),zAY q ts l=zAY p ts l
 | [],[]=>by rw[zAY,zAY]<;>simp
 | [],t::ts=>by rw[zAY,zAY]<;>simp
 | v::l,[]=>by rw[zAY,zAY]<;>simp
 | v::l,t::ts=>by rw[zAY,zAY,zG3 hA v,zG2 hA l]
end
section
variable {p q:Prg}(hA:zJz p q)
include hA
omit hA in
theorem zOf {f g:List Id→Typ→List Id}(hf:∀L t,g L t=f L t){l m:List Slt}(h:Al SameS l m):∀L:List Id,m.foldl (fun L s=>g L s.typ) L=l.foldl (fun L s=>f L s.typ) L:=by
 induction h with
 | nil=>intro L; rfl
 | cons h _ ih=>intro L; rw[List.foldl_cons,List.foldl_cons,h.typ,hf,ih]
theorem zIU:∀(n:Nat) (t:Typ) (L:List Id),yR q n t L=yR p n t L
 | 0,t,L=>rfl
 | n+1,t,L=>by
  have ih:=zIU n;have hk:(fun(L:List Id) k=>yR q n k L)=fun L k=>yR p n k L:=by funext L k; exact ih k L
  have hs:=zOf (f:=fun L t=>yR p n t L) (g:=fun L t=>yR q n t L) (fun L t=>ih t L) (zJH hA t.id).slots;simp only[yR,hk,hs]
theorem zPa {l m:List Slt}(h:Al SameS l m)(L:List Id):zCr q m L=zCr p l L :=
 zOf (f:=fun L t=>yR p 10 t L) (g:=fun L t=>yR q 10 t L) (fun L t=>zIU hA 10 t L) h L
end
section
variable {ev ev':Evl}(hE:∀t e V s,ev' (zA4 t e) V s=ev e V s)
include hE
theorem zN6 (t:ByteArray)(V:List EVar):∀(l:List Exp) (s:XS),jQ ev' V (l.map (zA4 t)) s=jQ ev V l s
 | [],s=>rfl
 | e::l,s=>by simp only[List.map_cons,jQ,hE,zN6 t V l]
theorem zLO (t:ByteArray)(V:List EVar)(i:Id)(b:Exp):∀(l:List Val) (r:Val×XS),zAz ev' V i (zA4 t b) l r=zAz ev V i b l r
 | [],r=>rfl
 | x::l,r=>by simp only[zAz,hE,zLO t V i b l]
omit hE in
theorem zSB {l m:List Slt}(h:Al SameS l m):∀vs:List Val,zC6 m vs=zC6 l vs:=by
 induction h with
 | nil=>intro vs; rfl
 | cons h _ ih =>
  intro vs;cases vs with
  | nil=>rfl
  | cons v vs =>
   have:=ih vs;simp only[zC6,List.zipWith_cons_cons,h.id]at this ⊢;rw[this]
theorem zL7 {d d':Dfn}(h:SameD d d')(vs:List Val)(s:XS):zCw ev' d' vs s=zCw ev d vs s:=by obtain⟨t,ht⟩:=h.body;simp only[zCw,ht,hE,h.id,zSB h.slots]
theorem zNE (t:ByteArray)(e:Exp)(V:List EVar)(s:XS):jX ev' (zA4 t e) V s=jX ev e V s:=by simp only[jX,zWi,zKt,zWh,zRK,zKs,zWj,hE,zLO hE]
theorem zQY {p q:Prg}(hA:zJz p q)(fl:Nat)(t:ByteArray)(e:Exp)(V:List EVar)(s:XS):qV q fl ev' (zA4 t e) V s=qV p fl ev e V s:=by simp only[qV,zWi,zKt,zWj,zRL,zNE hE,zN6 hE,zL7 hE (zJH hA e.ref)]
end
theorem zMn {p q:Prg}(hA:zJz p q)(fl:Nat):∀(m:Nat) (t:ByteArray) (e:Exp) (V:List EVar) (s:XS),zBR q fl m (zA4 t e) V s=zBR p fl m e V s
 | 0,t,e,V,s=>rfl
 | m+1,t,e,V,s=>by
  have ht:zEX (zA4 t e) s=zEX e s:=by simp only[zEX,zKs]
  simp only[zBR,ht,zQY (zMn hA fl m) hA]
theorem zPJ {p q:Prg}(hA:zJz p q)(id:Id)(vs:List Val)(fuel:Int):zDt q id vs fuel=zDt p id vs fuel:=by
 unfold zDt;rcases zDy hA id with ⟨h1,h2⟩ | ⟨d,d',h1,h2,h⟩
 ·rw[h1,h2]
 ·rw[h1,h2];have hm:d'.slots.map Slt.typ=d.slots.map Slt.typ:=h.slots.map fun _ _ h=>h.typ
  simp only[h.kind,h.slots.len,hm,zG2 hA,zQJ,zPa hA h.slots,zL7 (zMn hA 1 fuel.toNat) h]
theorem qC0 {α β : Type}{R : α→α→Prop}{f : α→β}(hf:∀a b,R a b→f b=f a){l m:List α}(h:Al R l m)(i:Nat)(h1:i<l.length)(h2:i<m.length):f m[i]=f l[i]:=hf _ _ (h.get i h1 h2)
theorem qBm {p q:Prg}(hA:zJz p q)(t:ByteArray){env:List Bnd}{e:Exp}{u:Typ}(h:WE p env e u):WE q env (zA4 t e) u:=by
 have key:∀{r:Id} {d:Dfn},yV p.defs r=some d→∃d',yV q.defs r=some d'∧SameD d d':=fun {r d} hd=>by
  rcases zDy hA r with ⟨h1,_⟩ | ⟨a,b,h1,h2,h⟩
  ·rw[h1]at hd; cases hd
  ·rw[h1]at hd; cases hd; exact⟨b,h2,h⟩
 induction h with
 | int env i n r u ns h1 h2=>rw[zAB]; exact .int _ _ _ _ _ _ h1 h2
 | bool env i n r u ns h=>rw[zAB]; exact .bool _ _ _ _ _ _ h
 | var env i n r u ns t h=>rw[zAB]; exact .var _ _ _ _ _ _ _ h
 | call env i n r u ks ns hn d hd hk hl hw ih =>
  obtain⟨d',hd',hs⟩:=key hd;have hm:d'.slots.map Slt.typ=d.slots.map Slt.typ:=hs.slots.map fun _ _ h=>h.typ
  rw[zAB,←hs.res];refine .call _ _ _ _ _ _ _ (by simpa using hn) d' hd' (hs.kind.trans hk) (by rw[hm]; simpa using hl) fun j hj=>?_
  have hj':j<ks.length:=by simpa using hj
  have:=ih j hj'
  simpa [hm] using this
 | op env i n r u ks ns hn ts t ho hl hw ih =>
  rw[zAB];refine .op _ _ _ _ _ _ _ (by simpa using hn) ts t ho (by simpa using hl) fun j hj=>?_
  have hj':j<ks.length:=by simpa using hj
  simpa using ih j hj'
 | ite env i n r u a b c ns t ha hb hc i1 i2 i3=>rw[zAB]; exact .ite _ _ _ _ _ _ _ _ _ _ i1 i2 i3
 | lets env i n r u a b ns v t hf ha hb i1 i2=>rw[zAB]; exact .lets _ _ _ _ _ _ _ _ _ _ hf i1 i2
 | record env i n r u ks ns hn d hd hk hl hw ih =>
  obtain⟨d',hd',hs⟩:=key hd;have hm:d'.slots.map Slt.typ=d.slots.map Slt.typ:=hs.slots.map fun _ _ h=>h.typ
  rw[zAB];refine .record _ _ _ _ _ _ _ (by simpa using hn) d' hd' (hs.kind.trans hk) (by rw[hm]; simpa using hl) fun j hj=>?_
  have hj':j<ks.length:=by simpa using hj
  simpa [hm] using ih j hj'
 | field env i r u a ns d j hd hk hj ha ih =>
  obtain⟨d',hd',hs⟩:=key hd;have hj':j<d'.slots.length:=by rw[hs.slots.len]; exact hj
  rw[zAB,←qC0 (f:=Slt.typ) (fun _ _ h=>h.typ) hs.slots j hj hj'];exact .field _ _ _ _ _ _ d' j hd' (hs.kind.trans hk) hj' ih
 | case env i r u a ns d j hd hk hj ha ih =>
  obtain⟨d',hd',hs⟩:=key hd;have hj':j<d'.slots.length:=by rw[hs.slots.len]; exact hj
  rw[zAB];refine .case _ _ _ _ _ _ d' j hd' (hs.kind.trans hk) hj' ?_;rw[qC0 (f:=Slt.typ) (fun _ _ h=>h.typ) hs.slots j hj hj'];exact ih
 | mtch env i n r u a ks ns d t hf hd hk hl ha hw i1 ih =>
  obtain⟨d',hd',hs⟩:=key hd;rw[zAB];refine .mtch _ _ _ _ _ _ _ _ d' _ hf hd' (hs.kind.trans hk) (by rw[List.length_map,hs.slots.len]; exact hl) i1 fun j hj=>?_
  have hj':j<ks.length:=by simpa using hj
  have hjd:j<d.slots.length:=hl▸hj';have hjd':j<d'.slots.length:=by rw[hs.slots.len]; exact hjd
  have:=ih j hj';rw[←qC0 (f:=Slt.typ) (fun _ _ h=>h.typ) hs.slots j hjd hjd']at this
  simpa using this
 | list env i n r u ks ns t hn hw ih =>
  rw[zAB];refine .list _ _ _ _ _ _ _ _ (by simpa using hn) fun j hj=>?_
  have hj':j<ks.length:=by simpa using hj
  simpa using ih j hj'
 | fold env i n r u l s b ns v t hf hl hs hb i1 i2 i3=>rw[zAB]; exact .fold _ _ _ _ _ _ _ _ _ _ _ hf i1 i2 i3
theorem zSp {hs hs':List Hd}(hl:hs'.length=hs.length)(h1:∀(k:Nat)(a:k<hs.length)(b:k<hs'.length),hs'[k].id=hs[k].id∧hs'[k].kind=hs[k].kind∧Al SameS hs[k].slots hs'[k].slots){r:Nat}{t:Typ}(h:TyOk hs r t):TyOk hs' r t:=by
 induction h with
 | int r=>exact .int _
 | bool r=>exact .bool _
 | list r t _ ih=>exact .list _ _ ih
 | dfn r k h n1 h2 h3 h4 ih =>
  have h':k<hs'.length:=by omega
  obtain⟨a1,a2,a3⟩:=h1 k h h';rw[←a1];refine .dfn r k h' (fun j hj=>?_) (by rw[a2,a3.len]; exact h2) (by rw[a3.len]; exact h3) fun s hs=>?_
  ·rw[a1,(h1 j (by omega) (by omega)).1]; exact n1 j hj
  ·obtain⟨s0,hs0,hS⟩:=a3.mem hs;rw[hS.typ];exact ih s0 hs0
theorem zSD {d d':Dfn}(h:SameD d d'):zBe d'=zBe d:=h.slots.map fun a b h=>by rw[h.id,h.typ]
theorem Fit.same {p q:Prg}{hs:List Hd}(hA:zJz p q)(h:Fit p hs):Fit q (q.defs.map Dfn.hd):=by
 have hl:=hA.len;have hhs:hs=p.defs.map Dfn.hd:=h.heads.symm;have hT:∀{r:Nat} {t:Typ},TyOk hs r t→TyOk (q.defs.map Dfn.hd) r t:=fun ht=>by
  refine zSp (by rw[hhs]; simp[hl]) (fun k a b=>?_) ht;have a':k<p.defs.length:=by rw[hhs]at a; simpa using a
  have b':k<q.defs.length:=by simpa using b
  have e1:hs[k]=p.defs[k].hd:=by simp[hhs]
  have e2:(q.defs.map Dfn.hd)[k]=q.defs[k].hd:=by simp
  rw[e1,e2];have hk:=hA.get k a' b';exact⟨hk.id,hk.kind,hk.slots⟩
 refine⟨rfl,by rw[hl]; exact h.len5,by rw[hl]; exact h.len8,hA.pair (fun a b a' b' r1 r2 hne=>by rw[r1.id,r2.id]; exact hne) h.nd,fun d hd=>?_,fun d hd=>?_,fun r d hd hb=>?_⟩
 ·obtain⟨a,ha,hS⟩:=hA.mem hd;obtain⟨s1,s2,s3,s4,s5⟩:=h.slots a ha;rw[hS.slots.len,hS.kind];refine⟨s1,s2,s3,hS.slots.pair (fun a b a' b' r1 r2 hne=>by rw[r1.id,r2.id]; exact hne) s4,fun s hs=>?_⟩;obtain⟨s0,hs0,hs'⟩:=hS.slots.mem hs;have:=hT (s5 s0 hs0);rw[hs'.typ];exact this
 ·obtain⟨a,ha,hS⟩:=hA.mem hd;rw[hS.kind];exact h.kinds a ha
 ·rcases zDy hA r with ⟨_,h2⟩ | ⟨a,b,h1,h2,hS⟩
  ·rw[h2]at hd; cases hd
  ·rw[h2]at hd; cases hd;obtain⟨t,ht⟩:=hS.body;rw[zSD hS,ht,hS.res];refine qBm hA t (h.bods r a h1 ?_)
   simpa [zC0,hS.kind] using hb
section
variable {p:Prg}{F:Int}{c:Nat}{m:Int}{ev:Evl}{e:Exp}{V:List EVar}{s:XS}
@[simp] theorem qOj:zA Tryz.prog 137=true:=by kernel_rfl
end
section
variable {p:Prg}{ev:Evl}
end
@[simp] theorem qOi:zA Tryz.prog 49=true:=by kernel_rfl
@[simp] theorem qO1:zA Tryz.prog 14=true:=by kernel_rfl
theorem zHL (x:Int):zBA x x=0:=by simp[zBA]
mutual
theorem zLC:∀v:Val,zJf v v=0
 | .mk k n l=>by rw[zJf,zHL,zHL,zHL,if_neg (by simp[orI])]; exact zJA l
theorem zJA:∀l:List Val,zCx l l=0
 | []=>by rw[zCx]
 | v::l=>by rw[zCx,zLC v,if_neg (by simp)]; exact zJA l
end
@[simp] theorem qKr:zA Tryz.prog 3=true:=by kernel_rfl
def zUe:K:=(Z (K.dops [(0,1,J 49 11 2),(1,1,D 50 12 0),(2,1,J 51 50 3),(3,0,M 52 13),(4,0,M 53 16),(5,0,M 54 17),(6,1,kX 55 53 54 1),(7,1,L 56 55 1),(8,1,kC 57 13 [(kt 49),(kt 51),(kt 52),(kt 56)]),(9,0,M 48 57),(10,0,kE 58 48 0),(11,0,kE 59 48 1),(12,0,kE 60 48 2),(13,303,⟨none,.alr (some 18) 3 [ki,ki,kl]⟩),(14,304,⟨none,.alr (some 19) 4 [kl,kl]⟩),(15,0,S 18 58 3),(16,0,S 19 59 2),(17,0,M 20 60)]) (Z (K.dops [(0,1,J 62 15 2),(1,1,D 63 12 0),(2,1,J 64 63 3),(3,0,M 65 13),(4,0,M 66 16),(5,0,M 67 17),(6,1,kX 68 66 67 1),(7,1,L 69 68 1),(8,1,kC 70 13 [(kt 62),(kt 64),(kt 65),(kt 69)]),(9,0,M 61 70),(10,0,kE 71 61 0),(11,0,kE 72 61 1),(12,0,kE 73 61 2),(13,305,⟨none,.alr (some 21) 5 [ki,ki,kl]⟩),(14,306,⟨none,.alr (some 22) 6 [kl,kl]⟩),(15,0,S 21 71 3),(16,0,S 22 72 2),(17,0,M 23 73)]) (Z (K.dops [(0,0,M 74 20),(1,0,M 75 23),(2,0,kQ 76 74 75 true),(3,0,M 77 76),(4,0,T 77 false (J 78 18 3)),(5,0,T 77 false (J 79 21 3)),(6,0,T 77 false (kC 80 15 [(kt 78),(kt 79)])),(7,0,T 77 false (kQi 81 80 0 true)),(8,0,kPt 82 77 81),(9,0,M 83 82),(10,0,T 83 false (J 84 19 2)),(11,0,T 83 false (kC 85 17 [(kt 84)])),(12,0,T 83 false (J 86 22 2)),(13,0,T 83 false (kC 87 17 [(kt 86)])),(14,0,T 83 false (kC 88 16 [(kt 85),(kt 87)])),(15,0,T 83 false (kR 89 88)),(16,0,kPt 90 83 89)]) (Y 90 (G [kMb 10 false] kr) ks))))
def zZB:K:=G [kMb 10 false] (G [M 24 0,kC 25 9 [(kt 24)],kZ 11 [kl,kl],S 11 25 2] (G [J 27 11 2,M 28 1,M 29 2,kC 30 10 [(kt 27),(kt 28),(kt 29)],M 26 30,kE 31 26 0,kE 32 26 1,kE 33 26 2,kZ 12 kz0,S 12 31 31,M 13 32,M 14 33] (Z (G [M 34 14,kR 35 34] (Y 35 (G [kC 36 11 [],M 10 36] kr) ks)) (Z (K.dops [(0,1,J 37 11 2),(1,0,M 38 3),(2,1,kC 39 12 [(kt 38),(kc 50)]),(3,1,kC 40 19 [(kt 37),(kt 39)]),(4,0,kZ 15 [kl,kl]),(5,0,S 15 40 2)]) (G [M 41 4,kC 42 12 [(kt 41),(kc 50)],kd 43 3 1 2 [ki,ki] [(0,1,(kc 3000)),(1,1,(kt 42))],M 16 43] (Z (G [kMi 17 0] (K.block 0 (K.loop (Z (G [M 44 17,kBi 45 44 2 .lss] (Y 45 ks (K.exit 0))) (Z (K.block 1 (K.wk zUe)) (K.ops [M 46 17,kBi 47 46 1 .add,M 17 47])))))) (G [J 91 11 2,J 92 15 2,kC 93 21 [(kt 91),(kt 92)],kN 94 93,kQi 95 94 0 false,M 96 95,T 96 true (J 97 15 2),T 96 true (J 98 11 2),T 96 true (kC 99 21 [(kt 97),(kt 98)]),T 96 true (kN 100 99),T 96 true (kQi 101 100 0 false),kPf 102 96 101,M 103 102,T 103 true (kC 104 11 []),kPf 105 103 104,M 10 105] kr)))))))
def qIj:Nat→Option (List (Nat×Nat)):=fun r=>match r with | 10=>some [(0,1),(1,1),(2,1),(3,0),(4,0),(5,0),(6,1),(7,1),(8,1),(9,0),(10,0),(11,0),(12,0),(13,303),(14,304),(15,0),(16,0),(17,0)] | 11=>some [(0,1),(1,1),(2,1),(3,0),(4,0),(5,0),(6,1),(7,1),(8,1),(9,0),(10,0),(11,0),(12,0),(13,305),(14,306),(15,0),(16,0),(17,0)] | _=>none
theorem qHk:qD Tryz.prog Tryz.f5.ntmps qIj (Tryz.f5.body.getD .skip)=some zZB.erase:=by kernel_rfl
@[simp] theorem qKs:zA Tryz.prog 5=true:=by kernel_rfl
set_option maxHeartbeats 8000000 in
set_option maxRecDepth 100000 in
theorem qOS (l m:List Int)(n by_ fuel:Int)(hl:∀x∈l,w64 x=x)(hm:∀x∈m,w64 x=x)(hn:w64 n=n)(hby:w64 by_=by_)(hfu:w64 fuel=fuel) :
 Ret Tryz.prog 5 [.sl l.length (yB l),.sl m.length (yB m),int n,int by_,int fuel] [] (bl true) []:=by
 obtain⟨P,hP,rP⟩:=zYQ l hl;have hf:=hP.fit hl;obtain⟨fP,p5,p8,pm⟩:=hP.fine hl;refine zI Tryz.func5 rfl qHk (rs:=[.slot 10]) (by kernel_rfl) ?_;unfold zZB;simp -implicitDefEqProofs;refine zR rP (by simp) (by simp[zT]) ?_;simp -implicitDefEqProofs [zT];rcases zS4 hf m hm n hn with rc | ⟨d,hdm,hdk,rc⟩
 ·refine zR rc (by simp[zT]) (by simp) ?_;simp -implicitDefEqProofs;refine zR zO5 (by simp) (by simp) ?_;simp -implicitDefEqProofs;exact zC 0 (by simp)
 refine zR rc (by simp[zT]) (by simp) ?_;have hsm:=zN9 hf hdm hm;generalize zCY P d m=A at *
 obtain⟨b0,b1⟩:=zBB (k:=50) hby (by omega);have rb:=zEb by_ 50 (by omega);have rr:=zYU P fP pm (yS by_ 50) b0 (by omega);have hA:=zT4 (yS by_ 50) P;have hq:=hf.same hA;have fQ:=zT3 (yS by_ 50) fP;obtain⟨c1,c2⟩:=zS6 hA;have cx:=zPJ hA;have r1:=zGr P (zLy (yS by_ 50) P) fP.small.1 fQ.small.1 fP.small.2.1 fQ.small.2.1;have r2:=zGr (zLy (yS by_ 50) P) P fQ.small.1 fP.small.1 fQ.small.2.1 fP.small.2.1;rw[c1]at r1;rw[c2]at r2;generalize zLy (yS by_ 50) P=Q at *
 obtain⟨f0,f1⟩:=zBB (k:=50) hfu (by omega);have rf:=zEb fuel 50 (by omega);obtain⟨FU,hFU⟩:∃FU:List Int,FU=[3000,yS fuel 50]:=⟨_,rfl⟩;have hF2:FU.length=2:=by rw[hFU]; rfl
 have hfuel:∀f∈FU,f≤90000:=by rw[hFU];intro f hf';simp only[List.mem_cons,List.not_mem_nil,or_false]at hf';rcases hf' with rfl | rfl<;>omega
 simp -implicitDefEqProofs [zO]
 intros
 refine zAu rb (by simp) (by simp) ?_;simp -implicitDefEqProofs;refine zAu rr (by simp[zT]) (by simp[zT]) ?_;simp -implicitDefEqProofs [zT];refine zR rf (by simp) (by simp) ?_;simp -implicitDefEqProofs;refine qR (S:=Nat) (fun i=>[(11,.ptr 0 0),(12,.ptr 1 0),(13,.sl A.length (zW A)),(15,.ptr 2 0),(16,.sl 2 (yB FU)),(17,int i)]) (fun _=>[.box (zT P),.box (zO d),.box (zT Q)]) (fun i=>i≤2) (fun i=>2-i) 0 (by simp)
  (zP [0,1,2] 0 (by decide) (by simp) (by simp[zT,zO]) (by simp[hFU,yB])) ?_
 intro i hi;have hwi:IntKind.i64.wrap ((i:Int)+1)=(i:Int)+1:=IntWalk.i64_in _ (by omega);by_cases hil:i<2
 ·have hiF:i<FU.length:=by omega
  have hdF:=zEh hiF;have hff:=hfuel _ (List.getElem_mem hiF);generalize FU[i]=f at hdF hff;have rt:=zPt hf d.id A f hff hsm;have rq:=zPt hq d.id A f hff hsm;rw[cx]at rq;generalize zDt P d.id A f=r at rt rq;have hi2:(i:Int)<2:=by omega
  simp -implicitDefEqProofs [hi2];refine⟨_,_,yZ 4,?_⟩;unfold zUe;simp -implicitDefEqProofs [zT,zO,hdF,hi2,hil,hiF];refine zAu rt (by simp[zT,jK]) (by simp[zDw,zQ]) ?_;simp -implicitDefEqProofs [zDw,zQ,hdF,hi2,hil,hiF];refine zAu rq (by simp[zT,jK]) (by simp[zDw,zQ]) ?_;simp -implicitDefEqProofs [zDw,zQ];refine qM (zGl r.v r.v) (by simp[zQ]) (by simp) ?_;simp -implicitDefEqProofs [zLC];refine qM (zOW ⟨r.ds,r.ns⟩) (by simp[zDx]) (by simp[zDx]) ?_;simp -implicitDefEqProofs [zDx];refine qM (zOW ⟨r.ds,r.ns⟩) (by simp[zDx]) (by simp[zDx]) ?_;simp -implicitDefEqProofs [zDx];refine qM (zYW ⟨r.ds,r.ns⟩ ⟨r.ds,r.ns⟩) (by simp[zDx]) (by simp) ?_;simp -implicitDefEqProofs;exact zS (i+1) hil (by omega) (zP [0,1,2] 0 (by decide) (by simp) (by simp[zT,zO]) (by simp[hwi]))
 ·have hie:i=2:=by omega
  subst hie;simp -implicitDefEqProofs;refine zR r1 (by simp[zT]) (by simp) ?_;simp -implicitDefEqProofs;refine zR r2 (by simp[zT]) (by simp) ?_;simp -implicitDefEqProofs;refine zR zO5 (by simp) (by simp) ?_;simp -implicitDefEqProofs;exact zC 0 (by simp)
end Go.Proofs.YthglhccibdlccaaGreatDoor
