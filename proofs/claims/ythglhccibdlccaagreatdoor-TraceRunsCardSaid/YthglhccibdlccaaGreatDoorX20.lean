/-
  Programs as data: types, expressions, definitions, and their cells.
  Tables of the evaluator; results in their plain form.
  Functions that panic: contracts and how a call meets them.
  slices.Clone, Grow, Concat, SortFunc, Compact at lists of IDs.
  The law's example.
-/
import Derived.Test.YthglhccibdlccaaGreatDoorX17
import Derived.Test.YthglhccibdlccaaGreatDoorX19
set_option linter.unusedVariables false
set_option linter.unusedSimpArgs false
namespace Go.Proofs.YthglhccibdlccaaGreatDoor
open Go.Abs
@[simp] theorem qHr (d:Id):(qX d).take 3=qX d:=List.take_of_length_le (Nat.le_refl _)
@[simp] theorem qHs (d:Id):(qX d).length=3:=rfl
theorem zKa (d:Id):jE (qX d):=jE.lit (jE.lit (jE.lit jE.nil))
@[simp] theorem qDM (d:Id):jG (qX d)=qX d:=(zKa d).1
@[simp] theorem qLn (d:Id) {rf g}:vwL rf g (qX d)=qX d:=(zKa d).2 _ _
def zU8 (s:ByteArray):List A:=[.lit (.string s)]
def jY (l:List ByteArray):List A:=l.flatMap zU8
theorem zP6 (s:ByteArray):jE (zU8 s):=jE.lit jE.nil
theorem zBg (l:List ByteArray):jE (jY l):=zBi zP6 l
@[simp] theorem qAa (l:List ByteArray):jG (jY l)=jY l:=(zBg l).1
@[simp] theorem qE0 {rf g}(l:List ByteArray):vwL rf g (jY l)=jY l:=(zBg l).2 _ _
@[simp] theorem qBl (l:List ByteArray):(jY l).length=l.length:=by rw[jY,zBQ (k:=1) (fun _=>rfl),Nat.mul_one]
@[simp] theorem qBm:jY []=[]:=rfl
inductive Typ where
 | mk (k:Int) (id:Id) (kids:List Typ)
def Typ.k:Typ→Int | .mk k _ _=>k
def Typ.id:Typ→Id | .mk _ d _=>d
def Typ.kids:Typ→List Typ | .mk _ _ l=>l
@[simp] theorem Typ.k_mk {k:Int}{i:Id}{l:List Typ}:(Typ.mk k i l).k=k:=rfl
@[simp] theorem Typ.id_mk {k:Int}{i:Id}{l:List Typ}:(Typ.mk k i l).id=i:=rfl
@[simp] theorem Typ.kids_mk {k:Int}{i:Id}{l:List Typ}:(Typ.mk k i l).kids=l:=rfl
mutual
def zIQ:Typ→A
 | .mk _ _ l=>.sl l.length (jB l)
def jB:List Typ→List A
 | []=>[]
 | t::l=>.lit (.int .i64 t.k)::.lit (.int .i64 t.id.a)::.lit (.int .i64 t.id.b)::.lit (.int .i64 t.id.c)::zIQ t::jB l
end
theorem zUm (t:Typ):zIQ t=.sl t.kids.length (jB t.kids):=by cases t; simp only[zIQ,Typ.kids]
def zB (t:Typ):List A:=[.lit (.int .i64 t.k),.lit (.int .i64 t.id.a),.lit (.int .i64 t.id.b),.lit (.int .i64 t.id.c),.sl t.kids.length (jB t.kids)]
theorem zC2 (l:List Typ):jB l=l.flatMap zB:=by
 induction l with
 | nil=>simp only[jB,List.flatMap_nil]
 | cons t l ih=>simp only[jB,List.flatMap_cons,ih,zUm,zB]; rfl
mutual
theorem zN5:∀t:Typ,nrm0 (zIQ t)=zIQ t∧∀rf g,vw rf g (zIQ t)=zIQ t
 | .mk k n l=>by have h:=yP l;simp only[zIQ];exact⟨by simp[h.1],fun rf g=>by simp[h.2]⟩
theorem yP:∀l:List Typ,jE (jB l)
 | []=>by simp only[jB]; exact jE.nil
 | v::l=>by have h:=zN5 v;have h':=yP l;simp only[jB];exact⟨by simp[h.1,h'.1],fun rf g=>by simp[h.2,h'.2]⟩
end
theorem zKb (t:Typ):jE (zB t):=jE.lit (jE.lit (jE.lit (jE.lit (jE.sl (yP _) jE.nil))))
inductive Exp where
 | mk (id:Id) (k n:Int) (ref:Id) (typ:Typ) (kids:List Exp) (names:List ByteArray)
def Exp.id:Exp→Id | .mk x _ _ _ _ _ _=>x
def Exp.k:Exp→Int | .mk _ x _ _ _ _ _=>x
def Exp.n:Exp→Int | .mk _ _ x _ _ _ _=>x
def Exp.ref:Exp→Id | .mk _ _ _ x _ _ _=>x
def Exp.typ:Exp→Typ | .mk _ _ _ _ x _ _=>x
def Exp.kids:Exp→List Exp | .mk _ _ _ _ _ x _=>x
def Exp.names:Exp→List ByteArray | .mk _ _ _ _ _ _ x=>x
@[simp] theorem Exp.id_mk {a:Id}{b c:Int}{d:Id}{e:Typ}{f:List Exp}{g:List ByteArray}:(Exp.mk a b c d e f g).id=a:=rfl
@[simp] theorem Exp.k_mk {a:Id}{b c:Int}{d:Id}{e:Typ}{f:List Exp}{g:List ByteArray}:(Exp.mk a b c d e f g).k=b:=rfl
@[simp] theorem Exp.n_mk {a:Id}{b c:Int}{d:Id}{e:Typ}{f:List Exp}{g:List ByteArray}:(Exp.mk a b c d e f g).n=c:=rfl
@[simp] theorem Exp.ref_mk {a:Id}{b c:Int}{d:Id}{e:Typ}{f:List Exp}{g:List ByteArray}:(Exp.mk a b c d e f g).ref=d:=rfl
@[simp] theorem Exp.typ_mk {a:Id}{b c:Int}{d:Id}{e:Typ}{f:List Exp}{g:List ByteArray}:(Exp.mk a b c d e f g).typ=e:=rfl
@[simp] theorem Exp.kids_mk {a:Id}{b c:Int}{d:Id}{e:Typ}{f:List Exp}{g:List ByteArray}:(Exp.mk a b c d e f g).kids=f:=rfl
@[simp] theorem Exp.names_mk {a:Id}{b c:Int}{d:Id}{e:Typ}{f:List Exp}{g:List ByteArray}:(Exp.mk a b c d e f g).names=g:=rfl
mutual
def zIP:Exp→A
 | .mk _ _ _ _ _ l _=>.sl l.length (qL l)
def qL:List Exp→List A
 | []=>[]
 | e::l=>[.lit (.int .i64 e.id.a),.lit (.int .i64 e.id.b),.lit (.int .i64 e.id.c),.lit (.int .i64 e.k),.lit (.int .i64 e.n),.lit (.int .i64 e.ref.a),.lit (.int .i64 e.ref.b),.lit (.int .i64 e.ref.c),.lit (.int .i64 e.typ.k),.lit (.int .i64 e.typ.id.a),.lit (.int .i64 e.typ.id.b),.lit (.int .i64 e.typ.id.c),.sl e.typ.kids.length (jB e.typ.kids),zIP e,.sl e.names.length (jY e.names)]++qL l
end
theorem zUl (e:Exp):zIP e=.sl e.kids.length (qL e.kids):=by cases e; simp only[zIP,Exp.kids]
def zF (e:Exp):List A:=[.lit (.int .i64 e.id.a),.lit (.int .i64 e.id.b),.lit (.int .i64 e.id.c),.lit (.int .i64 e.k),.lit (.int .i64 e.n),.lit (.int .i64 e.ref.a),.lit (.int .i64 e.ref.b),.lit (.int .i64 e.ref.c),.lit (.int .i64 e.typ.k),.lit (.int .i64 e.typ.id.a),.lit (.int .i64 e.typ.id.b),.lit (.int .i64 e.typ.id.c),.sl e.typ.kids.length (jB e.typ.kids),.sl e.kids.length (qL e.kids),.sl e.names.length (jY e.names)]
theorem zBY (l:List Exp):qL l=l.flatMap zF:=by
 induction l with
 | nil=>simp only[qL,List.flatMap_nil]
 | cons t l ih=>simp only[qL,List.flatMap_cons,ih,zUl,zF]
mutual
theorem zN4:∀t:Exp,nrm0 (zIP t)=zIP t∧∀rf g,vw rf g (zIP t)=zIP t
 | .mk _ _ _ _ _ l _=>by have h:=zBC l;simp only[zIP];exact⟨by simp[h.1],fun rf g=>by simp[h.2]⟩
theorem zBC:∀l:List Exp,jE (qL l)
 | []=>by simp only[qL]; exact jE.nil
 | v::l=>by have h:=zN4 v;have h':=zBC l;have h1:=yP v.typ.kids;have h2:=zBg v.names;simp only[qL];exact⟨by simp[h.1,h'.1,h1.1,h2.1],fun rf g=>by simp[h.2,h'.2,h1.2,h2.2]⟩
end
theorem zGG (e:Exp):jE (zF e):=by have h:=zBC e.kids;have h1:=yP e.typ.kids;have h2:=zBg e.names;exact⟨by simp[zF,h.1,h1.1,h2.1],fun rf g=>by simp[zF,h.2,h1.2,h2.2]⟩
structure Slt where
 id:Id
 name:ByteArray
 typ:Typ
 most:Int
 place:Int
def zAd (s:Slt):List A:=[.lit (.int .i64 s.id.a),.lit (.int .i64 s.id.b),.lit (.int .i64 s.id.c),.lit (.string s.name),.lit (.int .i64 s.typ.k),.lit (.int .i64 s.typ.id.a),.lit (.int .i64 s.typ.id.b),.lit (.int .i64 s.typ.id.c),.sl s.typ.kids.length (jB s.typ.kids),.lit (.int .i64 s.most),.lit (.int .i64 s.place)]
theorem zE5 (s:Slt):jE (zAd s):=by have h1:=yP s.typ.kids;exact⟨by simp[zAd,h1.1],fun rf g=>by simp[zAd,h1.2]⟩
def jU (l:List Slt):List A:=l.flatMap zAd
theorem zDq (l:List Slt):jU l=l.flatMap zAd:=rfl
structure Dfn where
 id:Id
 kind:Int
 mod:Id
 name:ByteArray
 slots:List Slt
 res:Typ
 body:Exp
 place:Int
 lay:List ByteArray
def zP (d:Dfn):List A:=[.lit (.int .i64 d.id.a),.lit (.int .i64 d.id.b),.lit (.int .i64 d.id.c),.lit (.int .i64 d.kind),.lit (.int .i64 d.mod.a),.lit (.int .i64 d.mod.b),.lit (.int .i64 d.mod.c),.lit (.string d.name),.sl d.slots.length (jU d.slots),.lit (.int .i64 d.res.k),.lit (.int .i64 d.res.id.a),.lit (.int .i64 d.res.id.b),.lit (.int .i64 d.res.id.c),.sl d.res.kids.length (jB d.res.kids),.lit (.int .i64 d.body.id.a),.lit (.int .i64 d.body.id.b),.lit (.int .i64 d.body.id.c),.lit (.int .i64 d.body.k),.lit (.int .i64 d.body.n),.lit (.int .i64 d.body.ref.a),.lit (.int .i64 d.body.ref.b),.lit (.int .i64 d.body.ref.c),.lit (.int .i64 d.body.typ.k),.lit (.int .i64 d.body.typ.id.a),.lit (.int .i64 d.body.typ.id.b),.lit (.int .i64 d.body.typ.id.c),.sl d.body.typ.kids.length (jB d.body.typ.kids),.sl d.body.kids.length (qL d.body.kids),.sl d.body.names.length (jY d.body.names),.lit (.int .i64 d.place),.sl d.lay.length (jY d.lay)]
theorem zE4 (d:Dfn):jE (zP d):=by have h1:=yP d.res.kids;have h2:=yP d.body.typ.kids;have h3:=zBC d.body.kids;have h4:=zBg d.body.names;have h5:=zBg d.lay;have h6:=zBi zE5 d.slots;exact⟨by simp[zP,jU,h1.1,h2.1,h3.1,h4.1,h5.1,h6.1],fun rf g=>by simp[zP,jU,h1.2,h2.2,h3.2,h4.2,h5.2,h6.2]⟩
def zZ (l:List Dfn):List A:=l.flatMap zP
theorem zBX (l:List Dfn):zZ l=l.flatMap zP:=rfl
structure Md where
 id:Id
 name:ByteArray
 uses:List Id
 defs:List Id
def zDV (m:Md):List A:=[.lit (.int .i64 m.id.a),.lit (.int .i64 m.id.b),.lit (.int .i64 m.id.c),.lit (.string m.name),.sl m.uses.length (qF m.uses),.sl m.defs.length (qF m.defs)]
theorem zGI (m:Md):jE (zDV m):=by have h1:=zBD m.uses;have h2:=zBD m.defs;exact⟨by simp[zDV,h1.1,h2.1],fun rf g=>by simp[zDV,h1.2,h2.2]⟩
def qM (l:List Md):List A:=l.flatMap zDV
theorem zFU (l:List Md):qM l=l.flatMap zDV:=rfl
structure Prg where
 mods:List Md
 defs:List Dfn
def zU (p:Prg):List A:=[.sl p.mods.length (qM p.mods),.sl p.defs.length (zZ p.defs)]
theorem eP(p:Prg):zU p=[.sl p.mods.length (qM p.mods),.sl p.defs.length (zZ p.defs)]:=rfl
@[simp] theorem qAc (l:List Typ):jG (jB l)=jB l:=(yP l).1
@[simp] theorem qE2 {rf g}(l:List Typ):vwL rf g (jB l)=jB l:=(yP l).2 _ _
@[simp] theorem qBs:jB []=[]:=by rw[zC2]; rfl
theorem qN (x:Typ)(l:List Typ):jB (x::l)=zB x++jB l:=by rw[zC2,zC2]; rfl
theorem zDU (l l':List Typ):jB (l++l')=jB l++jB l':=by simp only[zC2,List.flatMap_append]
@[simp] theorem qBr (l:List Typ):(jB l).length=l.length*5:=by rw[zC2,zBQ (k:=5) (fun _=>rfl)]
theorem zCb {l:List Typ}{i:Nat}(h:i<l.length):(jB l).drop (i*5)=zB l[i]++jB (l.drop (i+1)):=by rw[zC2,zC2,zCc (k:=5) (fun _=>rfl) h]
@[simp] theorem qHy (d:Typ):(zB d).length=5:=rfl
@[simp] theorem qHx (d:Typ):(zB d).take 5=zB d:=List.take_of_length_le (Nat.le_refl _)
@[simp] theorem qDs (d:Typ)(l:List A):(zB d++l).take 5=zB d:=by rw[List.take_append_of_le_length (by simp)]; exact List.take_of_length_le (by simp)
@[simp] theorem qDP (d:Typ):jG (zB d)=zB d:=(zKb d).1
@[simp] theorem qLq (d:Typ) {rf g}:vwL rf g (zB d)=zB d:=(zKb d).2 _ _
@[simp] theorem zZV (l:List Exp):jG (qL l)=qL l:=(zBC l).1
@[simp] theorem qEv {rf g}(l:List Exp):vwL rf g (qL l)=qL l:=(zBC l).2 _ _
@[simp] theorem qBe:qL []=[]:=by rw[zBY]; rfl
theorem zJ (x:Exp)(l:List Exp):qL (x::l)=zF x++qL l:=by rw[zBY,zBY]; rfl
@[simp] theorem qBd (l:List Exp):(qL l).length=l.length*15:=by rw[zBY,zBQ (k:=15) (fun _=>rfl)]
theorem yJ {l:List Exp}{i:Nat}(h:i<l.length):(qL l).drop (i*15)=zF l[i]++qL (l.drop (i+1)):=by rw[zBY,zBY,zCc (k:=15) (fun _=>rfl) h]
theorem zAi {l:List Exp}{i:Nat}(h:i<l.length):qL (l.take (i+1))=qL (l.take i)++zF l[i]:=by rw[zBY,zBY,zCr (k:=15) (fun _=>rfl) h]
@[simp] theorem qHo (d:Exp):(zF d).length=15:=rfl
@[simp] theorem qHn (d:Exp):(zF d).take 15=zF d:=List.take_of_length_le (Nat.le_refl _)
@[simp] theorem qDo (d:Exp)(l:List A):(zF d++l).take 15=zF d:=by rw[List.take_append_of_le_length (by simp)]; exact List.take_of_length_le (by simp)
@[simp] theorem qDK (d:Exp):jG (zF d)=zF d:=(zGG d).1
@[simp] theorem qLl (d:Exp) {rf g}:vwL rf g (zF d)=zF d:=(zGG d).2 _ _
theorem zHn (l:List Slt):jE (jU l):=zBi zE5 l
@[simp] theorem qAb (l:List Slt):jG (jU l)=jU l:=(zHn l).1
@[simp] theorem qE1 {rf g}(l:List Slt):vwL rf g (jU l)=jU l:=(zHn l).2 _ _
@[simp] theorem qBq:jU []=[]:=by rw[zDq]; rfl
@[simp] theorem qBp (l:List Slt):(jU l).length=l.length*11:=by rw[zDq,zBQ (k:=11) (fun _=>rfl)]
theorem jL {l:List Slt}{i:Nat}(h:i<l.length):(jU l).drop (i*11)=zAd l[i]++jU (l.drop (i+1)):=by rw[zDq,zDq,zCc (k:=11) (fun _=>rfl) h]
theorem zHZ {l:List Slt}{i:Nat}(h:i<l.length):jU (l.take (i+1))=jU (l.take i)++zAd l[i]:=by rw[zDq,zDq,zCr (k:=11) (fun _=>rfl) h]
@[simp] theorem qHw (d:Slt):(zAd d).length=11:=rfl
@[simp] theorem qHv (d:Slt):(zAd d).take 11=zAd d:=List.take_of_length_le (Nat.le_refl _)
@[simp] theorem qDr (d:Slt)(l:List A):(zAd d++l).take 11=zAd d:=by rw[List.take_append_of_le_length (by simp)]; exact List.take_of_length_le (by simp)
@[simp] theorem qDO (d:Slt):jG (zAd d)=zAd d:=(zE5 d).1
@[simp] theorem qLp (d:Slt) {rf g}:vwL rf g (zAd d)=zAd d:=(zE5 d).2 _ _
theorem zHj (l:List Dfn):jE (zZ l):=zBi zE4 l
@[simp] theorem zZU (l:List Dfn):jG (zZ l)=zZ l:=(zHj l).1
@[simp] theorem qEu {rf g}(l:List Dfn):vwL rf g (zZ l)=zZ l:=(zHj l).2 _ _
@[simp] theorem qBc:zZ []=[]:=by rw[zBX]; rfl
@[simp] theorem zPu (l:List Dfn):(zZ l).length=l.length*31:=by rw[zBX,zBQ (k:=31) (fun _=>rfl)]
theorem yB {l:List Dfn}{i:Nat}(h:i<l.length):(zZ l).drop (i*31)=zP l[i]++zZ (l.drop (i+1)):=by rw[zBX,zBX,zCc (k:=31) (fun _=>rfl) h]
theorem zHX {l:List Dfn}{i:Nat}(h:i<l.length):zZ (l.take (i+1))=zZ (l.take i)++zP l[i]:=by rw[zBX,zBX,zCr (k:=31) (fun _=>rfl) h]
theorem zPv {l:List Dfn}{i:Nat}(x:Dfn)(h:i<l.length):(zZ l).take (i*31)++(zP x++(zZ l).drop (i*31+31))=zZ (l.set i x):=by rw[zBX,zBX,zNN (k:=31) (fun _=>rfl) x h]
@[simp] theorem zU7 (d:Dfn):(zP d).length=31:=rfl
@[simp] theorem qHm (d:Dfn):(zP d).take 31=zP d:=List.take_of_length_le (Nat.le_refl _)
@[simp] theorem qDn (d:Dfn)(l:List A):(zP d++l).take 31=zP d:=by rw[List.take_append_of_le_length (by simp)]; exact List.take_of_length_le (by simp)
@[simp] theorem qDJ (d:Dfn):jG (zP d)=zP d:=(zE4 d).1
@[simp] theorem qLk (d:Dfn) {rf g}:vwL rf g (zP d)=zP d:=(zE4 d).2 _ _
theorem zHm (l:List Md):jE (qM l):=zBi zGI l
@[simp] theorem zZZ (l:List Md):jG (qM l)=qM l:=(zHm l).1
@[simp] theorem qEz {rf g}(l:List Md):vwL rf g (qM l)=qM l:=(zHm l).2 _ _
@[simp] theorem qBk:qM []=[]:=by rw[zFU]; rfl
theorem zCa (x:Md)(l:List Md):qM (x::l)=zDV x++qM l:=by rw[zFU,zFU]; rfl
@[simp] theorem qBj (l:List Md):(qM l).length=l.length*6:=by rw[zFU,zBQ (k:=6) (fun _=>rfl)]
@[simp] theorem qHu (d:Md):(zDV d).length=6:=rfl
@[simp] theorem qHt (d:Md):(zDV d).take 6=zDV d:=List.take_of_length_le (Nat.le_refl _)
@[simp] theorem qDq (d:Md)(l:List A):(zDV d++l).take 6=zDV d:=by rw[List.take_append_of_le_length (by simp)]; exact List.take_of_length_le (by simp)
@[simp] theorem qDN (d:Md):jG (zDV d)=zDV d:=(zGI d).1
@[simp] theorem qLo (d:Md) {rf g}:vwL rf g (zDV d)=zDV d:=(zGI d).2 _ _
def Typ.zero:Typ:=.mk 0 Id.zero []
def Exp.zero:Exp:=.mk Id.zero 0 0 Id.zero Typ.zero [] []
def Dfn.zero:Dfn:=⟨Id.zero,0,Id.zero,⟨#[]⟩,[],Typ.zero,Exp.zero,0,[]⟩
end Go.Proofs.YthglhccibdlccaaGreatDoor
namespace Go.Abs
section
variable {P:Program}
theorem zYw:∀f e,zDW f []=some e→jN P f e:=fun f e h=>by cases h
theorem jS {f0:Nat}{e0:Entry}{T:List (Nat×Entry)}(h0:jN P f0 e0)(hT:∀f e,zDW f T=some e→jN P f e):∀f e,zDW f ((f0,e0)::T)=some e→jN P f e:=fun f e h=>by
 simp only[zDW]at h;cases hb:Nat.beq f f0
 ·rw[hb]at h; exact hT f e h
 ·rw[hb]at h;cases h;rw[Nat.eq_of_beq_eq_true hb];exact h0
theorem zVL {f:FuncId}{xs:List A} {σ σ':St}{r:A}(h:Ret P f xs σ r σ'):Ret P f xs σ (nrm0 r) σ':=fun H L w vs hs ha=>(h H L w vs hs ha).mono fun e w' hh=>by obtain⟨o,τ,H',L',ho,hn,rfl,rfl⟩:=hh;obtain⟨v,rfl,hv⟩:=ho;exact⟨.ret (nrm0 r),_,H',L',⟨v,rfl,Rel.nrm0 _ hv⟩,hn,rfl,rfl⟩
def qAp (T:List (Nat×Entry))(orc:Run)(lf n:Nat)(f:FuncId)(xs:List A) (σ : St):Option (A×St):=match zSO T orc lf n f xs σ with
 | some (r,σ')=>some (nrm0 r,σ')
 | none=>none
theorem zVP {T:List (Nat×Entry)}{orc:Run}{lf n:Nat}(hT:∀f e,zDW f T=some e→jN P f e)(hO:zAn P orc){f:FuncId}{xs:List A} {σ σ':St}{r:A}(h:qAp T orc lf n f xs σ = some (r,σ')):Ret P f xs σ r σ':=by
 unfold qAp at h;split at h
 ·rename_i r0 τ h0;cases h;exact zVL (zRv hT hO n _ _ _ _ _ h0).2
 ·cases h
def idV:Value→Value→Bool
 | .int .i64 a,.int .i64 b=>decide (a=b)
 | .bool a,.bool b=>a==b
 | .string a,.string b=>decide (a=b)
 | _,_=>false
theorem zS3 {a b:Value}(h:idV a b=true):a=b:=by
 unfold idV at h;split at h
 ·rw[of_decide_eq_true h]
 ·rw[eq_of_beq h]
 ·rw[of_decide_eq_true h]
 ·cases h
mutual
def idA:A→A→Bool
 | .nil,.nil=>true
 | .lit a,.lit b=>idV a b
 | .agg a,.agg b=>idL a b
 | .sl n a,.sl m b=>Nat.beq n m&&idL a b
 | _,_=>false
def idL:List A→List A→Bool
 | [],[]=>true
 | a::l,b::l'=>idA a b&&idL l l'
 | _,_=>false
end
mutual
theorem zS2:∀{a b:A},idA a b=true→a=b:=by
 intro a b h;cases a<;>cases b<;>first | rfl | (simp[idA]at h; done) | skip
 case lit.lit=>simp only[idA]at h; rw[zS3 h]
 case agg.agg=>simp only[idA]at h; rw[zGc h]
 case sl.sl =>
  simp only[idA]at h;rw[Bool.and_eq_true]at h;rw[Nat.eq_of_beq_eq_true h.1,zGc h.2]
theorem zGc:∀{a b:List A},idL a b=true→a=b:=by
 intro a b h;cases a<;>cases b<;>first | rfl | (simp[idL]at h; done) | skip
 ·simp only[idL]at h;rw[Bool.and_eq_true]at h;rw[zS2 h.1,zGc h.2]
end
theorem zMo {H:Mem}{L:List LI}:∀{xs:List A} {vs:List Value},zX H L xs vs→zX H L (jG xs) vs
 | [],vs,h=>by simpa [jG] using h
 | x::xs,vs,h=>by obtain⟨u,us,rfl,h1,h2⟩:=qA h;simp only[jG];exact qS (Rel.nrm0 _ h1) (zMo h2)
def zYk:List (Nat×List A×A)→Run
 | [],_,_,_=>none
 | (g,ys,r)::T,f,xs,σ=>match Nat.beq f g&&idL (jG xs) ys,σ with
  | true,[]=>some (r,[])
  | _,_=>zYk T f xs σ
theorem zRq:∀{T:List (Nat×List A×A)},(∀p∈T,zA P p.1=true∧Ret P p.1 p.2.1 [] p.2.2 [])→zAn P (zYk T)
 | [],_=>fun f xs σ r σ' h=>by cases h
 | (g,ys,r0)::T,hT=>fun f xs σ r σ' h=>by
  simp only[zYk]at h;split at h
  ·rename_i hb;cases h;rw[Bool.and_eq_true]at hb;obtain⟨h1,h2⟩:=hT _ (List.mem_cons_self ..);rw[Nat.eq_of_beq_eq_true hb.1];refine⟨h1,fun H L w vs hs ha=>h2 H L w vs hs ?_⟩;have:=zMo ha;rw[zGc hb.2]at this;exact this
  ·exact zRq (fun p hp=>hT p (List.mem_cons_of_mem _ hp)) _ _ _ _ _ h
def orE (a b:Run):Run:=fun f xs σ=>match a f xs σ with
 | some r=>some r
 | none=>b f xs σ
theorem zVF {a b:Run}(ha:zAn P a)(hb:zAn P b):zAn P (orE a b):=fun f xs σ r σ' h=>by
 unfold orE at h;split at h
 ·rename_i hx;cases h;exact ha _ _ _ _ _ hx
 ·exact hb _ _ _ _ _ h
end
end Go.Abs
namespace Go.Abs
def Pan (P:Program)(f:FuncId)(args:List A) (σ0:St)(v:Value):Prop:=yN P f args σ0 fun o _=>o=.pan v
section
variable {P:Program}{n0:Nat}{Qp:Value→Env→St→Prop}{Qd:Value→St→Prop}{K':Env→St→Prop}{env:Env} {σ : St}{d:Option Nat}
theorem Pan.mono {f:FuncId}{args:List A} {σ0:St}{v:Value}(h:Pan P f args σ0 v){Q:Out→St→Prop}(hq:∀τ,Q (.pan v) τ):yN P f args σ0 Q:=fun H L w vs h1 h2=>(h H L w vs h1 h2).mono fun e w' hh=>by obtain⟨o,σ',H',L',g1,g2,rfl⟩:=hh;exact⟨_,σ',H',L',g1,g2,hq σ'⟩
theorem zEm {f:FuncId}{fn:Func}{c:Code}{k:K}{rs:List RS}(hf:P.funcs[f]?=some fn)(hb:fn.body=some c)(hc:zL P fn.ntmps c=some k.erase)(hr:zBl P fn.results.toList=some rs)
 {args:List A} {σ : St}{v:Value}(h:wpF P k rs args σ fun o _=>o=.pan v):Pan P f args σ v:=zFq hf hb hc hr h
theorem yZ {hint:Nat→Option (List (Nat×Nat))}{f:FuncId}{fn:Func}{c:Code}{k:K}{rs:List RS}(hf:P.funcs[f]?=some fn)(hb:fn.body=some c)(hc:qC P fn.ntmps hint c=some k.erase)(hr:zBl P fn.results.toList=some rs)
 {args:List A} {σ : St}{v:Value}(h:wpF P k rs args σ fun o _=>o=.pan v):Pan P f args σ v:=zCm hf hb hc hr h
theorem zN3 {f:FuncId}{args args':List A} {σ0:St}{v:Value}(h:Pan P f args σ0 v)(js:List Nat)(hd:js.Nodup)(ho:zAt σ jQ (qU js) js σ0)(ha:zBo js args' args){Q:Out→St→Prop}
 (hq:∀τ : St,Q (.pan v) (jO σ js τ)):yN P f args' σ Q :=
 zHV (C:=fun vs w R=>Calls P f vs.toArray w R) (zEy P f) (Q0:=fun o _=>o=.pan v) h js hd ho ha fun o σ1 h0=>by subst h0;exact hq _
theorem zHh {f:FuncId}{args args':List A} {σ0:St}{v:Value}(h:Pan P f args σ0 v)(js:List Nat)(hd:js.Nodup)(ho:zAt σ jQ (qU js) js σ0)(ha:zBo js args' args)
 (hq:∀τ : St,Qp v env (jO σ js τ)):yN P f args' σ (zHA d env K' Qp):=zN3 h js hd ho ha fun τ=>by simpa [zHA] using hq τ
theorem zDh {f:FuncId}{args args':List A} {σ0:St}{v:Value}(h:Pan P f args σ0 v)(js:List Nat)(hd:js.Nodup)(ho:zAt σ jQ (qU js) js σ0)(ha:zBo js args' args)
 (hq:∀τ : St,Qd v (jO σ js τ)):zHS P Qd σ d K' f args' env:=zN3 h js hd ho ha fun τ=>.inr ⟨v,rfl,hq τ⟩
theorem zBT {f:FuncId}{args args':List A} {σ0 σ1:St}{r:A}(h:Ret P f args σ0 r σ1)(js:List Nat)(hd:js.Nodup)(ho:zAt σ jQ (qU js) js σ0)(ha:zBo js args' args)
 (hq:K' (env.put d (ren js σ.length r)) (jO σ js (σ1.map (zB0 js σ.length)))):zHS P Qd σ d K' f args' env:=zAw h js hd ho ha (.inl ⟨_,rfl,hq⟩)
theorem zC9 {α : Type}:∀{js:List Nat} {s t:List α} {x:Nat},x<s.length→x∉js→(jO s js t)[x]?=s[x]?
 | [],s,t,x,hx,_=>by simp[jO,List.getElem?_append_left hx]
 | j::js,s,[],x,_,_=>by simp[jO]
 | j::js,s,o::os,x,hx,hn=>by simp only[List.mem_cons,not_or]at hn;simp only[jO];rw[zC9 (by simpa using hx) hn.2,List.getElem?_set_ne (Ne.symm hn.1)]
end
end Go.Abs
namespace Go.Proofs.YthglhccibdlccaaGreatDoor
open Go.Abs
def qCt:Go.Shelf.Ren:=⟨fun | 6=>95 | 15=>133 | 14=>132 | 28=>154 | 29=>155 | 20=>146 | 21=>147 | 22=>148 | 23=>149 | 24=>150 | 25=>151 | 26=>152 | 27=>153 | 46=>169 | 49=>172 | 50=>173 | 57=>182 | 47=>170 | 48=>171 | n=>n,fun | 22=>45 | 24=>29 | 25=>161 | 3=>3 | 39=>197 | 0=>0 | 53=>218 | 55=>220 | 4=>4 | 46=>211 | 45=>210 | 50=>215 | 5=>5 | 9=>9 | 66=>230 | 70=>234 | 76=>240 | 77=>241 | n=>n,fun n=>n⟩
theorem zVt:Go.Proofs.SlLaysF0.n6 Tryz.prog qCt:={
 mixed:=by kernel_rfl,
 f6:=⟨Tryz.f95.name,by decide,Tryz.func95.trans (congrArg some (by kernel_rfl))⟩,
 f14:=⟨Tryz.f132.name,by decide,Tryz.func132.trans (congrArg some (by kernel_rfl))⟩,
 f15:=Tryz.func133.trans (congrArg some (by kernel_rfl)),
 f20:=⟨Tryz.f146.name,by decide,Tryz.func146.trans (congrArg some (by kernel_rfl))⟩,
 f21:=⟨Tryz.f147.name,by decide,Tryz.func147.trans (congrArg some (by kernel_rfl))⟩,
 f22:=⟨Tryz.f148.name,by decide,Tryz.func148.trans (congrArg some (by kernel_rfl))⟩,
 f23:=⟨Tryz.f149.name,by decide,Tryz.func149.trans (congrArg some (by kernel_rfl))⟩,
 f24:=⟨Tryz.f150.name,by decide,Tryz.func150.trans (congrArg some (by kernel_rfl))⟩,
 f25:=⟨Tryz.f151.name,by decide,Tryz.func151.trans (congrArg some (by kernel_rfl))⟩,
 f26:=⟨Tryz.f152.name,by decide,Tryz.func152.trans (congrArg some (by kernel_rfl))⟩,
 f27:=⟨Tryz.f153.name,by decide,Tryz.func153.trans (congrArg some (by kernel_rfl))⟩,
 f28:=Tryz.func154.trans (congrArg some (by kernel_rfl)),
 f29:=Tryz.func155.trans (congrArg some (by kernel_rfl)),
 f46:=⟨Tryz.f169.name,by decide,Tryz.func169.trans (congrArg some (by kernel_rfl))⟩,
 f47:=Tryz.func170.trans (congrArg some (by kernel_rfl)),
 f48:=Tryz.func171.trans (congrArg some (by kernel_rfl)),
 f49:=⟨Tryz.f172.name,by decide,Tryz.func172.trans (congrArg some (by kernel_rfl))⟩,
 f50:=⟨Tryz.f173.name,by decide,Tryz.func173.trans (congrArg some (by kernel_rfl))⟩,
 f57:=⟨Tryz.f182.name,by decide,Tryz.func182.trans (congrArg some (by kernel_rfl))⟩,
 t0:=Tryz.underlying0,
 a0:=Tryz.isAgg0,
 z0:=Tryz.sizeOf0,
 v0:=Tryz.zeroValue0,
 t3:=Tryz.underlying3,
 a3:=Tryz.isAgg3,
 z3:=Tryz.sizeOf3,
 v3:=Tryz.zeroValue3,
 t4:=Tryz.underlying4,
 a4:=Tryz.isAgg4,
 z4:=Tryz.sizeOf4,
 v4:=Tryz.zeroValue4,
 t5:=Tryz.underlying5,
 a5:=Tryz.isAgg5,
 z5:=Tryz.sizeOf5,
 v5:=Tryz.zeroValue5,
 t9:=Tryz.underlying9,
 a9:=Tryz.isAgg9,
 z9:=Tryz.sizeOf9,
 v9:=Tryz.zeroValue9,
 t22:=Tryz.underlying45,
 a22:=Tryz.isAgg45,
 z22:=Tryz.sizeOf45,
 v22:=Tryz.zeroValue45,
 t25:=Tryz.underlying161,
 a25:=Tryz.isAgg161,
 z25:=Tryz.sizeOf161,
 v25:=Tryz.zeroValue161,
 t39:=Tryz.underlying197,
 a39:=Tryz.isAgg197,
 z39:=Tryz.sizeOf197,
 v39:=Tryz.zeroValue197,
 t45:=Tryz.underlying210,
 a45:=Tryz.isAgg210,
 z45:=Tryz.sizeOf210,
 v45:=Tryz.zeroValue210,
 t46:=Tryz.underlying211,
 a46:=Tryz.isAgg211,
 z46:=Tryz.sizeOf211,
 v46:=Tryz.zeroValue211,
 t50:=Tryz.underlying215,
 a50:=Tryz.isAgg215,
 z50:=Tryz.sizeOf215,
 v50:=Tryz.zeroValue215,
 t53:=Tryz.underlying218,
 a53:=Tryz.isAgg218,
 z53:=Tryz.sizeOf218,
 v53:=Tryz.zeroValue218,
 t55:=Tryz.underlying220,
 a55:=Tryz.isAgg220,
 z55:=Tryz.sizeOf220,
 v55:=Tryz.zeroValue220,
 t66:=Tryz.underlying230,
 a66:=Tryz.isAgg230,
 z66:=Tryz.sizeOf230,
 v66:=Tryz.zeroValue230,
 t70:=Tryz.underlying234,
 a70:=Tryz.isAgg234,
 z70:=Tryz.sizeOf234,
 v70:=Tryz.zeroValue234,
 t76:=Tryz.underlying240,
 a76:=Tryz.isAgg240,
 z76:=Tryz.sizeOf240,
 v76:=Tryz.zeroValue240,
 t77:=Tryz.underlying241,
 a77:=Tryz.isAgg241,
 z77:=Tryz.sizeOf241,
 v77:=Tryz.zeroValue241}
def zRu:Go.Shelf.Ren:=⟨fun | 4=>116 | n=>n,fun | 0=>0 | 3=>3 | 4=>4 | 9=>9 | 20=>20 | 22=>45 | 25=>29 | n=>n,fun n=>n⟩
theorem zXH:Go.Proofs.Lays8.n4 Tryz.prog zRu:={
 mixed:=by kernel_rfl,
 f4:=⟨Tryz.f116.name,by decide,Tryz.func116.trans (congrArg some (by kernel_rfl))⟩,
 t0:=Tryz.underlying0,
 a0:=Tryz.isAgg0,
 z0:=Tryz.sizeOf0,
 v0:=Tryz.zeroValue0,
 t3:=Tryz.underlying3,
 a3:=Tryz.isAgg3,
 z3:=Tryz.sizeOf3,
 v3:=Tryz.zeroValue3,
 t4:=Tryz.underlying4,
 a4:=Tryz.isAgg4,
 z4:=Tryz.sizeOf4,
 v4:=Tryz.zeroValue4,
 t9:=Tryz.underlying9,
 a9:=Tryz.isAgg9,
 z9:=Tryz.sizeOf9,
 v9:=Tryz.zeroValue9,
 t20:=Tryz.underlying20,
 a20:=Tryz.isAgg20,
 z20:=Tryz.sizeOf20,
 v20:=Tryz.zeroValue20,
 t22:=Tryz.underlying45,
 a22:=Tryz.isAgg45,
 z22:=Tryz.sizeOf45,
 v22:=Tryz.zeroValue45}
@[simp] theorem qJH:zA Tryz.prog 116=true:=by kernel_rfl
@[simp] theorem qJT:zA Tryz.prog 95=true:=by kernel_rfl
theorem zNJ:∀args w,(callFunc 96 args).run Tryz.prog w=.ok (.enter 96 args) w:=enters_of Tryz.func96 (by kernel_rfl) rfl
theorem zWc:zPk Tryz.prog 95 96 qX zFg :=
 qC6 (k:=3) (fun _=>rfl) zF4 zVG fun α _ enc hk h1 cf hO blk off cap d w hcmp hH hblk hsz =>
  Go.Proofs.AnyQ.slices_SortFunc zVt 3 Tryz.isAgg29 Tryz.sizeOf29 enc hk h1 cf hO 96 #[] blk off cap d w zNJ hcmp hH hblk hsz
theorem zRp:∀(p:Option Addr) (cap:Nat) (fv:Value) (w:World),Calls Tryz.prog 95 #[.slice p 0 cap,fv] w fun e w'=>e=.returned (.tuple #[])∧w'=w :=
 fun p cap fv w=>Go.Proofs.AnyF.slices_SortFunc_none zVt p cap fv w
theorem zN8 (l:List Id):l.flatMap qX=qF l:=by
 induction l with
 | nil=>rfl
 | cons v l ih=>rw[List.flatMap_cons,ih]; rfl
theorem zQq (l:List Id)(hmx:l.length<4611686018427387904):Ret Tryz.prog 95 [.row 0 l.length,.clo 96 [] []] [.row false 29 3 l.length (qF l)] (.tup []) [.row false 29 3 l.length (qF (zDd zFg l))]:=by
 have:=zWb (sz:=3) (by omega) (fun _=>rfl) (fun b=>by simp[qX]) zF4 29 zWc zRp l hmx
 simpa only[zN8] using this
theorem zQr (x:A):Ret Tryz.prog 95 [.sl 0 [],x] [] (.tup []) []:=by
 intro H L w vs hs hvs;obtain⟨v,vs',rfl,h1,h2⟩:=qA hvs;obtain⟨fv,vs'',rfl,h3,h4⟩:=qA h2;have:=jI h4;subst this;simp only[Rel]at h1;obtain⟨p,cap,rfl,_⟩:=h1;refine(zRp p cap fv w).mono fun e' w' hh=>?_
 obtain⟨rfl,rfl⟩:=hh;exact⟨.ret (.tup []),_,H,L,⟨_,rfl,by simp[Rel,zX]⟩,Nxt.refl hs,rfl,rfl⟩
theorem zPM (n:Nat)(hn:n≤1000000):Ret Tryz.prog 116 [.nil,int n] [] (.row 0 0) [.row false 29 3 0 []] :=
 zLV (ρ:=zRu) (sz:=3) (bs:=24) (z:=.agg #[.int .i64 0,.int .i64 0,.int .i64 0]) zXH (by kernel_rfl) rfl (by omega) (by omega) (by omega)
def zPh:K:=G [kMn 2] (Z (G [M 3 0,⟨none,.isz (some 4) false (kt 3)⟩] (Y 4 (G [kMn 2] kr) ks)) (G [kd 5 29 3 0 [] [],M 6 0,kP 7 29 3 24 5 6,M 2 7] kr))
theorem zTM:zL Tryz.prog Tryz.f94.ntmps (Tryz.f94.body.getD .skip)=some zPh.erase:=by kernel_rfl
@[simp] theorem qGV:zA Tryz.prog 94=true:=by kernel_rfl
def zQD:K:=G [kMn 2] (G [kMi 3 0] (Z (G [M 9 0,kN 10 9,kMi 11 0] (K.block 0 (K.loop (G [kB 12 11 10 .lss] (Z (Y 12 ks (K.exit 0)) (Z (K.block 1 (G [kX 13 9 11 1,L 14 13 1,M 5 14] (G [M 15 3,M 16 5,kN 17 16,kB 18 15 17 .add,M 3 18] (G [M 19 3,kBi 20 19 0 .lss] (Y 20 (K.ops [⟨none,.mki (some 21) 9 (.const (.string ⟨#[108,101,110,32,111,117,116,32,111,102,32,114,97,110,103,101]⟩))⟩,⟨none,.pan none (kt 21)⟩]) ks))))) (K.ops [kBi 22 11 1 .add,M 11 22]))))))) (G [M 23 3,kC 24 116 [(.const kl),(kt 23)],M 6 24] (Z (G [M 25 0,kN 26 25,kMi 27 0] (K.block 2 (K.loop (G [kB 28 27 26 .lss] (Z (Y 28 ks (K.exit 2)) (Z (K.block 3 (G [kX 29 25 27 1,L 30 29 1,M 8 30] (K.ops [M 31 6,M 32 8,kP 33 29 3 24 31 32,M 6 33]))) (K.ops [kBi 34 27 1 .add,M 27 34]))))))) (G [M 35 6,M 2 35] kr)))))
theorem zWA:zL Tryz.prog Tryz.f69.ntmps (Tryz.f69.body.getD .skip)=some zQD.erase:=by kernel_rfl
@[simp] theorem qDh:zA Tryz.prog 69=true:=by kernel_rfl
def zJD:K:=G [kMn 2] (Z (G [M 6 0,kN 7 6,kBi 8 7 2 .lss] (Y 8 (G [M 9 0,M 2 9] kr) ks)) (Z (G [kMi 3 1] (K.block 0 (K.loop (Z (G [M 10 3,M 11 0,kN 12 11,kB 13 10 12 .lss] (Y 13 ks (K.exit 0))) (Z (K.block 1 (Z (K.dops [(0,0,M 16 0),(1,0,M 17 3),(2,0,kX 18 16 17 3),(3,0,J 19 18 3),(4,0,M 20 0),(5,0,M 21 3),(6,0,kBi 22 21 1 .sub),(7,0,kX 23 20 22 3),(8,0,J 24 23 3),(9,0,⟨none,.eqs (some 25) false [.i,.i,.i] (kt 19) (kt 24)⟩)]) (Y 25 (G [M 26 0,M 27 3,⟨none,.rslc (some 28) (kt 26) 3 (some (kt 27)) none⟩,M 4 28] (Z (G [kMi 5 1] (K.block 2 (K.loop (Z (G [M 29 5,M 30 4,kN 31 30,kB 32 29 31 .lss] (Y 32 ks (K.exit 2))) (Z (K.block 3 (Z (K.dops [(0,0,M 35 4),(1,0,M 36 5),(2,0,kX 37 35 36 3),(3,0,J 38 37 3),(4,0,M 39 4),(5,0,M 40 5),(6,0,kBi 41 40 1 .sub),(7,0,kX 42 39 41 3),(8,0,J 43 42 3),(9,0,⟨none,.eqs (some 44) true [.i,.i,.i] (kt 38) (kt 43)⟩)]) (Y 44 (G [M 45 0,M 46 3,M 47 4,M 48 5,kX 49 47 48 3,J 50 49 3,kX 51 45 46 3,S 51 50 3] (K.ops [M 52 3,kBi 53 52 1 .add,M 3 53])) ks))) (K.ops [M 33 5,kBi 34 33 1 .add,M 5 34])))))) (G [M 54 0,M 55 3,⟨none,.rslc (some 56) (kt 54) 3 (some (kt 55)) none⟩,⟨none,.mop none (.clr 3 [ki,ki,ki]) [(kt 56)]⟩] (G [M 57 0,M 58 3,⟨none,.rslc (some 59) (kt 57) 3 none (some (kt 58))⟩,M 2 59] kr)))) ks))) (K.ops [M 14 3,kBi 15 14 1 .add,M 3 15])))))) (G [M 60 0,M 2 60] kr)))
theorem zN2:zL Tryz.prog Tryz.f97.ntmps (Tryz.f97.body.getD .skip)=some zJD.erase:=by kernel_rfl
@[simp] theorem qAR:zA Tryz.prog 97=true:=by kernel_rfl
theorem zNB (l:List Id)(h:l≠[])(hb:l.length≤1000000):Ret Tryz.prog 94 [.sl l.length (qF l)] [] (.row 0 l.length) [.row false 29 3 l.length (qF l)]:=by refine zK Tryz.func94 rfl zTM (rs:=[.slot 2]) (by kernel_rfl) ?_;unfold zPh;simp[h];refine⟨⟨by simp[maxLen]; omega,by omega⟩,?_⟩;exact zG [0] 0 (by simp) (by simp) (by simp) (by simp)
theorem zNC:Ret Tryz.prog 94 [.sl 0 []] [] (.sl 0 []) []:=by refine zK Tryz.func94 rfl zTM (rs:=[.slot 2]) (by kernel_rfl) ?_;unfold zPh;simp;exact⟨zC 0 (by simp),zC 0 (by simp)⟩
def zBe (Ls:List (List Id)):List A:=Ls.map fun l=>A.sl l.length (qF l)
theorem zE0:∀(Ls:List (List Id)),jE (zBe Ls)
 | []=>jE.nil
 | l::Ls=>by
  have h1:=zE0 Ls;have h2:=zBD l;refine⟨?_,fun rf g=>?_⟩
  ·show jG (A.sl l.length (qF l)::zBe Ls)=_;simp[h1.1];rfl
  ·show vwL rf g (A.sl l.length (qF l)::zBe Ls)=_;simp[h1.2];rfl
@[simp] theorem zZY (l:List (List Id)):jG (zBe l)=zBe l:=(zE0 l).1
@[simp] theorem qEy {rf g}(l:List (List Id)):vwL rf g (zBe l)=zBe l:=(zE0 l).2 _ _
@[simp] theorem qBi (l:List (List Id)):(zBe l).length=l.length:=by simp[zBe]
theorem zIU {Ls:List (List Id)}{i:Nat}(h:i<Ls.length):(zBe Ls).drop i=.sl Ls[i].length (qF Ls[i])::zBe (Ls.drop (i+1)):=by rw[zBe,←List.map_drop,List.drop_eq_getElem_cons h]; rfl
def zCT (Ls:List (List Id)):Nat:=Ls.flatten.length
theorem zMy {Ls:List (List Id)}{i:Nat}(h:i<Ls.length):zCT (Ls.take (i+1))=zCT (Ls.take i)+Ls[i].length:=by rw[zCT,zCT,List.take_succ_eq_append_getElem h,List.flatten_append]; simp
theorem zR5 (Ls:List (List Id))(i:Nat):zCT (Ls.take i)≤zCT Ls:=by
 have:Ls.flatten=(Ls.take i).flatten++(Ls.drop i).flatten:=by rw[←List.flatten_append,List.take_append_drop]
 rw[zCT,zCT,this,List.length_append]; omega
theorem zE1 (Ls:List (List Id))(hb:zCT Ls≤1000000):Ret Tryz.prog 69 [.sl Ls.length (zBe Ls)] [] (.sl (zCT Ls) (qF Ls.flatten)) []:=by
 refine zK Tryz.func69 rfl zWA (rs:=[.slot 2]) (by kernel_rfl) ?_;unfold zQD;simp;intro hl;refine qZ (S:=Nat) (fun i=>[(0,.sl Ls.length (zBe Ls)),(3,int (zCT (Ls.take i))),(9,.sl Ls.length (zBe Ls)),(10,int Ls.length),(11,int i)]) (fun s=>[]) (fun i=>i≤Ls.length) (fun i=>Ls.length-i) 0 (by simp)
  (zS [] 0 (by simp) (by simp) (by simp) (by simp[zCT])) ?_
 intro i hi;by_cases h:i<Ls.length
 ·have ht:=zMy h;have hle:=zR5 Ls (i+1);have hw:IntKind.i64.wrap ((zCT (Ls.take i):Int)+(Ls[i].length:Int))=(zCT (Ls.take (i+1)):Nat):=by rw[ht]; push_cast; exact IntWalk.i64_in _ (by omega)
  have h0:¬((zCT (Ls.take (i+1)):Nat):Int)<0:=by omega
  simp[h,zIU h];intro _;simp[hw,h0];exact zT (i+1) h (by omega) (zS [] 0 (by simp) (by simp) (by simp) (by simp[qB h hl]))
 ·have hil:i=Ls.length:=by omega
  subst hil;have hI:¬(Ls.length:Int)<Ls.length:=by omega
  simp;refine zN (zPM (zCT Ls) hb) [] (by simp) (by simp) (by simp) ?_;simp;intro _;refine qZ (S:=Nat) (fun i=>[(6,.row 0 (zCT (Ls.take i))),(25,.sl Ls.length (zBe Ls)),(26,int Ls.length),(27,int i)]) (fun i=>[.row false 29 3 (zCT (Ls.take i)) (qF (Ls.take i).flatten)]) (fun i=>i≤Ls.length) (fun i=>Ls.length-i) 0 (by simp)
   (zS [0] 0 (by simp) (by simp) (by simp[zCT]) (by simp[zCT])) ?_
  intro i hi;by_cases h:i<Ls.length
  ·have ht:=zMy h;have hle:=zR5 Ls (i+1);have hf:(Ls.take (i+1)).flatten=(Ls.take i).flatten++Ls[i]:=by rw[List.take_succ_eq_append_getElem h,List.flatten_append]; simp
   simp[h,zIU h];refine⟨⟨by simp[maxLen]; omega,by omega⟩,?_⟩;exact zT (i+1) h (by omega) (zS [0] 0 (by simp) (by simp) (by simp[ht,hf,jJ]) (by simp[ht,qB h hl]))
  ·have hil:i=Ls.length:=by omega
   subst hil;simp;exact zC 1 (by simp)
def KId:K:=G [kZ 2 [ki,ki,ki]] (G [M 3 0,kb 4 [ki,ki,ki] [(1,1,(kc 1)),(2,1,(kt 3))],S 2 4 3] kr)
theorem cId:zL Tryz.prog Tryz.f40.ntmps (Tryz.f40.body.getD .skip)=some KId.erase:=by kernel_rfl
@[simp] theorem qHa:zA Tryz.prog 40=true:=by kernel_rfl
def EId:Entry:=⟨KId,[.cell 2 3 true],false⟩
theorem qH0:jN Tryz.prog 40 EId:=⟨qHa,_,_,zAk,Tryz.func40,rfl,cId,by kernel_rfl⟩
def qFV:K:=G [kZ 4 kz1] (G [M 5 0,kC 6 40 [(kt 5)],M 7 1,kC 8 40 [(kt 7)],kb 9 kz1 [(0,3,(kt 6)),(3,1,(kc 2)),(5,3,(kt 8))],S 4 9 15] kr)
theorem qMF:zL Tryz.prog Tryz.f88.ntmps (Tryz.f88.body.getD .skip)=some qFV.erase:=by kernel_rfl
@[simp] theorem qAZ:zA Tryz.prog 88=true:=by kernel_rfl
def qEW:Entry:=⟨qFV,[.cell 4 15 true],false⟩
theorem qB5:jN Tryz.prog 88 qEW:=⟨qAZ,_,_,zAk,Tryz.func88,rfl,qMF,by kernel_rfl⟩
def KEx:K:=G [kZ 0 [kl,kl]] (G [kC 5 40 [(kc 11)],kC 6 88 [(kc 12),(kc 2)],kC 7 40 [(kc 13)],kb 8 kz1 [(0,3,(kt 7)),(4,1,(kc 3))],kd 9 37 15 2 kz6 [(0,15,(kt 6)),(15,15,(kt 8))],kb 10 kz1 [(0,3,(kt 5)),(3,1,(kc 4)),(4,1,(kc 5)),(13,1,(kt 9))],kZ 1 kz1,S 1 10 15] (G [kC 11 40 [(kc 15)],kC 12 40 [(kc 3)],kC 13 88 [(kc 16),(kc 2)],kd 14 37 15 1 kz1 [(0,15,(kt 13))],kb 15 kz1 [(0,3,(kt 11)),(3,1,(kc 3)),(5,3,(kt 12)),(13,1,(kt 14))],kZ 2 kz1,S 2 15 15] (Z (K.dops [(0,1,kC 16 40 [(kc 1)]),(1,1,kC 17 40 [(kc 0)]),(2,1,kC 18 40 [(kc 2)]),(3,0,⟨none,.build (some 19) kz5 [(0,3,(kt 18)),(3,1,(.const (.string ⟨#[97]⟩)))]⟩),(4,0,kd 20 90 11 1 kz5 [(0,11,(kt 19))]),(5,1,kC 21 40 [(kc 10)]),(6,1,J 22 1 15),(7,1,kC 23 88 [(kc 14),(kc 2)]),(8,1,J 24 2 15),(9,0,kd 25 37 15 3 kz4 [(0,15,(kt 22)),(15,15,(kt 23)),(30,15,(kt 24))]),(10,0,kb 26 kz1 [(0,3,(kt 21)),(3,1,(kc 5)),(13,1,(kt 25))]),(11,0,⟨none,.build (some 27) kz0 [(0,3,(kt 16)),(3,1,(kc 2)),(4,3,(kt 17)),(7,1,(.const (.string ⟨#[102]⟩))),(8,1,(kt 20)),(14,15,(kt 26))]⟩),(12,0,kZ 3 kz0),(13,0,S 3 27 31)]) (G [kC 28 40 [(kc 3)],kC 29 40 [(kc 0)],kC 30 40 [(kc 4)],⟨none,.build (some 31) kz5 [(0,3,(kt 30)),(3,1,(.const (.string ⟨#[97]⟩)))]⟩,kd 32 90 11 1 kz5 [(0,11,(kt 31))],kC 33 88 [(kc 17),(kc 4)],⟨none,.build (some 34) kz0 [(0,3,(kt 28)),(3,1,(kc 2)),(4,3,(kt 29)),(7,1,(.const (.string ⟨#[103]⟩))),(8,1,(kt 32)),(14,15,(kt 33))]⟩,kZ 4 kz0,
 S 4 34 31] (Z (K.dops [(0,1,kC 35 40 [(kc 0)]),(1,1,kC 36 40 [(kc 1)]),(2,1,kC 37 40 [(kc 3)]),(3,0,kd 38 29 3 2 [ki,ki,ki,ki,ki,ki] [(0,3,(kt 36)),(3,3,(kt 37))]),(4,0,⟨none,.build (some 39) kz9 [(0,3,(kt 35)),(3,1,(.const (.string ⟨#[109]⟩))),(5,1,(kt 38))]⟩),(5,0,kd 40 84 6 1 kz9 [(0,6,(kt 39))]),(6,1,J 41 3 31),(7,1,J 42 4 31),(8,9,⟨none,.brow (some 43) 39 31 2 kz8 [(0,31,(kt 41)),(31,31,(kt 42))]⟩),(9,0,kb 44 [kl,kl] [(0,1,(kt 40)),(1,1,(kt 43))]),(10,0,S 0 44 2)]) kr)))))
def hEx:Nat→Option (List (Nat×Nat)):=fun r=>match r with | 5=>some [(0,1),(1,1),(2,1),(3,0),(4,0),(5,0),(6,1),(7,1),(8,9),(9,0),(10,0)] | _=>none
theorem cEx:qC Tryz.prog Tryz.f39.ntmps hEx (Tryz.f39.body.getD .skip)=some KEx.erase:=by kernel_rfl
@[simp] theorem qGX:zA Tryz.prog 39=true:=by kernel_rfl
def EEx:Entry:=⟨KEx,[.cell 0 2 true],false⟩
theorem qHz:jN Tryz.prog 39 EEx:=⟨qGX,_,_,hEx,Tryz.func39,rfl,cEx,by kernel_rfl⟩
def zMF (i:Int)(k n:Int)(r:Int)(kids:List Exp):Exp:=.mk ⟨0,1,i⟩ k n (if r<0 then Id.zero else ⟨0,1,r⟩) Typ.zero kids []
def exF:Dfn:=⟨⟨0,1,1⟩,2,⟨0,1,0⟩,⟨#[102]⟩,[⟨⟨0,1,2⟩,⟨#[97]⟩,Typ.zero,0,0⟩],Typ.zero,
 zMF 10 5 0 (-1) [zMF 11 4 5 (-1) [zMF 12 2 0 2 [],zMF 13 0 3 (-1) []],zMF 14 2 0 2 [],zMF 15 3 0 3 [zMF 16 2 0 2 []]],0,[]⟩
def exG (b:Exp):Dfn:=⟨⟨0,1,3⟩,2,⟨0,1,0⟩,⟨#[103]⟩,[⟨⟨0,1,4⟩,⟨#[97]⟩,Typ.zero,0,0⟩],Typ.zero,b,0,[]⟩
def exM:Md:=⟨⟨0,1,0⟩,⟨#[109]⟩,[],[⟨0,1,1⟩,⟨0,1,3⟩]⟩
def exP:Prg:=⟨[exM],[exF,exG (zMF 17 2 0 4 [])]⟩
def exQ:Prg:=⟨[exM],[exF,exG (zMF 17 0 7 (-1) [])]⟩
end Go.Proofs.YthglhccibdlccaaGreatDoor
