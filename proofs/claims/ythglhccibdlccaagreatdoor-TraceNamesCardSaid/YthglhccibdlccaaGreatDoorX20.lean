/-
  Programs as data: types, expressions, definitions, and their cells.
  Tables of the evaluator; results in their plain form.
  slices.Clone, Grow, Concat, SortFunc, Compact at lists of IDs.
  The law's example.
-/
import Derived.Test.YthglhccibdlccaaGreatDoorX17
import Derived.Test.YthglhccibdlccaaGreatDoorX19
set_option linter.unusedVariables false
set_option linter.unusedSimpArgs false
namespace Go.Proofs.YthglhccibdlccaaGreatDoor
open Go.Abs
@[simp] theorem qHU (d:Id):(jK d).take 3=jK d:=List.take_of_length_le (Nat.le_refl _)
@[simp] theorem qHV (d:Id):(jK d).length=3:=rfl
theorem zJM (d:Id):qX (jK d):=qX.lit (qX.lit (qX.lit qX.nil))
@[simp] theorem qE4 (d:Id):qU (jK d)=jK d:=(zJM d).1
@[simp] theorem qLF (d:Id) {rf g}:vwL rf g (jK d)=jK d:=(zJM d).2 _ _
def zVq (s:ByteArray):List A:=[.lit (.string s)]
def yF (l:List ByteArray):List A:=l.flatMap zVq
theorem zPX (s:ByteArray):qX (zVq s):=qX.lit qX.nil
theorem zBj (l:List ByteArray):qX (yF l):=zAN zPX l
@[simp] theorem qAG (l:List ByteArray):qU (yF l)=yF l:=(zBj l).1
@[simp] theorem qFh {rf g}(l:List ByteArray):vwL rf g (yF l)=yF l:=(zBj l).2 _ _
@[simp] theorem qBR (l:List ByteArray):(yF l).length=l.length:=by rw[yF,zBr (k:=1) (fun _=>rfl),Nat.mul_one]
@[simp] theorem qBS:yF []=[]:=rfl
inductive Typ where
 | mk (k:Int) (id:Id) (kids:List Typ)
def Typ.k:Typ→Int | .mk k _ _=>k
def Typ.id:Typ→Id | .mk _ d _=>d
def Typ.kids:Typ→List Typ | .mk _ _ l=>l
@[simp] theorem Typ.k_mk {k:Int}{i:Id}{l:List Typ}:(Typ.mk k i l).k=k:=rfl
@[simp] theorem Typ.id_mk {k:Int}{i:Id}{l:List Typ}:(Typ.mk k i l).id=i:=rfl
@[simp] theorem Typ.kids_mk {k:Int}{i:Id}{l:List Typ}:(Typ.mk k i l).kids=l:=rfl
mutual
def zIA:Typ→A
 | .mk _ _ l=>.sl l.length (jI l)
def jI:List Typ→List A
 | []=>[]
 | t::l=>.lit (.int .i64 t.k)::.lit (.int .i64 t.id.a)::.lit (.int .i64 t.id.b)::.lit (.int .i64 t.id.c)::zIA t::jI l
end
theorem zVa (t:Typ):zIA t=.sl t.kids.length (jI t.kids):=by cases t; simp only[zIA,Typ.kids]
def zB (t:Typ):List A:=[.lit (.int .i64 t.k),.lit (.int .i64 t.id.a),.lit (.int .i64 t.id.b),.lit (.int .i64 t.id.c),.sl t.kids.length (jI t.kids)]
theorem zC3 (l:List Typ):jI l=l.flatMap zB:=by
 induction l with
 | nil=>simp only[jI,List.flatMap_nil]
 | cons t l ih=>simp only[jI,List.flatMap_cons,ih,zVa,zB]; rfl
mutual
theorem zNJ:∀t:Typ,nrm0 (zIA t)=zIA t∧∀rf g,vw rf g (zIA t)=zIA t
 | .mk k n l=>by have h:=yO l;simp only[zIA];exact⟨by simp[h.1],fun rf g=>by simp[h.2]⟩
theorem yO:∀l:List Typ,qX (jI l)
 | []=>by simp only[jI]; exact qX.nil
 | v::l=>by have h:=zNJ v;have h':=yO l;simp only[jI];exact⟨by simp[h.1,h'.1],fun rf g=>by simp[h.2,h'.2]⟩
end
theorem zJN (t:Typ):qX (zB t):=qX.lit (qX.lit (qX.lit (qX.lit (qX.sl (yO _) qX.nil))))
inductive Exp where
 | mk (id:Id) (k n:Int) (ref:Id) (typ:Typ) (kids:List Exp) (names:List ByteArray)
def Exp.id:Exp→Id | .mk x _ _ _ _ _ _=>x
def Exp.k:Exp→Int | .mk _ x _ _ _ _ _=>x
def Exp.n:Exp→Int | .mk _ _ x _ _ _ _=>x
def Exp.ref:Exp→Id | .mk _ _ _ x _ _ _=>x
def Exp.typ:Exp→Typ | .mk _ _ _ _ x _ _=>x
def Exp.kids:Exp→List Exp | .mk _ _ _ _ _ x _=>x
def Exp.names:Exp→List ByteArray | .mk _ _ _ _ _ _ x=>x
@[simp] theorem Exp.id_mk {a:Id}{b c:Int}{d:Id}{e:Typ}{f:List Exp}{g:List ByteArray}:(Exp.mk a b c d e f g).id=a:=rfl
@[simp] theorem Exp.k_mk {a:Id}{b c:Int}{d:Id}{e:Typ}{f:List Exp}{g:List ByteArray}:(Exp.mk a b c d e f g).k=b:=rfl
@[simp] theorem Exp.n_mk {a:Id}{b c:Int}{d:Id}{e:Typ}{f:List Exp}{g:List ByteArray}:(Exp.mk a b c d e f g).n=c:=rfl
@[simp] theorem Exp.ref_mk {a:Id}{b c:Int}{d:Id}{e:Typ}{f:List Exp}{g:List ByteArray}:(Exp.mk a b c d e f g).ref=d:=rfl
@[simp] theorem Exp.typ_mk {a:Id}{b c:Int}{d:Id}{e:Typ}{f:List Exp}{g:List ByteArray}:(Exp.mk a b c d e f g).typ=e:=rfl
@[simp] theorem Exp.kids_mk {a:Id}{b c:Int}{d:Id}{e:Typ}{f:List Exp}{g:List ByteArray}:(Exp.mk a b c d e f g).kids=f:=rfl
@[simp] theorem Exp.names_mk {a:Id}{b c:Int}{d:Id}{e:Typ}{f:List Exp}{g:List ByteArray}:(Exp.mk a b c d e f g).names=g:=rfl
mutual
def zI9:Exp→A
 | .mk _ _ _ _ _ l _=>.sl l.length (qL l)
def qL:List Exp→List A
 | []=>[]
 | e::l=>[.lit (.int .i64 e.id.a),.lit (.int .i64 e.id.b),.lit (.int .i64 e.id.c),.lit (.int .i64 e.k),.lit (.int .i64 e.n),.lit (.int .i64 e.ref.a),.lit (.int .i64 e.ref.b),.lit (.int .i64 e.ref.c),.lit (.int .i64 e.typ.k),.lit (.int .i64 e.typ.id.a),.lit (.int .i64 e.typ.id.b),.lit (.int .i64 e.typ.id.c),.sl e.typ.kids.length (jI e.typ.kids),zI9 e,.sl e.names.length (yF e.names)]++qL l
end
theorem zUZ (e:Exp):zI9 e=.sl e.kids.length (qL e.kids):=by cases e; simp only[zI9,Exp.kids]
def zF (e:Exp):List A:=[.lit (.int .i64 e.id.a),.lit (.int .i64 e.id.b),.lit (.int .i64 e.id.c),.lit (.int .i64 e.k),.lit (.int .i64 e.n),.lit (.int .i64 e.ref.a),.lit (.int .i64 e.ref.b),.lit (.int .i64 e.ref.c),.lit (.int .i64 e.typ.k),.lit (.int .i64 e.typ.id.a),.lit (.int .i64 e.typ.id.b),.lit (.int .i64 e.typ.id.c),.sl e.typ.kids.length (jI e.typ.kids),.sl e.kids.length (qL e.kids),.sl e.names.length (yF e.names)]
theorem zBC (l:List Exp):qL l=l.flatMap zF:=by
 induction l with
 | nil=>simp only[qL,List.flatMap_nil]
 | cons t l ih=>simp only[qL,List.flatMap_cons,ih,zUZ,zF]
mutual
theorem zNI:∀t:Exp,nrm0 (zI9 t)=zI9 t∧∀rf g,vw rf g (zI9 t)=zI9 t
 | .mk _ _ _ _ _ l _=>by have h:=zBD l;simp only[zI9];exact⟨by simp[h.1],fun rf g=>by simp[h.2]⟩
theorem zBD:∀l:List Exp,qX (qL l)
 | []=>by simp only[qL]; exact qX.nil
 | v::l=>by have h:=zNI v;have h':=zBD l;have h1:=yO v.typ.kids;have h2:=zBj v.names;simp only[qL];exact⟨by simp[h.1,h'.1,h1.1,h2.1],fun rf g=>by simp[h.2,h'.2,h1.2,h2.2]⟩
end
theorem zGw (e:Exp):qX (zF e):=by have h:=zBD e.kids;have h1:=yO e.typ.kids;have h2:=zBj e.names;exact⟨by simp[zF,h.1,h1.1,h2.1],fun rf g=>by simp[zF,h.2,h1.2,h2.2]⟩
structure Slt where
 id:Id
 name:ByteArray
 typ:Typ
 most:Int
 place:Int
def zAh (s:Slt):List A:=[.lit (.int .i64 s.id.a),.lit (.int .i64 s.id.b),.lit (.int .i64 s.id.c),.lit (.string s.name),.lit (.int .i64 s.typ.k),.lit (.int .i64 s.typ.id.a),.lit (.int .i64 s.typ.id.b),.lit (.int .i64 s.typ.id.c),.sl s.typ.kids.length (jI s.typ.kids),.lit (.int .i64 s.most),.lit (.int .i64 s.place)]
theorem zE1 (s:Slt):qX (zAh s):=by have h1:=yO s.typ.kids;exact⟨by simp[zAh,h1.1],fun rf g=>by simp[zAh,h1.2]⟩
def jC (l:List Slt):List A:=l.flatMap zAh
theorem zCb (l:List Slt):jC l=l.flatMap zAh:=rfl
structure Dfn where
 id:Id
 kind:Int
 mod:Id
 name:ByteArray
 slots:List Slt
 res:Typ
 body:Exp
 place:Int
 lay:List ByteArray
def zO (d:Dfn):List A:=[.lit (.int .i64 d.id.a),.lit (.int .i64 d.id.b),.lit (.int .i64 d.id.c),.lit (.int .i64 d.kind),.lit (.int .i64 d.mod.a),.lit (.int .i64 d.mod.b),.lit (.int .i64 d.mod.c),.lit (.string d.name),.sl d.slots.length (jC d.slots),.lit (.int .i64 d.res.k),.lit (.int .i64 d.res.id.a),.lit (.int .i64 d.res.id.b),.lit (.int .i64 d.res.id.c),.sl d.res.kids.length (jI d.res.kids),.lit (.int .i64 d.body.id.a),.lit (.int .i64 d.body.id.b),.lit (.int .i64 d.body.id.c),.lit (.int .i64 d.body.k),.lit (.int .i64 d.body.n),.lit (.int .i64 d.body.ref.a),.lit (.int .i64 d.body.ref.b),.lit (.int .i64 d.body.ref.c),.lit (.int .i64 d.body.typ.k),.lit (.int .i64 d.body.typ.id.a),.lit (.int .i64 d.body.typ.id.b),.lit (.int .i64 d.body.typ.id.c),.sl d.body.typ.kids.length (jI d.body.typ.kids),.sl d.body.kids.length (qL d.body.kids),.sl d.body.names.length (yF d.body.names),.lit (.int .i64 d.place),.sl d.lay.length (yF d.lay)]
theorem zE0 (d:Dfn):qX (zO d):=by have h1:=yO d.res.kids;have h2:=yO d.body.typ.kids;have h3:=zBD d.body.kids;have h4:=zBj d.body.names;have h5:=zBj d.lay;have h6:=zAN zE1 d.slots;exact⟨by simp[zO,jC,h1.1,h2.1,h3.1,h4.1,h5.1,h6.1],fun rf g=>by simp[zO,jC,h1.2,h2.2,h3.2,h4.2,h5.2,h6.2]⟩
def qB (l:List Dfn):List A:=l.flatMap zO
theorem zBZ (l:List Dfn):qB l=l.flatMap zO:=rfl
structure Md where
 id:Id
 name:ByteArray
 uses:List Id
 defs:List Id
def zCT (m:Md):List A:=[.lit (.int .i64 m.id.a),.lit (.int .i64 m.id.b),.lit (.int .i64 m.id.c),.lit (.string m.name),.sl m.uses.length (zY m.uses),.sl m.defs.length (zY m.defs)]
theorem zGy (m:Md):qX (zCT m):=by have h1:=zBE m.uses;have h2:=zBE m.defs;exact⟨by simp[zCT,h1.1,h2.1],fun rf g=>by simp[zCT,h1.2,h2.2]⟩
def jB (l:List Md):List A:=l.flatMap zCT
theorem zDn (l:List Md):jB l=l.flatMap zCT:=rfl
structure Prg where
 mods:List Md
 defs:List Dfn
def zT (p:Prg):List A:=[.sl p.mods.length (jB p.mods),.sl p.defs.length (qB p.defs)]
theorem eP(p:Prg):zT p=[.sl p.mods.length (jB p.mods),.sl p.defs.length (qB p.defs)]:=rfl
@[simp] theorem qAJ (l:List Typ):qU (jI l)=jI l:=(yO l).1
@[simp] theorem qFl {rf g}(l:List Typ):vwL rf g (jI l)=jI l:=(yO l).2 _ _
@[simp] theorem qCa:jI []=[]:=by rw[zC3]; rfl
theorem qE (x:Typ)(l:List Typ):jI (x::l)=zB x++jI l:=by rw[zC3,zC3]; rfl
theorem zDU (l l':List Typ):jI (l++l')=jI l++jI l':=by simp only[zC3,List.flatMap_append]
@[simp] theorem qBZ (l:List Typ):(jI l).length=l.length*5:=by rw[zC3,zBr (k:=5) (fun _=>rfl)]
theorem zCc {l:List Typ}{i:Nat}(h:i<l.length):(jI l).drop (i*5)=zB l[i]++jI (l.drop (i+1)):=by rw[zC3,zC3,zBG (k:=5) (fun _=>rfl) h]
@[simp] theorem qIa (d:Typ):(zB d).length=5:=rfl
@[simp] theorem qHZ (d:Typ):(zB d).take 5=zB d:=List.take_of_length_le (Nat.le_refl _)
@[simp] theorem qEa (d:Typ)(l:List A):(zB d++l).take 5=zB d:=by rw[List.take_append_of_le_length (by simp)]; exact List.take_of_length_le (by simp)
@[simp] theorem qE7 (d:Typ):qU (zB d)=zB d:=(zJN d).1
@[simp] theorem qLI (d:Typ) {rf g}:vwL rf g (zB d)=zB d:=(zJN d).2 _ _
@[simp] theorem qAB (l:List Exp):qU (qL l)=qL l:=(zBD l).1
@[simp] theorem qFc {rf g}(l:List Exp):vwL rf g (qL l)=qL l:=(zBD l).2 _ _
@[simp] theorem qBK:qL []=[]:=by rw[zBC]; rfl
theorem zJ (x:Exp)(l:List Exp):qL (x::l)=zF x++qL l:=by rw[zBC,zBC]; rfl
theorem zGg (l l':List Exp):qL (l++l')=qL l++qL l':=by simp only[zBC,List.flatMap_append]
@[simp] theorem qBJ (l:List Exp):(qL l).length=l.length*15:=by rw[zBC,zBr (k:=15) (fun _=>rfl)]
theorem yJ {l:List Exp}{i:Nat}(h:i<l.length):(qL l).drop (i*15)=zF l[i]++qL (l.drop (i+1)):=by rw[zBC,zBC,zBG (k:=15) (fun _=>rfl) h]
theorem yY {l:List Exp}{i:Nat}(h:i<l.length):qL (l.take (i+1))=qL (l.take i)++zF l[i]:=by rw[zBC,zBC,zCo (k:=15) (fun _=>rfl) h]
@[simp] theorem qHR (d:Exp):(zF d).length=15:=rfl
@[simp] theorem qHQ (d:Exp):(zF d).take 15=zF d:=List.take_of_length_le (Nat.le_refl _)
@[simp] theorem qDW (d:Exp)(l:List A):(zF d++l).take 15=zF d:=by rw[List.take_append_of_le_length (by simp)]; exact List.take_of_length_le (by simp)
@[simp] theorem qE2 (d:Exp):qU (zF d)=zF d:=(zGw d).1
@[simp] theorem qLD (d:Exp) {rf g}:vwL rf g (zF d)=zF d:=(zGw d).2 _ _
theorem zHc (l:List Slt):qX (jC l):=zAN zE1 l
@[simp] theorem qAI (l:List Slt):qU (jC l)=jC l:=(zHc l).1
@[simp] theorem qFk {rf g}(l:List Slt):vwL rf g (jC l)=jC l:=(zHc l).2 _ _
@[simp] theorem qBY:jC []=[]:=by rw[zCb]; rfl
@[simp] theorem qBX (l:List Slt):(jC l).length=l.length*11:=by rw[zCb,zBr (k:=11) (fun _=>rfl)]
theorem jN {l:List Slt}{i:Nat}(h:i<l.length):(jC l).drop (i*11)=zAh l[i]++jC (l.drop (i+1)):=by rw[zCb,zCb,zBG (k:=11) (fun _=>rfl) h]
theorem zHK {l:List Slt}{i:Nat}(h:i<l.length):jC (l.take (i+1))=jC (l.take i)++zAh l[i]:=by rw[zCb,zCb,zCo (k:=11) (fun _=>rfl) h]
theorem zPN {l:List Slt}{i:Nat}(x:Slt)(h:i<l.length):(jC l).take (i*11)++(zAh x++(jC l).drop (i*11+11))=jC (l.set i x):=by rw[zCb,zCb,zJV (k:=11) (fun _=>rfl) x h]
@[simp] theorem zVr (d:Slt):(zAh d).length=11:=rfl
@[simp] theorem qHY (d:Slt):(zAh d).take 11=zAh d:=List.take_of_length_le (Nat.le_refl _)
@[simp] theorem qDZ (d:Slt)(l:List A):(zAh d++l).take 11=zAh d:=by rw[List.take_append_of_le_length (by simp)]; exact List.take_of_length_le (by simp)
@[simp] theorem qE6 (d:Slt):qU (zAh d)=zAh d:=(zE1 d).1
@[simp] theorem qLH (d:Slt) {rf g}:vwL rf g (zAh d)=zAh d:=(zE1 d).2 _ _
theorem zEu (l:List Dfn):qX (qB l):=zAN zE0 l
@[simp] theorem qAA (l:List Dfn):qU (qB l)=qB l:=(zEu l).1
@[simp] theorem qFb {rf g}(l:List Dfn):vwL rf g (qB l)=qB l:=(zEu l).2 _ _
@[simp] theorem qBI:qB []=[]:=by rw[zBZ]; rfl
@[simp] theorem zPK (l:List Dfn):(qB l).length=l.length*31:=by rw[zBZ,zBr (k:=31) (fun _=>rfl)]
theorem jU {l:List Dfn}{i:Nat}(h:i<l.length):(qB l).drop (i*31)=zO l[i]++qB (l.drop (i+1)):=by rw[zBZ,zBZ,zBG (k:=31) (fun _=>rfl) h]
theorem zEc {l:List Dfn}{i:Nat}(h:i<l.length):qB (l.take (i+1))=qB (l.take i)++zO l[i]:=by rw[zBZ,zBZ,zCo (k:=31) (fun _=>rfl) h]
theorem zPL {l:List Dfn}{i:Nat}(x:Dfn)(h:i<l.length):(qB l).take (i*31)++(zO x++(qB l).drop (i*31+31))=qB (l.set i x):=by rw[zBZ,zBZ,zJV (k:=31) (fun _=>rfl) x h]
@[simp] theorem zVp (d:Dfn):(zO d).length=31:=rfl
@[simp] theorem qHP (d:Dfn):(zO d).take 31=zO d:=List.take_of_length_le (Nat.le_refl _)
@[simp] theorem qDV (d:Dfn)(l:List A):(zO d++l).take 31=zO d:=by rw[List.take_append_of_le_length (by simp)]; exact List.take_of_length_le (by simp)
@[simp] theorem qE1 (d:Dfn):qU (zO d)=zO d:=(zE0 d).1
@[simp] theorem qLC (d:Dfn) {rf g}:vwL rf g (zO d)=zO d:=(zE0 d).2 _ _
theorem zEx (l:List Md):qX (jB l):=zAN zGy l
@[simp] theorem qAF (l:List Md):qU (jB l)=jB l:=(zEx l).1
@[simp] theorem qFg {rf g}(l:List Md):vwL rf g (jB l)=jB l:=(zEx l).2 _ _
@[simp] theorem qBQ:jB []=[]:=by rw[zDn]; rfl
theorem zBi (x:Md)(l:List Md):jB (x::l)=zCT x++jB l:=by rw[zDn,zDn]; rfl
@[simp] theorem qBP (l:List Md):(jB l).length=l.length*6:=by rw[zDn,zBr (k:=6) (fun _=>rfl)]
theorem zNN {l:List Md}{i:Nat}(h:i<l.length):(jB l).drop (i*6)=zCT l[i]++jB (l.drop (i+1)):=by rw[zDn,zDn,zBG (k:=6) (fun _=>rfl) h]
@[simp] theorem qHX (d:Md):(zCT d).length=6:=rfl
@[simp] theorem qHW (d:Md):(zCT d).take 6=zCT d:=List.take_of_length_le (Nat.le_refl _)
@[simp] theorem qDY (d:Md)(l:List A):(zCT d++l).take 6=zCT d:=by rw[List.take_append_of_le_length (by simp)]; exact List.take_of_length_le (by simp)
@[simp] theorem qE5 (d:Md):qU (zCT d)=zCT d:=(zGy d).1
@[simp] theorem qLG (d:Md) {rf g}:vwL rf g (zCT d)=zCT d:=(zGy d).2 _ _
def Typ.zero:Typ:=.mk 0 Id.zero []
def Exp.zero:Exp:=.mk Id.zero 0 0 Id.zero Typ.zero [] []
def Dfn.zero:Dfn:=⟨Id.zero,0,Id.zero,⟨#[]⟩,[],Typ.zero,Exp.zero,0,[]⟩
end Go.Proofs.YthglhccibdlccaaGreatDoor
namespace Go.Abs
section
variable {P:Program}
theorem zZb:∀f e,zDV f []=some e→jH P f e:=fun f e h=>by cases h
theorem jM {f0:Nat}{e0:Entry}{T:List (Nat×Entry)}(h0:jH P f0 e0)(hT:∀f e,zDV f T=some e→jH P f e):∀f e,zDV f ((f0,e0)::T)=some e→jH P f e:=fun f e h=>by
 simp only[zDV]at h;cases hb:Nat.beq f f0
 ·rw[hb]at h; exact hT f e h
 ·rw[hb]at h;cases h;rw[Nat.eq_of_beq_eq_true hb];exact h0
theorem zW3 {f:FuncId}{xs:List A} {σ σ':St}{r:A}(h:Ret P f xs σ r σ'):Ret P f xs σ (nrm0 r) σ':=fun H L w vs hs ha=>(h H L w vs hs ha).mono fun e w' hh=>by obtain⟨o,τ,H',L',ho,hn,rfl,rfl⟩:=hh;obtain⟨v,rfl,hv⟩:=ho;exact⟨.ret (nrm0 r),_,H',L',⟨v,rfl,Rel.nrm0 _ hv⟩,hn,rfl,rfl⟩
def qAW (T:List (Nat×Entry))(orc:Run)(lf n:Nat)(f:FuncId)(xs:List A) (σ : St):Option (A×St):=match zT8 T orc lf n f xs σ with
 | some (r,σ')=>some (nrm0 r,σ')
 | none=>none
theorem zW8 {T:List (Nat×Entry)}{orc:Run}{lf n:Nat}(hT:∀f e,zDV f T=some e→jH P f e)(hO:zAm P orc){f:FuncId}{xs:List A} {σ σ':St}{r:A}(h:qAW T orc lf n f xs σ = some (r,σ')):Ret P f xs σ r σ':=by
 unfold qAW at h;split at h
 ·rename_i r0 τ h0;cases h;exact zW3 (zRU hT hO n _ _ _ _ _ h0).2
 ·cases h
def idV:Value→Value→Bool
 | .int .i64 a,.int .i64 b=>decide (a=b)
 | .bool a,.bool b=>a==b
 | .string a,.string b=>decide (a=b)
 | _,_=>false
theorem zTk {a b:Value}(h:idV a b=true):a=b:=by
 unfold idV at h;split at h
 ·rw[of_decide_eq_true h]
 ·rw[eq_of_beq h]
 ·rw[of_decide_eq_true h]
 ·cases h
mutual
def idA:A→A→Bool
 | .nil,.nil=>true
 | .lit a,.lit b=>idV a b
 | .agg a,.agg b=>idL a b
 | .sl n a,.sl m b=>Nat.beq n m&&idL a b
 | _,_=>false
def idL:List A→List A→Bool
 | [],[]=>true
 | a::l,b::l'=>idA a b&&idL l l'
 | _,_=>false
end
mutual
theorem zTj:∀{a b:A},idA a b=true→a=b:=by
 intro a b h;cases a<;>cases b<;>first | rfl | (simp[idA]at h; done) | skip
 case lit.lit=>simp only[idA]at h; rw[zTk h]
 case agg.agg=>simp only[idA]at h; rw[zFG h]
 case sl.sl =>
  simp only[idA]at h;rw[Bool.and_eq_true]at h;rw[Nat.eq_of_beq_eq_true h.1,zFG h.2]
theorem zFG:∀{a b:List A},idL a b=true→a=b:=by
 intro a b h;cases a<;>cases b<;>first | rfl | (simp[idL]at h; done) | skip
 ·simp only[idL]at h;rw[Bool.and_eq_true]at h;rw[zTj h.1,zFG h.2]
end
theorem zMu {H:Mem}{L:List LI}:∀{xs:List A} {vs:List Value},zV H L xs vs→zV H L (qU xs) vs
 | [],vs,h=>by simpa [qU] using h
 | x::xs,vs,h=>by obtain⟨u,us,rfl,h1,h2⟩:=zZ h;simp only[qU];exact qO (Rel.nrm0 _ h1) (zMu h2)
def zYP:List (Nat×List A×A)→Run
 | [],_,_,_=>none
 | (g,ys,r)::T,f,xs,σ=>match Nat.beq f g&&idL (qU xs) ys,σ with
  | true,[]=>some (r,[])
  | _,_=>zYP T f xs σ
theorem zRN:∀{T:List (Nat×List A×A)},(∀p∈T,zA P p.1=true∧Ret P p.1 p.2.1 [] p.2.2 [])→zAm P (zYP T)
 | [],_=>fun f xs σ r σ' h=>by cases h
 | (g,ys,r0)::T,hT=>fun f xs σ r σ' h=>by
  simp only[zYP]at h;split at h
  ·rename_i hb;cases h;rw[Bool.and_eq_true]at hb;obtain⟨h1,h2⟩:=hT _ (List.mem_cons_self ..);rw[Nat.eq_of_beq_eq_true hb.1];refine⟨h1,fun H L w vs hs ha=>h2 H L w vs hs ?_⟩;have:=zMu ha;rw[zFG hb.2]at this;exact this
  ·exact zRN (fun p hp=>hT p (List.mem_cons_of_mem _ hp)) _ _ _ _ _ h
def orE (a b:Run):Run:=fun f xs σ=>match a f xs σ with
 | some r=>some r
 | none=>b f xs σ
theorem zWv {a b:Run}(ha:zAm P a)(hb:zAm P b):zAm P (orE a b):=fun f xs σ r σ' h=>by
 unfold orE at h;split at h
 ·rename_i hx;cases h;exact ha _ _ _ _ _ hx
 ·exact hb _ _ _ _ _ h
end
end Go.Abs
namespace Go.Proofs.YthglhccibdlccaaGreatDoor
open Go.Abs
def qDb:Go.Shelf.Ren:=⟨fun | 6=>95 | 15=>133 | 14=>132 | 28=>154 | 29=>155 | 20=>146 | 21=>147 | 22=>148 | 23=>149 | 24=>150 | 25=>151 | 26=>152 | 27=>153 | 46=>169 | 49=>172 | 50=>173 | 57=>182 | 47=>170 | 48=>171 | n=>n,fun | 22=>45 | 24=>29 | 25=>161 | 3=>3 | 39=>197 | 0=>0 | 53=>218 | 55=>220 | 4=>4 | 46=>211 | 45=>210 | 50=>215 | 5=>5 | 9=>9 | 66=>230 | 70=>234 | 76=>240 | 77=>241 | n=>n,fun n=>n⟩
theorem zVW:Go.Proofs.SlLaysF0.n6 Tryz.prog qDb:={
 mixed:=by kernel_rfl,
 f6:=⟨Tryz.f95.name,by decide,Tryz.func95.trans (congrArg some (by kernel_rfl))⟩,
 f14:=⟨Tryz.f132.name,by decide,Tryz.func132.trans (congrArg some (by kernel_rfl))⟩,
 f15:=Tryz.func133.trans (congrArg some (by kernel_rfl)),
 f20:=⟨Tryz.f146.name,by decide,Tryz.func146.trans (congrArg some (by kernel_rfl))⟩,
 f21:=⟨Tryz.f147.name,by decide,Tryz.func147.trans (congrArg some (by kernel_rfl))⟩,
 f22:=⟨Tryz.f148.name,by decide,Tryz.func148.trans (congrArg some (by kernel_rfl))⟩,
 f23:=⟨Tryz.f149.name,by decide,Tryz.func149.trans (congrArg some (by kernel_rfl))⟩,
 f24:=⟨Tryz.f150.name,by decide,Tryz.func150.trans (congrArg some (by kernel_rfl))⟩,
 f25:=⟨Tryz.f151.name,by decide,Tryz.func151.trans (congrArg some (by kernel_rfl))⟩,
 f26:=⟨Tryz.f152.name,by decide,Tryz.func152.trans (congrArg some (by kernel_rfl))⟩,
 f27:=⟨Tryz.f153.name,by decide,Tryz.func153.trans (congrArg some (by kernel_rfl))⟩,
 f28:=Tryz.func154.trans (congrArg some (by kernel_rfl)),
 f29:=Tryz.func155.trans (congrArg some (by kernel_rfl)),
 f46:=⟨Tryz.f169.name,by decide,Tryz.func169.trans (congrArg some (by kernel_rfl))⟩,
 f47:=Tryz.func170.trans (congrArg some (by kernel_rfl)),
 f48:=Tryz.func171.trans (congrArg some (by kernel_rfl)),
 f49:=⟨Tryz.f172.name,by decide,Tryz.func172.trans (congrArg some (by kernel_rfl))⟩,
 f50:=⟨Tryz.f173.name,by decide,Tryz.func173.trans (congrArg some (by kernel_rfl))⟩,
 f57:=⟨Tryz.f182.name,by decide,Tryz.func182.trans (congrArg some (by kernel_rfl))⟩,
 t0:=Tryz.underlying0,
 a0:=Tryz.isAgg0,
 z0:=Tryz.sizeOf0,
 v0:=Tryz.zeroValue0,
 t3:=Tryz.underlying3,
 a3:=Tryz.isAgg3,
 z3:=Tryz.sizeOf3,
 v3:=Tryz.zeroValue3,
 t4:=Tryz.underlying4,
 a4:=Tryz.isAgg4,
 z4:=Tryz.sizeOf4,
 v4:=Tryz.zeroValue4,
 t5:=Tryz.underlying5,
 a5:=Tryz.isAgg5,
 z5:=Tryz.sizeOf5,
 v5:=Tryz.zeroValue5,
 t9:=Tryz.underlying9,
 a9:=Tryz.isAgg9,
 z9:=Tryz.sizeOf9,
 v9:=Tryz.zeroValue9,
 t22:=Tryz.underlying45,
 a22:=Tryz.isAgg45,
 z22:=Tryz.sizeOf45,
 v22:=Tryz.zeroValue45,
 t25:=Tryz.underlying161,
 a25:=Tryz.isAgg161,
 z25:=Tryz.sizeOf161,
 v25:=Tryz.zeroValue161,
 t39:=Tryz.underlying197,
 a39:=Tryz.isAgg197,
 z39:=Tryz.sizeOf197,
 v39:=Tryz.zeroValue197,
 t45:=Tryz.underlying210,
 a45:=Tryz.isAgg210,
 z45:=Tryz.sizeOf210,
 v45:=Tryz.zeroValue210,
 t46:=Tryz.underlying211,
 a46:=Tryz.isAgg211,
 z46:=Tryz.sizeOf211,
 v46:=Tryz.zeroValue211,
 t50:=Tryz.underlying215,
 a50:=Tryz.isAgg215,
 z50:=Tryz.sizeOf215,
 v50:=Tryz.zeroValue215,
 t53:=Tryz.underlying218,
 a53:=Tryz.isAgg218,
 z53:=Tryz.sizeOf218,
 v53:=Tryz.zeroValue218,
 t55:=Tryz.underlying220,
 a55:=Tryz.isAgg220,
 z55:=Tryz.sizeOf220,
 v55:=Tryz.zeroValue220,
 t66:=Tryz.underlying230,
 a66:=Tryz.isAgg230,
 z66:=Tryz.sizeOf230,
 v66:=Tryz.zeroValue230,
 t70:=Tryz.underlying234,
 a70:=Tryz.isAgg234,
 z70:=Tryz.sizeOf234,
 v70:=Tryz.zeroValue234,
 t76:=Tryz.underlying240,
 a76:=Tryz.isAgg240,
 z76:=Tryz.sizeOf240,
 v76:=Tryz.zeroValue240,
 t77:=Tryz.underlying241,
 a77:=Tryz.isAgg241,
 z77:=Tryz.sizeOf241,
 v77:=Tryz.zeroValue241}
def zRT:Go.Shelf.Ren:=⟨fun | 4=>116 | n=>n,fun | 0=>0 | 3=>3 | 4=>4 | 9=>9 | 20=>20 | 22=>45 | 25=>29 | n=>n,fun n=>n⟩
theorem zYu:Go.Proofs.Lays8.n4 Tryz.prog zRT:={
 mixed:=by kernel_rfl,
 f4:=⟨Tryz.f116.name,by decide,Tryz.func116.trans (congrArg some (by kernel_rfl))⟩,
 t0:=Tryz.underlying0,
 a0:=Tryz.isAgg0,
 z0:=Tryz.sizeOf0,
 v0:=Tryz.zeroValue0,
 t3:=Tryz.underlying3,
 a3:=Tryz.isAgg3,
 z3:=Tryz.sizeOf3,
 v3:=Tryz.zeroValue3,
 t4:=Tryz.underlying4,
 a4:=Tryz.isAgg4,
 z4:=Tryz.sizeOf4,
 v4:=Tryz.zeroValue4,
 t9:=Tryz.underlying9,
 a9:=Tryz.isAgg9,
 z9:=Tryz.sizeOf9,
 v9:=Tryz.zeroValue9,
 t20:=Tryz.underlying20,
 a20:=Tryz.isAgg20,
 z20:=Tryz.sizeOf20,
 v20:=Tryz.zeroValue20,
 t22:=Tryz.underlying45,
 a22:=Tryz.isAgg45,
 z22:=Tryz.sizeOf45,
 v22:=Tryz.zeroValue45}
@[simp] theorem qKo:zA Tryz.prog 116=true:=by kernel_rfl
@[simp] theorem qK1:zA Tryz.prog 95=true:=by kernel_rfl
theorem zNY:∀args w,(callFunc 96 args).run Tryz.prog w=.ok (.enter 96 args) w:=enters_of Tryz.func96 (by kernel_rfl) rfl
theorem zWK:zPB Tryz.prog 95 96 jK zEY :=
 qDp (k:=3) (fun _=>rfl) zFr zWw fun α _ enc hk h1 cf hO blk off cap d w hcmp hH hblk hsz =>
  Go.Proofs.AnyQ.slices_SortFunc zVW 3 Tryz.isAgg29 Tryz.sizeOf29 enc hk h1 cf hO 96 #[] blk off cap d w zNY hcmp hH hblk hsz
theorem zRM:∀(p:Option Addr) (cap:Nat) (fv:Value) (w:World),Calls Tryz.prog 95 #[.slice p 0 cap,fv] w fun e w'=>e=.returned (.tuple #[])∧w'=w :=
 fun p cap fv w=>Go.Proofs.AnyF.slices_SortFunc_none zVW p cap fv w
theorem zNM (l:List Id):l.flatMap jK=zY l:=by
 induction l with
 | nil=>rfl
 | cons v l ih=>rw[List.flatMap_cons,ih]; rfl
theorem zQP (l:List Id)(hmx:l.length<4611686018427387904):Ret Tryz.prog 95 [.row 0 l.length,.clo 96 [] []] [.row false 29 3 l.length (zY l)] (.tup []) [.row false 29 3 l.length (zY (zDb zEY l))]:=by
 have:=zWJ (sz:=3) (by omega) (fun _=>rfl) (fun b=>by simp[jK]) zFr 29 zWK zRM l hmx
 simpa only[zNM] using this
theorem zQQ (x:A):Ret Tryz.prog 95 [.sl 0 [],x] [] (.tup []) []:=by
 intro H L w vs hs hvs;obtain⟨v,vs',rfl,h1,h2⟩:=zZ hvs;obtain⟨fv,vs'',rfl,h3,h4⟩:=zZ h2;have:=jJ h4;subst this;simp only[Rel]at h1;obtain⟨p,cap,rfl,_⟩:=h1;refine(zRM p cap fv w).mono fun e' w' hh=>?_
 obtain⟨rfl,rfl⟩:=hh;exact⟨.ret (.tup []),_,H,L,⟨_,rfl,by simp[Rel,zV]⟩,Nxt.refl hs,rfl,rfl⟩
theorem zQp (n:Nat)(hn:n≤1000000):Ret Tryz.prog 116 [.nil,int n] [] (.row 0 0) [.row false 29 3 0 []] :=
 zLW (ρ:=zRT) (sz:=3) (bs:=24) (z:=.agg #[.int .i64 0,.int .i64 0,.int .i64 0]) zYu (by kernel_rfl) rfl (by omega) (by omega) (by omega)
def zP8:K:=G [kMn 2] (Z (G [M 3 0,⟨none,.isz (some 4) false (kt 3)⟩] (Y 4 (G [kMn 2] kr) ks)) (G [kd 5 29 3 0 [] [],M 6 0,kP 7 29 3 24 5 6,M 2 7] kr))
theorem zUB:zK Tryz.prog Tryz.f94.ntmps (Tryz.f94.body.getD .skip)=some zP8.erase:=by kernel_rfl
@[simp] theorem qH7:zA Tryz.prog 94=true:=by kernel_rfl
def zRl:K:=G [kMn 2] (G [kMi 3 0] (Z (G [M 9 0,kN 10 9,kMi 11 0] (K.block 0 (K.loop (G [kB 12 11 10 .lss] (Z (Y 12 ks (K.exit 0)) (Z (K.block 1 (G [kX 13 9 11 1,L 14 13 1,M 5 14] (G [M 15 3,M 16 5,kN 17 16,kB 18 15 17 .add,M 3 18] (G [M 19 3,kBi 20 19 0 .lss] (Y 20 (K.ops [⟨none,.mki (some 21) 9 (.const (.string ⟨#[108,101,110,32,111,117,116,32,111,102,32,114,97,110,103,101]⟩))⟩,⟨none,.pan none (kt 21)⟩]) ks))))) (K.ops [kBi 22 11 1 .add,M 11 22]))))))) (G [M 23 3,kC 24 116 [(.const kl),(kt 23)],M 6 24] (Z (G [M 25 0,kN 26 25,kMi 27 0] (K.block 2 (K.loop (G [kB 28 27 26 .lss] (Z (Y 28 ks (K.exit 2)) (Z (K.block 3 (G [kX 29 25 27 1,L 30 29 1,M 8 30] (K.ops [M 31 6,M 32 8,kP 33 29 3 24 31 32,M 6 33]))) (K.ops [kBi 34 27 1 .add,M 27 34]))))))) (G [M 35 6,M 2 35] kr)))))
theorem zXv:zK Tryz.prog Tryz.f69.ntmps (Tryz.f69.body.getD .skip)=some zRl.erase:=by kernel_rfl
@[simp] theorem qDP:zA Tryz.prog 69=true:=by kernel_rfl
def zJx:K:=G [kMn 2] (Z (G [M 6 0,kN 7 6,kBi 8 7 2 .lss] (Y 8 (G [M 9 0,M 2 9] kr) ks)) (Z (G [kMi 3 1] (K.block 0 (K.loop (Z (G [M 10 3,M 11 0,kN 12 11,kB 13 10 12 .lss] (Y 13 ks (K.exit 0))) (Z (K.block 1 (Z (K.dops [(0,0,M 16 0),(1,0,M 17 3),(2,0,kX 18 16 17 3),(3,0,J 19 18 3),(4,0,M 20 0),(5,0,M 21 3),(6,0,kBi 22 21 1 .sub),(7,0,kX 23 20 22 3),(8,0,J 24 23 3),(9,0,⟨none,.eqs (some 25) false [.i,.i,.i] (kt 19) (kt 24)⟩)]) (Y 25 (G [M 26 0,M 27 3,⟨none,.rslc (some 28) (kt 26) 3 (some (kt 27)) none⟩,M 4 28] (Z (G [kMi 5 1] (K.block 2 (K.loop (Z (G [M 29 5,M 30 4,kN 31 30,kB 32 29 31 .lss] (Y 32 ks (K.exit 2))) (Z (K.block 3 (Z (K.dops [(0,0,M 35 4),(1,0,M 36 5),(2,0,kX 37 35 36 3),(3,0,J 38 37 3),(4,0,M 39 4),(5,0,M 40 5),(6,0,kBi 41 40 1 .sub),(7,0,kX 42 39 41 3),(8,0,J 43 42 3),(9,0,⟨none,.eqs (some 44) true [.i,.i,.i] (kt 38) (kt 43)⟩)]) (Y 44 (G [M 45 0,M 46 3,M 47 4,M 48 5,kX 49 47 48 3,J 50 49 3,kX 51 45 46 3,S 51 50 3] (K.ops [M 52 3,kBi 53 52 1 .add,M 3 53])) ks))) (K.ops [M 33 5,kBi 34 33 1 .add,M 5 34])))))) (G [M 54 0,M 55 3,⟨none,.rslc (some 56) (kt 54) 3 (some (kt 55)) none⟩,⟨none,.mop none (.clr 3 [ki,ki,ki]) [(kt 56)]⟩] (G [M 57 0,M 58 3,⟨none,.rslc (some 59) (kt 57) 3 none (some (kt 58))⟩,M 2 59] kr)))) ks))) (K.ops [M 14 3,kBi 15 14 1 .add,M 3 15])))))) (G [M 60 0,M 2 60] kr)))
theorem zNG:zK Tryz.prog Tryz.f97.ntmps (Tryz.f97.body.getD .skip)=some zJx.erase:=by kernel_rfl
@[simp] theorem qB7:zA Tryz.prog 97=true:=by kernel_rfl
theorem zNR (l:List Id)(h:l≠[])(hb:l.length≤1000000):Ret Tryz.prog 94 [.sl l.length (zY l)] [] (.row 0 l.length) [.row false 29 3 l.length (zY l)]:=by refine zH Tryz.func94 rfl zUB (rs:=[.slot 2]) (by kernel_rfl) ?_;unfold zP8;simp[h];refine⟨⟨by simp[maxLen]; omega,by omega⟩,?_⟩;exact zG [0] 0 (by simp) (by simp) (by simp) (by simp)
theorem zNS:Ret Tryz.prog 94 [.sl 0 []] [] (.sl 0 []) []:=by refine zH Tryz.func94 rfl zUB (rs:=[.slot 2]) (by kernel_rfl) ?_;unfold zP8;simp;exact⟨zC 0 (by simp),zC 0 (by simp)⟩
def zB8 (Ls:List (List Id)):List A:=Ls.map fun l=>A.sl l.length (zY l)
theorem zEw:∀(Ls:List (List Id)),qX (zB8 Ls)
 | []=>qX.nil
 | l::Ls=>by
  have h1:=zEw Ls;have h2:=zBE l;refine⟨?_,fun rf g=>?_⟩
  ·show qU (A.sl l.length (zY l)::zB8 Ls)=_;simp[h1.1];rfl
  ·show vwL rf g (A.sl l.length (zY l)::zB8 Ls)=_;simp[h1.2];rfl
@[simp] theorem qAE (l:List (List Id)):qU (zB8 l)=zB8 l:=(zEw l).1
@[simp] theorem qFf {rf g}(l:List (List Id)):vwL rf g (zB8 l)=zB8 l:=(zEw l).2 _ _
@[simp] theorem qBO (l:List (List Id)):(zB8 l).length=l.length:=by simp[zB8]
theorem zIE {Ls:List (List Id)}{i:Nat}(h:i<Ls.length):(zB8 Ls).drop i=.sl Ls[i].length (zY Ls[i])::zB8 (Ls.drop (i+1)):=by rw[zB8,←List.map_drop,List.drop_eq_getElem_cons h]; rfl
def zDC (Ls:List (List Id)):Nat:=Ls.flatten.length
theorem zM6 {Ls:List (List Id)}{i:Nat}(h:i<Ls.length):zDC (Ls.take (i+1))=zDC (Ls.take i)+Ls[i].length:=by rw[zDC,zDC,List.take_succ_eq_append_getElem h,List.flatten_append]; simp
theorem zSe (Ls:List (List Id))(i:Nat):zDC (Ls.take i)≤zDC Ls:=by
 have:Ls.flatten=(Ls.take i).flatten++(Ls.drop i).flatten:=by rw[←List.flatten_append,List.take_append_drop]
 rw[zDC,zDC,this,List.length_append]; omega
theorem zML (Ls:List (List Id))(hb:zDC Ls≤1000000):Ret Tryz.prog 69 [.sl Ls.length (zB8 Ls)] [] (.sl (zDC Ls) (zY Ls.flatten)) []:=by
 refine zH Tryz.func69 rfl zXv (rs:=[.slot 2]) (by kernel_rfl) ?_;unfold zRl;simp;intro hl;refine qR (S:=Nat) (fun i=>[(0,.sl Ls.length (zB8 Ls)),(3,int (zDC (Ls.take i))),(9,.sl Ls.length (zB8 Ls)),(10,int Ls.length),(11,int i)]) (fun s=>[]) (fun i=>i≤Ls.length) (fun i=>Ls.length-i) 0 (by simp)
  (zP [] 0 (by simp) (by simp) (by simp) (by simp[zDC])) ?_
 intro i hi;by_cases h:i<Ls.length
 ·have ht:=zM6 h;have hle:=zSe Ls (i+1);have hw:IntKind.i64.wrap ((zDC (Ls.take i):Int)+(Ls[i].length:Int))=(zDC (Ls.take (i+1)):Nat):=by rw[ht]; push_cast; exact IntWalk.i64_in _ (by omega)
  have h0:¬((zDC (Ls.take (i+1)):Nat):Int)<0:=by omega
  simp[h,zIE h];intro _;simp[hw,h0];exact zS (i+1) h (by omega) (zP [] 0 (by simp) (by simp) (by simp) (by simp[qA h hl]))
 ·have hil:i=Ls.length:=by omega
  subst hil;have hI:¬(Ls.length:Int)<Ls.length:=by omega
  simp;refine zN (zQp (zDC Ls) hb) [] (by simp) (by simp) (by simp) ?_;simp;intro _;refine qR (S:=Nat) (fun i=>[(6,.row 0 (zDC (Ls.take i))),(25,.sl Ls.length (zB8 Ls)),(26,int Ls.length),(27,int i)]) (fun i=>[.row false 29 3 (zDC (Ls.take i)) (zY (Ls.take i).flatten)]) (fun i=>i≤Ls.length) (fun i=>Ls.length-i) 0 (by simp)
   (zP [0] 0 (by simp) (by simp) (by simp[zDC]) (by simp[zDC])) ?_
  intro i hi;by_cases h:i<Ls.length
  ·have ht:=zM6 h;have hle:=zSe Ls (i+1);have hf:(Ls.take (i+1)).flatten=(Ls.take i).flatten++Ls[i]:=by rw[List.take_succ_eq_append_getElem h,List.flatten_append]; simp
   simp[h,zIE h];refine⟨⟨by simp[maxLen]; omega,by omega⟩,?_⟩;exact zS (i+1) h (by omega) (zP [0] 0 (by simp) (by simp) (by simp[ht,hf,jA]) (by simp[ht,qA h hl]))
  ·have hil:i=Ls.length:=by omega
   subst hil;simp;exact zC 1 (by simp)
def KId:K:=G [kZ 2 [ki,ki,ki]] (G [M 3 0,kb 4 [ki,ki,ki] [(1,1,(kc 1)),(2,1,(kt 3))],S 2 4 3] kr)
theorem cId:zK Tryz.prog Tryz.f40.ntmps (Tryz.f40.body.getD .skip)=some KId.erase:=by kernel_rfl
@[simp] theorem qHC:zA Tryz.prog 40=true:=by kernel_rfl
def EId:Entry:=⟨KId,[.cell 2 3 true],false⟩
theorem qIc:jH Tryz.prog 40 EId:=⟨qHC,_,_,zAp,Tryz.func40,rfl,cId,by kernel_rfl⟩
def qGB:K:=G [kZ 4 kz1] (G [M 5 0,kC 6 40 [(kt 5)],M 7 1,kC 8 40 [(kt 7)],kb 9 kz1 [(0,3,(kt 6)),(3,1,(kc 2)),(5,3,(kt 8))],S 4 9 15] kr)
theorem qNf:zK Tryz.prog Tryz.f88.ntmps (Tryz.f88.body.getD .skip)=some qGB.erase:=by kernel_rfl
@[simp] theorem qBF:zA Tryz.prog 88=true:=by kernel_rfl
def qFF:Entry:=⟨qGB,[.cell 4 15 true],false⟩
theorem qCm:jH Tryz.prog 88 qFF:=⟨qBF,_,_,zAp,Tryz.func88,rfl,qNf,by kernel_rfl⟩
def KEx:K:=G [kZ 0 [kl,kl]] (G [kC 5 40 [(kc 11)],kC 6 88 [(kc 12),(kc 2)],kC 7 40 [(kc 13)],kb 8 kz1 [(0,3,(kt 7)),(4,1,(kc 3))],kd 9 37 15 2 kz6 [(0,15,(kt 6)),(15,15,(kt 8))],kb 10 kz1 [(0,3,(kt 5)),(3,1,(kc 4)),(4,1,(kc 5)),(13,1,(kt 9))],kZ 1 kz1,S 1 10 15] (G [kC 11 40 [(kc 15)],kC 12 40 [(kc 3)],kC 13 88 [(kc 16),(kc 2)],kd 14 37 15 1 kz1 [(0,15,(kt 13))],kb 15 kz1 [(0,3,(kt 11)),(3,1,(kc 3)),(5,3,(kt 12)),(13,1,(kt 14))],kZ 2 kz1,S 2 15 15] (Z (K.dops [(0,1,kC 16 40 [(kc 1)]),(1,1,kC 17 40 [(kc 0)]),(2,1,kC 18 40 [(kc 2)]),(3,0,⟨none,.build (some 19) kz5 [(0,3,(kt 18)),(3,1,(.const (.string ⟨#[97]⟩)))]⟩),(4,0,kd 20 90 11 1 kz5 [(0,11,(kt 19))]),(5,1,kC 21 40 [(kc 10)]),(6,1,J 22 1 15),(7,1,kC 23 88 [(kc 14),(kc 2)]),(8,1,J 24 2 15),(9,0,kd 25 37 15 3 kz4 [(0,15,(kt 22)),(15,15,(kt 23)),(30,15,(kt 24))]),(10,0,kb 26 kz1 [(0,3,(kt 21)),(3,1,(kc 5)),(13,1,(kt 25))]),(11,0,⟨none,.build (some 27) kz0 [(0,3,(kt 16)),(3,1,(kc 2)),(4,3,(kt 17)),(7,1,(.const (.string ⟨#[102]⟩))),(8,1,(kt 20)),(14,15,(kt 26))]⟩),(12,0,kZ 3 kz0),(13,0,S 3 27 31)]) (G [kC 28 40 [(kc 3)],kC 29 40 [(kc 0)],kC 30 40 [(kc 4)],⟨none,.build (some 31) kz5 [(0,3,(kt 30)),(3,1,(.const (.string ⟨#[97]⟩)))]⟩,kd 32 90 11 1 kz5 [(0,11,(kt 31))],kC 33 88 [(kc 17),(kc 4)],⟨none,.build (some 34) kz0 [(0,3,(kt 28)),(3,1,(kc 2)),(4,3,(kt 29)),(7,1,(.const (.string ⟨#[103]⟩))),(8,1,(kt 32)),(14,15,(kt 33))]⟩,kZ 4 kz0,
 S 4 34 31] (Z (K.dops [(0,1,kC 35 40 [(kc 0)]),(1,1,kC 36 40 [(kc 1)]),(2,1,kC 37 40 [(kc 3)]),(3,0,kd 38 29 3 2 [ki,ki,ki,ki,ki,ki] [(0,3,(kt 36)),(3,3,(kt 37))]),(4,0,⟨none,.build (some 39) kz9 [(0,3,(kt 35)),(3,1,(.const (.string ⟨#[109]⟩))),(5,1,(kt 38))]⟩),(5,0,kd 40 84 6 1 kz9 [(0,6,(kt 39))]),(6,1,J 41 3 31),(7,1,J 42 4 31),(8,9,⟨none,.brow (some 43) 39 31 2 kz8 [(0,31,(kt 41)),(31,31,(kt 42))]⟩),(9,0,kb 44 [kl,kl] [(0,1,(kt 40)),(1,1,(kt 43))]),(10,0,S 0 44 2)]) kr)))))
def hEx:Nat→Option (List (Nat×Nat)):=fun r=>match r with | 5=>some [(0,1),(1,1),(2,1),(3,0),(4,0),(5,0),(6,1),(7,1),(8,9),(9,0),(10,0)] | _=>none
theorem cEx:qD Tryz.prog Tryz.f39.ntmps hEx (Tryz.f39.body.getD .skip)=some KEx.erase:=by kernel_rfl
@[simp] theorem qH9:zA Tryz.prog 39=true:=by kernel_rfl
def EEx:Entry:=⟨KEx,[.cell 0 2 true],false⟩
theorem qIb:jH Tryz.prog 39 EEx:=⟨qH9,_,_,hEx,Tryz.func39,rfl,cEx,by kernel_rfl⟩
def zMP (i:Int)(k n:Int)(r:Int)(kids:List Exp):Exp:=.mk ⟨0,1,i⟩ k n (if r<0 then Id.zero else ⟨0,1,r⟩) Typ.zero kids []
def exF:Dfn:=⟨⟨0,1,1⟩,2,⟨0,1,0⟩,⟨#[102]⟩,[⟨⟨0,1,2⟩,⟨#[97]⟩,Typ.zero,0,0⟩],Typ.zero,
 zMP 10 5 0 (-1) [zMP 11 4 5 (-1) [zMP 12 2 0 2 [],zMP 13 0 3 (-1) []],zMP 14 2 0 2 [],zMP 15 3 0 3 [zMP 16 2 0 2 []]],0,[]⟩
def exG (b:Exp):Dfn:=⟨⟨0,1,3⟩,2,⟨0,1,0⟩,⟨#[103]⟩,[⟨⟨0,1,4⟩,⟨#[97]⟩,Typ.zero,0,0⟩],Typ.zero,b,0,[]⟩
def exM:Md:=⟨⟨0,1,0⟩,⟨#[109]⟩,[],[⟨0,1,1⟩,⟨0,1,3⟩]⟩
def exP:Prg:=⟨[exM],[exF,exG (zMP 17 2 0 4 [])]⟩
def exQ:Prg:=⟨[exM],[exF,exG (zMP 17 0 7 (-1) [])]⟩
end Go.Proofs.YthglhccibdlccaaGreatDoor
