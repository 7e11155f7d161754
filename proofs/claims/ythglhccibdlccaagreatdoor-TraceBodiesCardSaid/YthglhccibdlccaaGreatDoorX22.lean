/-
  Programs as data: types, expressions, definitions, and their cells.
  Tables of the evaluator; results in their plain form.
  slices.Clone, Grow, Concat, SortFunc, Compact at lists of IDs.
  The law's example.
-/
import Derived.Test.YthglhccibdlccaaGreatDoorX19
import Derived.Test.YthglhccibdlccaaGreatDoorX18
import Derived.Test.YthglhccibdlccaaGreatDoorX21
set_option linter.unusedVariables false
set_option linter.unusedSimpArgs false
namespace Go.Proofs.YthglhccibdlccaaGreatDoor
open Go.Abs
@[simp] theorem qG6 (d:Id):(qF d).take 3=qF d:=List.take_of_length_le (Nat.le_refl _)
@[simp] theorem qG7 (d:Id):(qF d).length=3:=rfl
theorem zJs (d:Id):qW (qF d):=qW.lit (qW.lit (qW.lit qW.nil))
@[simp] theorem qDh (d:Id):qV (qF d)=qF d:=(zJs d).1
@[simp] theorem qKv (d:Id) {rf g}:vwL rf g (qF d)=qF d:=(zJs d).2 _ _
def zUj (s:ByteArray):List A:=[.lit (.string s)]
def yT (l:List ByteArray):List A:=l.flatMap zUj
theorem zPd (s:ByteArray):qW (zUj s):=qW.lit qW.nil
theorem zBd (l:List ByteArray):qW (yT l):=zAE zPd l
@[simp] theorem zZw (l:List ByteArray):qV (yT l)=yT l:=(zBd l).1
@[simp] theorem qDL {rf g}(l:List ByteArray):vwL rf g (yT l)=yT l:=(zBd l).2 _ _
@[simp] theorem qA6 (l:List ByteArray):(yT l).length=l.length:=by rw[yT,zBl (k:=1) (fun _=>rfl),Nat.mul_one]
@[simp] theorem qA7:yT []=[]:=rfl
inductive Typ where
 | mk (k:Int) (id:Id) (kids:List Typ)
def Typ.k:Typ→Int | .mk k _ _=>k
def Typ.id:Typ→Id | .mk _ d _=>d
def Typ.kids:Typ→List Typ | .mk _ _ l=>l
@[simp] theorem Typ.k_mk {k:Int}{i:Id}{l:List Typ}:(Typ.mk k i l).k=k:=rfl
@[simp] theorem Typ.id_mk {k:Int}{i:Id}{l:List Typ}:(Typ.mk k i l).id=i:=rfl
@[simp] theorem Typ.kids_mk {k:Int}{i:Id}{l:List Typ}:(Typ.mk k i l).kids=l:=rfl
mutual
def zIr:Typ→A
 | .mk _ _ l=>.sl l.length (jJ l)
def jJ:List Typ→List A
 | []=>[]
 | t::l=>.lit (.int .i64 t.k)::.lit (.int .i64 t.id.a)::.lit (.int .i64 t.id.b)::.lit (.int .i64 t.id.c)::zIr t::jJ l
end
theorem zTS (t:Typ):zIr t=.sl t.kids.length (jJ t.kids):=by cases t; simp only[zIr,Typ.kids]
def zB (t:Typ):List A:=[.lit (.int .i64 t.k),.lit (.int .i64 t.id.a),.lit (.int .i64 t.id.b),.lit (.int .i64 t.id.c),.sl t.kids.length (jJ t.kids)]
theorem zCq (l:List Typ):jJ l=l.flatMap zB:=by
 induction l with
 | nil=>simp only[jJ,List.flatMap_nil]
 | cons t l ih=>simp only[jJ,List.flatMap_cons,ih,zTS,zB]; rfl
mutual
theorem zMS:∀t:Typ,nrm0 (zIr t)=zIr t∧∀rf g,vw rf g (zIr t)=zIr t
 | .mk k n l=>by have h:=yJ l;simp only[zIr];exact⟨by simp[h.1],fun rf g=>by simp[h.2]⟩
theorem yJ:∀l:List Typ,qW (jJ l)
 | []=>by simp only[jJ]; exact qW.nil
 | v::l=>by have h:=zMS v;have h':=yJ l;simp only[jJ];exact⟨by simp[h.1,h'.1],fun rf g=>by simp[h.2,h'.2]⟩
end
theorem zJt (t:Typ):qW (zB t):=qW.lit (qW.lit (qW.lit (qW.lit (qW.sl (yJ _) qW.nil))))
inductive Exp where
 | mk (id:Id) (k n:Int) (ref:Id) (typ:Typ) (kids:List Exp) (names:List ByteArray)
def Exp.id:Exp→Id | .mk x _ _ _ _ _ _=>x
def Exp.k:Exp→Int | .mk _ x _ _ _ _ _=>x
def Exp.n:Exp→Int | .mk _ _ x _ _ _ _=>x
def Exp.ref:Exp→Id | .mk _ _ _ x _ _ _=>x
def Exp.typ:Exp→Typ | .mk _ _ _ _ x _ _=>x
def Exp.kids:Exp→List Exp | .mk _ _ _ _ _ x _=>x
def Exp.names:Exp→List ByteArray | .mk _ _ _ _ _ _ x=>x
@[simp] theorem Exp.id_mk {a:Id}{b c:Int}{d:Id}{e:Typ}{f:List Exp}{g:List ByteArray}:(Exp.mk a b c d e f g).id=a:=rfl
@[simp] theorem Exp.k_mk {a:Id}{b c:Int}{d:Id}{e:Typ}{f:List Exp}{g:List ByteArray}:(Exp.mk a b c d e f g).k=b:=rfl
@[simp] theorem Exp.n_mk {a:Id}{b c:Int}{d:Id}{e:Typ}{f:List Exp}{g:List ByteArray}:(Exp.mk a b c d e f g).n=c:=rfl
@[simp] theorem Exp.ref_mk {a:Id}{b c:Int}{d:Id}{e:Typ}{f:List Exp}{g:List ByteArray}:(Exp.mk a b c d e f g).ref=d:=rfl
@[simp] theorem Exp.typ_mk {a:Id}{b c:Int}{d:Id}{e:Typ}{f:List Exp}{g:List ByteArray}:(Exp.mk a b c d e f g).typ=e:=rfl
@[simp] theorem Exp.kids_mk {a:Id}{b c:Int}{d:Id}{e:Typ}{f:List Exp}{g:List ByteArray}:(Exp.mk a b c d e f g).kids=f:=rfl
@[simp] theorem Exp.names_mk {a:Id}{b c:Int}{d:Id}{e:Typ}{f:List Exp}{g:List ByteArray}:(Exp.mk a b c d e f g).names=g:=rfl
mutual
def zIq:Exp→A
 | .mk _ _ _ _ _ l _=>.sl l.length (qU l)
def qU:List Exp→List A
 | []=>[]
 | e::l=>[.lit (.int .i64 e.id.a),.lit (.int .i64 e.id.b),.lit (.int .i64 e.id.c),.lit (.int .i64 e.k),.lit (.int .i64 e.n),.lit (.int .i64 e.ref.a),.lit (.int .i64 e.ref.b),.lit (.int .i64 e.ref.c),.lit (.int .i64 e.typ.k),.lit (.int .i64 e.typ.id.a),.lit (.int .i64 e.typ.id.b),.lit (.int .i64 e.typ.id.c),.sl e.typ.kids.length (jJ e.typ.kids),zIq e,.sl e.names.length (yT e.names)]++qU l
end
theorem zTR (e:Exp):zIq e=.sl e.kids.length (qU e.kids):=by cases e; simp only[zIq,Exp.kids]
def zF (e:Exp):List A:=[.lit (.int .i64 e.id.a),.lit (.int .i64 e.id.b),.lit (.int .i64 e.id.c),.lit (.int .i64 e.k),.lit (.int .i64 e.n),.lit (.int .i64 e.ref.a),.lit (.int .i64 e.ref.b),.lit (.int .i64 e.ref.c),.lit (.int .i64 e.typ.k),.lit (.int .i64 e.typ.id.a),.lit (.int .i64 e.typ.id.b),.lit (.int .i64 e.typ.id.c),.sl e.typ.kids.length (jJ e.typ.kids),.sl e.kids.length (qU e.kids),.sl e.names.length (yT e.names)]
theorem zBM (l:List Exp):qU l=l.flatMap zF:=by
 induction l with
 | nil=>simp only[qU,List.flatMap_nil]
 | cons t l ih=>simp only[qU,List.flatMap_cons,ih,zTR,zF]
mutual
theorem zMR:∀t:Exp,nrm0 (zIq t)=zIq t∧∀rf g,vw rf g (zIq t)=zIq t
 | .mk _ _ _ _ _ l _=>by have h:=zB0 l;simp only[zIq];exact⟨by simp[h.1],fun rf g=>by simp[h.2]⟩
theorem zB0:∀l:List Exp,qW (qU l)
 | []=>by simp only[qU]; exact qW.nil
 | v::l=>by have h:=zMR v;have h':=zB0 l;have h1:=yJ v.typ.kids;have h2:=zBd v.names;simp only[qU];exact⟨by simp[h.1,h'.1,h1.1,h2.1],fun rf g=>by simp[h.2,h'.2,h1.2,h2.2]⟩
end
theorem zGc (e:Exp):qW (zF e):=by have h:=zB0 e.kids;have h1:=yJ e.typ.kids;have h2:=zBd e.names;exact⟨by simp[zF,h.1,h1.1,h2.1],fun rf g=>by simp[zF,h.2,h1.2,h2.2]⟩
structure Slt where
 id:Id
 name:ByteArray
 typ:Typ
 most:Int
 place:Int
def zAi (s:Slt):List A:=[.lit (.int .i64 s.id.a),.lit (.int .i64 s.id.b),.lit (.int .i64 s.id.c),.lit (.string s.name),.lit (.int .i64 s.typ.k),.lit (.int .i64 s.typ.id.a),.lit (.int .i64 s.typ.id.b),.lit (.int .i64 s.typ.id.c),.sl s.typ.kids.length (jJ s.typ.kids),.lit (.int .i64 s.most),.lit (.int .i64 s.place)]
theorem zEk (s:Slt):qW (zAi s):=by have h1:=yJ s.typ.kids;exact⟨by simp[zAi,h1.1],fun rf g=>by simp[zAi,h1.2]⟩
def jT (l:List Slt):List A:=l.flatMap zAi
theorem zCY (l:List Slt):jT l=l.flatMap zAi:=rfl
structure Dfn where
 id:Id
 kind:Int
 mod:Id
 name:ByteArray
 slots:List Slt
 res:Typ
 body:Exp
 place:Int
 lay:List ByteArray
def zO (d:Dfn):List A:=[.lit (.int .i64 d.id.a),.lit (.int .i64 d.id.b),.lit (.int .i64 d.id.c),.lit (.int .i64 d.kind),.lit (.int .i64 d.mod.a),.lit (.int .i64 d.mod.b),.lit (.int .i64 d.mod.c),.lit (.string d.name),.sl d.slots.length (jT d.slots),.lit (.int .i64 d.res.k),.lit (.int .i64 d.res.id.a),.lit (.int .i64 d.res.id.b),.lit (.int .i64 d.res.id.c),.sl d.res.kids.length (jJ d.res.kids),.lit (.int .i64 d.body.id.a),.lit (.int .i64 d.body.id.b),.lit (.int .i64 d.body.id.c),.lit (.int .i64 d.body.k),.lit (.int .i64 d.body.n),.lit (.int .i64 d.body.ref.a),.lit (.int .i64 d.body.ref.b),.lit (.int .i64 d.body.ref.c),.lit (.int .i64 d.body.typ.k),.lit (.int .i64 d.body.typ.id.a),.lit (.int .i64 d.body.typ.id.b),.lit (.int .i64 d.body.typ.id.c),.sl d.body.typ.kids.length (jJ d.body.typ.kids),.sl d.body.kids.length (qU d.body.kids),.sl d.body.names.length (yT d.body.names),.lit (.int .i64 d.place),.sl d.lay.length (yT d.lay)]
theorem zEi (d:Dfn):qW (zO d):=by have h1:=yJ d.res.kids;have h2:=yJ d.body.typ.kids;have h3:=zB0 d.body.kids;have h4:=zBd d.body.names;have h5:=zBd d.lay;have h6:=zAE zEk d.slots;exact⟨by simp[zO,jT,h1.1,h2.1,h3.1,h4.1,h5.1,h6.1],fun rf g=>by simp[zO,jT,h1.2,h2.2,h3.2,h4.2,h5.2,h6.2]⟩
def qE (l:List Dfn):List A:=l.flatMap zO
theorem zBL (l:List Dfn):qE l=l.flatMap zO:=rfl
structure Md where
 id:Id
 name:ByteArray
 uses:List Id
 defs:List Id
def zDB (m:Md):List A:=[.lit (.int .i64 m.id.a),.lit (.int .i64 m.id.b),.lit (.int .i64 m.id.c),.lit (.string m.name),.sl m.uses.length (zX m.uses),.sl m.defs.length (zX m.defs)]
theorem zGe (m:Md):qW (zDB m):=by have h1:=zB1 m.uses;have h2:=zB1 m.defs;exact⟨by simp[zDB,h1.1,h2.1],fun rf g=>by simp[zDB,h1.2,h2.2]⟩
def jF (l:List Md):List A:=l.flatMap zDB
theorem zFu (l:List Md):jF l=l.flatMap zDB:=rfl
structure Prg where
 mods:List Md
 defs:List Dfn
def zU (p:Prg):List A:=[.sl p.mods.length (jF p.mods),.sl p.defs.length (qE p.defs)]
theorem eP(p:Prg):zU p=[.sl p.mods.length (jF p.mods),.sl p.defs.length (qE p.defs)]:=rfl
@[simp] theorem zZz (l:List Typ):qV (jJ l)=jJ l:=(yJ l).1
@[simp] theorem qDP {rf g}(l:List Typ):vwL rf g (jJ l)=jJ l:=(yJ l).2 _ _
@[simp] theorem qAF:jJ []=[]:=by rw[zCq]; rfl
theorem qG (x:Typ)(l:List Typ):jJ (x::l)=zB x++jJ l:=by rw[zCq,zCq]; rfl
theorem zDA (l l':List Typ):jJ (l++l')=jJ l++jJ l':=by simp only[zCq,List.flatMap_append]
@[simp] theorem qAE (l:List Typ):(jJ l).length=l.length*5:=by rw[zCq,zBl (k:=5) (fun _=>rfl)]
theorem zBP {l:List Typ}{i:Nat}(h:i<l.length):(jJ l).drop (i*5)=zB l[i]++jJ (l.drop (i+1)):=by rw[zCq,zCq,zBQ (k:=5) (fun _=>rfl) h]
@[simp] theorem qGD (d:Typ):(zB d).length=5:=rfl
@[simp] theorem qGC (d:Typ):(zB d).take 5=zB d:=List.take_of_length_le (Nat.le_refl _)
@[simp] theorem qCD (d:Typ)(l:List A):(zB d++l).take 5=zB d:=by rw[List.take_append_of_le_length (by simp)]; exact List.take_of_length_le (by simp)
@[simp] theorem qDk (d:Typ):qV (zB d)=zB d:=(zJt d).1
@[simp] theorem qKy (d:Typ) {rf g}:vwL rf g (zB d)=zB d:=(zJt d).2 _ _
@[simp] theorem zZr (l:List Exp):qV (qU l)=qU l:=(zB0 l).1
@[simp] theorem qDG {rf g}(l:List Exp):vwL rf g (qU l)=qU l:=(zB0 l).2 _ _
@[simp] theorem qAz:qU []=[]:=by rw[zBM]; rfl
theorem zJ (x:Exp)(l:List Exp):qU (x::l)=zF x++qU l:=by rw[zBM,zBM]; rfl
@[simp] theorem qAy (l:List Exp):(qU l).length=l.length*15:=by rw[zBM,zBl (k:=15) (fun _=>rfl)]
theorem yQ {l:List Exp}{i:Nat}(h:i<l.length):(qU l).drop (i*15)=zF l[i]++qU (l.drop (i+1)):=by rw[zBM,zBM,zBQ (k:=15) (fun _=>rfl) h]
theorem zAd {l:List Exp}{i:Nat}(h:i<l.length):qU (l.take (i+1))=qU (l.take i)++zF l[i]:=by rw[zBM,zBM,zCc (k:=15) (fun _=>rfl) h]
@[simp] theorem qG3 (d:Exp):(zF d).length=15:=rfl
@[simp] theorem qG2 (d:Exp):(zF d).take 15=zF d:=List.take_of_length_le (Nat.le_refl _)
@[simp] theorem qC9 (d:Exp)(l:List A):(zF d++l).take 15=zF d:=by rw[List.take_append_of_le_length (by simp)]; exact List.take_of_length_le (by simp)
@[simp] theorem qDf (d:Exp):qV (zF d)=zF d:=(zGc d).1
@[simp] theorem qKt (d:Exp) {rf g}:vwL rf g (zF d)=zF d:=(zGc d).2 _ _
theorem zGH (l:List Slt):qW (jT l):=zAE zEk l
@[simp] theorem zZy (l:List Slt):qV (jT l)=jT l:=(zGH l).1
@[simp] theorem qDO {rf g}(l:List Slt):vwL rf g (jT l)=jT l:=(zGH l).2 _ _
@[simp] theorem qAD:jT []=[]:=by rw[zCY]; rfl
@[simp] theorem qAC (l:List Slt):(jT l).length=l.length*11:=by rw[zCY,zBl (k:=11) (fun _=>rfl)]
theorem jP {l:List Slt}{i:Nat}(h:i<l.length):(jT l).drop (i*11)=zAi l[i]++jT (l.drop (i+1)):=by rw[zCY,zCY,zBQ (k:=11) (fun _=>rfl) h]
theorem zH6 {l:List Slt}{i:Nat}(h:i<l.length):jT (l.take (i+1))=jT (l.take i)++zAi l[i]:=by rw[zCY,zCY,zCc (k:=11) (fun _=>rfl) h]
@[simp] theorem qGB (d:Slt):(zAi d).length=11:=rfl
@[simp] theorem qGA (d:Slt):(zAi d).take 11=zAi d:=List.take_of_length_le (Nat.le_refl _)
@[simp] theorem qCC (d:Slt)(l:List A):(zAi d++l).take 11=zAi d:=by rw[List.take_append_of_le_length (by simp)]; exact List.take_of_length_le (by simp)
@[simp] theorem qDj (d:Slt):qV (zAi d)=zAi d:=(zEk d).1
@[simp] theorem qKx (d:Slt) {rf g}:vwL rf g (zAi d)=zAi d:=(zEk d).2 _ _
theorem zEc (l:List Dfn):qW (qE l):=zAE zEi l
@[simp] theorem zZq (l:List Dfn):qV (qE l)=qE l:=(zEc l).1
@[simp] theorem qDF {rf g}(l:List Dfn):vwL rf g (qE l)=qE l:=(zEc l).2 _ _
@[simp] theorem qAx:qE []=[]:=by rw[zBL]; rfl
@[simp] theorem zOQ (l:List Dfn):(qE l).length=l.length*31:=by rw[zBL,zBl (k:=31) (fun _=>rfl)]
theorem jV {l:List Dfn}{i:Nat}(h:i<l.length):(qE l).drop (i*31)=zO l[i]++qE (l.drop (i+1)):=by rw[zBL,zBL,zBQ (k:=31) (fun _=>rfl) h]
theorem zH3 {l:List Dfn}{i:Nat}(h:i<l.length):qE (l.take (i+1))=qE (l.take i)++zO l[i]:=by rw[zBL,zBL,zCc (k:=31) (fun _=>rfl) h]
theorem zOR {l:List Dfn}{i:Nat}(x:Dfn)(h:i<l.length):(qE l).take (i*31)++(zO x++(qE l).drop (i*31+31))=qE (l.set i x):=by rw[zBL,zBL,zNm (k:=31) (fun _=>rfl) x h]
@[simp] theorem zUi (d:Dfn):(zO d).length=31:=rfl
@[simp] theorem qG1 (d:Dfn):(zO d).take 31=zO d:=List.take_of_length_le (Nat.le_refl _)
@[simp] theorem qC8 (d:Dfn)(l:List A):(zO d++l).take 31=zO d:=by rw[List.take_append_of_le_length (by simp)]; exact List.take_of_length_le (by simp)
@[simp] theorem qDe (d:Dfn):qV (zO d)=zO d:=(zEi d).1
@[simp] theorem qKs (d:Dfn) {rf g}:vwL rf g (zO d)=zO d:=(zEi d).2 _ _
theorem zEf (l:List Md):qW (jF l):=zAE zGe l
@[simp] theorem zZv (l:List Md):qV (jF l)=jF l:=(zEf l).1
@[simp] theorem qDK {rf g}(l:List Md):vwL rf g (jF l)=jF l:=(zEf l).2 _ _
@[simp] theorem qA5:jF []=[]:=by rw[zFu]; rfl
theorem zBO (x:Md)(l:List Md):jF (x::l)=zDB x++jF l:=by rw[zFu,zFu]; rfl
@[simp] theorem qA4 (l:List Md):(jF l).length=l.length*6:=by rw[zFu,zBl (k:=6) (fun _=>rfl)]
@[simp] theorem qG9 (d:Md):(zDB d).length=6:=rfl
@[simp] theorem qG8 (d:Md):(zDB d).take 6=zDB d:=List.take_of_length_le (Nat.le_refl _)
@[simp] theorem qCB (d:Md)(l:List A):(zDB d++l).take 6=zDB d:=by rw[List.take_append_of_le_length (by simp)]; exact List.take_of_length_le (by simp)
@[simp] theorem qDi (d:Md):qV (zDB d)=zDB d:=(zGe d).1
@[simp] theorem qKw (d:Md) {rf g}:vwL rf g (zDB d)=zDB d:=(zGe d).2 _ _
def Typ.zero:Typ:=.mk 0 Id.zero []
def Exp.zero:Exp:=.mk Id.zero 0 0 Id.zero Typ.zero [] []
def Dfn.zero:Dfn:=⟨Id.zero,0,Id.zero,⟨#[]⟩,[],Typ.zero,Exp.zero,0,[]⟩
end Go.Proofs.YthglhccibdlccaaGreatDoor
namespace Go.Abs
section
variable {P:Program}
theorem zXF:∀f e,zDC f []=some e→jI P f e:=fun f e h=>by cases h
theorem jM {f0:Nat}{e0:Entry}{T:List (Nat×Entry)}(h0:jI P f0 e0)(hT:∀f e,zDC f T=some e→jI P f e):∀f e,zDC f ((f0,e0)::T)=some e→jI P f e:=fun f e h=>by
 simp only[zDC]at h;cases hb:Nat.beq f f0
 ·rw[hb]at h; exact hT f e h
 ·rw[hb]at h;cases h;rw[Nat.eq_of_beq_eq_true hb];exact h0
theorem zVo {f:FuncId}{xs:List A} {σ σ':St}{r:A}(h:Ret P f xs σ r σ'):Ret P f xs σ (nrm0 r) σ':=fun H L w vs hs ha=>(h H L w vs hs ha).mono fun e w' hh=>by obtain⟨o,τ,H',L',ho,hn,rfl,rfl⟩:=hh;obtain⟨v,rfl,hv⟩:=ho;exact⟨.ret (nrm0 r),_,H',L',⟨v,rfl,Rel.nrm0 _ hv⟩,hn,rfl,rfl⟩
def zZD (T:List (Nat×Entry))(orc:Run)(lf n:Nat)(f:FuncId)(xs:List A) (σ : St):Option (A×St):=match zS2 T orc lf n f xs σ with
 | some (r,σ')=>some (nrm0 r,σ')
 | none=>none
theorem zVs {T:List (Nat×Entry)}{orc:Run}{lf n:Nat}(hT:∀f e,zDC f T=some e→jI P f e)(hO:zAh P orc){f:FuncId}{xs:List A} {σ σ':St}{r:A}(h:zZD T orc lf n f xs σ = some (r,σ')):Ret P f xs σ r σ':=by
 unfold zZD at h;split at h
 ·rename_i r0 τ h0;cases h;exact zVo (zQT hT hO n _ _ _ _ _ h0).2
 ·cases h
def idV:Value→Value→Bool
 | .int .i64 a,.int .i64 b=>decide (a=b)
 | .bool a,.bool b=>a==b
 | .string a,.string b=>decide (a=b)
 | _,_=>false
theorem zSd {a b:Value}(h:idV a b=true):a=b:=by
 unfold idV at h;split at h
 ·rw[of_decide_eq_true h]
 ·rw[eq_of_beq h]
 ·rw[of_decide_eq_true h]
 ·cases h
mutual
def idA:A→A→Bool
 | .nil,.nil=>true
 | .lit a,.lit b=>idV a b
 | .agg a,.agg b=>idL a b
 | .sl n a,.sl m b=>Nat.beq n m&&idL a b
 | _,_=>false
def idL:List A→List A→Bool
 | [],[]=>true
 | a::l,b::l'=>idA a b&&idL l l'
 | _,_=>false
end
mutual
theorem zSc:∀{a b:A},idA a b=true→a=b:=by
 intro a b h;cases a<;>cases b<;>first | rfl | (simp[idA]at h; done) | skip
 case lit.lit=>simp only[idA]at h; rw[zSd h]
 case agg.agg=>simp only[idA]at h; rw[zFz h]
 case sl.sl =>
  simp only[idA]at h;rw[Bool.and_eq_true]at h;rw[Nat.eq_of_beq_eq_true h.1,zFz h.2]
theorem zFz:∀{a b:List A},idL a b=true→a=b:=by
 intro a b h;cases a<;>cases b<;>first | rfl | (simp[idL]at h; done) | skip
 ·simp only[idL]at h;rw[Bool.and_eq_true]at h;rw[zSc h.1,zFz h.2]
end
theorem zLA {H:Mem}{L:List LI}:∀{xs:List A} {vs:List Value},zV H L xs vs→zV H L (qV xs) vs
 | [],vs,h=>by simpa [qV] using h
 | x::xs,vs,h=>by obtain⟨u,us,rfl,h1,h2⟩:=zY h;simp only[qV];exact qS (Rel.nrm0 _ h1) (zLA h2)
def zX4:List (Nat×List A×A)→Run
 | [],_,_,_=>none
 | (g,ys,r)::T,f,xs,σ=>match Nat.beq f g&&idL (qV xs) ys,σ with
  | true,[]=>some (r,[])
  | _,_=>zX4 T f xs σ
theorem zQM:∀{T:List (Nat×List A×A)},(∀p∈T,zA P p.1=true∧Ret P p.1 p.2.1 [] p.2.2 [])→zAh P (zX4 T)
 | [],_=>fun f xs σ r σ' h=>by cases h
 | (g,ys,r0)::T,hT=>fun f xs σ r σ' h=>by
  simp only[zX4]at h;split at h
  ·rename_i hb;cases h;rw[Bool.and_eq_true]at hb;obtain⟨h1,h2⟩:=hT _ (List.mem_cons_self ..);rw[Nat.eq_of_beq_eq_true hb.1];refine⟨h1,fun H L w vs hs ha=>h2 H L w vs hs ?_⟩;have:=zLA ha;rw[zFz hb.2]at this;exact this
  ·exact zQM (fun p hp=>hT p (List.mem_cons_of_mem _ hp)) _ _ _ _ _ h
def orE (a b:Run):Run:=fun f xs σ=>match a f xs σ with
 | some r=>some r
 | none=>b f xs σ
theorem zVg {a b:Run}(ha:zAh P a)(hb:zAh P b):zAh P (orE a b):=fun f xs σ r σ' h=>by
 unfold orE at h;split at h
 ·rename_i hx;cases h;exact ha _ _ _ _ _ hx
 ·exact hb _ _ _ _ _ h
end
end Go.Abs
namespace Go.Proofs.YthglhccibdlccaaGreatDoor
open Go.Abs
def qBF:Go.Shelf.Ren:=⟨fun | 6=>95 | 15=>133 | 14=>132 | 28=>154 | 29=>155 | 20=>146 | 21=>147 | 22=>148 | 23=>149 | 24=>150 | 25=>151 | 26=>152 | 27=>153 | 46=>169 | 49=>172 | 50=>173 | 57=>182 | 47=>170 | 48=>171 | n=>n,fun | 22=>45 | 24=>29 | 25=>161 | 3=>3 | 39=>197 | 0=>0 | 53=>218 | 55=>220 | 4=>4 | 46=>211 | 45=>210 | 50=>215 | 5=>5 | 9=>9 | 66=>230 | 70=>234 | 76=>240 | 77=>241 | n=>n,fun n=>n⟩
theorem zUO:Go.Proofs.SlLaysF0.n6 Tryz.prog qBF:={
 mixed:=by kernel_rfl,
 f6:=⟨Tryz.f95.name,by decide,Tryz.func95.trans (congrArg some (by kernel_rfl))⟩,
 f14:=⟨Tryz.f132.name,by decide,Tryz.func132.trans (congrArg some (by kernel_rfl))⟩,
 f15:=Tryz.func133.trans (congrArg some (by kernel_rfl)),
 f20:=⟨Tryz.f146.name,by decide,Tryz.func146.trans (congrArg some (by kernel_rfl))⟩,
 f21:=⟨Tryz.f147.name,by decide,Tryz.func147.trans (congrArg some (by kernel_rfl))⟩,
 f22:=⟨Tryz.f148.name,by decide,Tryz.func148.trans (congrArg some (by kernel_rfl))⟩,
 f23:=⟨Tryz.f149.name,by decide,Tryz.func149.trans (congrArg some (by kernel_rfl))⟩,
 f24:=⟨Tryz.f150.name,by decide,Tryz.func150.trans (congrArg some (by kernel_rfl))⟩,
 f25:=⟨Tryz.f151.name,by decide,Tryz.func151.trans (congrArg some (by kernel_rfl))⟩,
 f26:=⟨Tryz.f152.name,by decide,Tryz.func152.trans (congrArg some (by kernel_rfl))⟩,
 f27:=⟨Tryz.f153.name,by decide,Tryz.func153.trans (congrArg some (by kernel_rfl))⟩,
 f28:=Tryz.func154.trans (congrArg some (by kernel_rfl)),
 f29:=Tryz.func155.trans (congrArg some (by kernel_rfl)),
 f46:=⟨Tryz.f169.name,by decide,Tryz.func169.trans (congrArg some (by kernel_rfl))⟩,
 f47:=Tryz.func170.trans (congrArg some (by kernel_rfl)),
 f48:=Tryz.func171.trans (congrArg some (by kernel_rfl)),
 f49:=⟨Tryz.f172.name,by decide,Tryz.func172.trans (congrArg some (by kernel_rfl))⟩,
 f50:=⟨Tryz.f173.name,by decide,Tryz.func173.trans (congrArg some (by kernel_rfl))⟩,
 f57:=⟨Tryz.f182.name,by decide,Tryz.func182.trans (congrArg some (by kernel_rfl))⟩,
 t0:=Tryz.underlying0,
 a0:=Tryz.isAgg0,
 z0:=Tryz.sizeOf0,
 v0:=Tryz.zeroValue0,
 t3:=Tryz.underlying3,
 a3:=Tryz.isAgg3,
 z3:=Tryz.sizeOf3,
 v3:=Tryz.zeroValue3,
 t4:=Tryz.underlying4,
 a4:=Tryz.isAgg4,
 z4:=Tryz.sizeOf4,
 v4:=Tryz.zeroValue4,
 t5:=Tryz.underlying5,
 a5:=Tryz.isAgg5,
 z5:=Tryz.sizeOf5,
 v5:=Tryz.zeroValue5,
 t9:=Tryz.underlying9,
 a9:=Tryz.isAgg9,
 z9:=Tryz.sizeOf9,
 v9:=Tryz.zeroValue9,
 t22:=Tryz.underlying45,
 a22:=Tryz.isAgg45,
 z22:=Tryz.sizeOf45,
 v22:=Tryz.zeroValue45,
 t25:=Tryz.underlying161,
 a25:=Tryz.isAgg161,
 z25:=Tryz.sizeOf161,
 v25:=Tryz.zeroValue161,
 t39:=Tryz.underlying197,
 a39:=Tryz.isAgg197,
 z39:=Tryz.sizeOf197,
 v39:=Tryz.zeroValue197,
 t45:=Tryz.underlying210,
 a45:=Tryz.isAgg210,
 z45:=Tryz.sizeOf210,
 v45:=Tryz.zeroValue210,
 t46:=Tryz.underlying211,
 a46:=Tryz.isAgg211,
 z46:=Tryz.sizeOf211,
 v46:=Tryz.zeroValue211,
 t50:=Tryz.underlying215,
 a50:=Tryz.isAgg215,
 z50:=Tryz.sizeOf215,
 v50:=Tryz.zeroValue215,
 t53:=Tryz.underlying218,
 a53:=Tryz.isAgg218,
 z53:=Tryz.sizeOf218,
 v53:=Tryz.zeroValue218,
 t55:=Tryz.underlying220,
 a55:=Tryz.isAgg220,
 z55:=Tryz.sizeOf220,
 v55:=Tryz.zeroValue220,
 t66:=Tryz.underlying230,
 a66:=Tryz.isAgg230,
 z66:=Tryz.sizeOf230,
 v66:=Tryz.zeroValue230,
 t70:=Tryz.underlying234,
 a70:=Tryz.isAgg234,
 z70:=Tryz.sizeOf234,
 v70:=Tryz.zeroValue234,
 t76:=Tryz.underlying240,
 a76:=Tryz.isAgg240,
 z76:=Tryz.sizeOf240,
 v76:=Tryz.zeroValue240,
 t77:=Tryz.underlying241,
 a77:=Tryz.isAgg241,
 z77:=Tryz.sizeOf241,
 v77:=Tryz.zeroValue241}
def zQS:Go.Shelf.Ren:=⟨fun | 4=>116 | n=>n,fun | 0=>0 | 3=>3 | 4=>4 | 9=>9 | 20=>20 | 22=>45 | 25=>29 | n=>n,fun n=>n⟩
theorem zXa:Go.Proofs.Lays8.n4 Tryz.prog zQS:={
 mixed:=by kernel_rfl,
 f4:=⟨Tryz.f116.name,by decide,Tryz.func116.trans (congrArg some (by kernel_rfl))⟩,
 t0:=Tryz.underlying0,
 a0:=Tryz.isAgg0,
 z0:=Tryz.sizeOf0,
 v0:=Tryz.zeroValue0,
 t3:=Tryz.underlying3,
 a3:=Tryz.isAgg3,
 z3:=Tryz.sizeOf3,
 v3:=Tryz.zeroValue3,
 t4:=Tryz.underlying4,
 a4:=Tryz.isAgg4,
 z4:=Tryz.sizeOf4,
 v4:=Tryz.zeroValue4,
 t9:=Tryz.underlying9,
 a9:=Tryz.isAgg9,
 z9:=Tryz.sizeOf9,
 v9:=Tryz.zeroValue9,
 t20:=Tryz.underlying20,
 a20:=Tryz.isAgg20,
 z20:=Tryz.sizeOf20,
 v20:=Tryz.zeroValue20,
 t22:=Tryz.underlying45,
 a22:=Tryz.isAgg45,
 z22:=Tryz.sizeOf45,
 v22:=Tryz.zeroValue45}
@[simp] theorem qIT:zA Tryz.prog 116=true:=by kernel_rfl
@[simp] theorem qJg:zA Tryz.prog 95=true:=by kernel_rfl
theorem zNg:∀args w,(callFunc 96 args).run Tryz.prog w=.ok (.enter 96 args) w:=enters_of Tryz.func96 (by kernel_rfl) rfl
theorem zV2:zOI Tryz.prog 95 96 qF zEG :=
 qBS (k:=3) (fun _=>rfl) zFa zVh fun α _ enc hk h1 cf hO blk off cap d w hcmp hH hblk hsz =>
  Go.Proofs.AnyQ.slices_SortFunc zUO 3 Tryz.isAgg29 Tryz.sizeOf29 enc hk h1 cf hO 96 #[] blk off cap d w zNg hcmp hH hblk hsz
theorem zQL:∀(p:Option Addr) (cap:Nat) (fv:Value) (w:World),Calls Tryz.prog 95 #[.slice p 0 cap,fv] w fun e w'=>e=.returned (.tuple #[])∧w'=w :=
 fun p cap fv w=>Go.Proofs.AnyF.slices_SortFunc_none zUO p cap fv w
theorem zMV (l:List Id):l.flatMap qF=zX l:=by
 induction l with
 | nil=>rfl
 | cons v l ih=>rw[List.flatMap_cons,ih]; rfl
theorem zPR (l:List Id)(hmx:l.length<4611686018427387904):Ret Tryz.prog 95 [.row 0 l.length,.clo 96 [] []] [.row false 29 3 l.length (zX l)] (.tup []) [.row false 29 3 l.length (zX (zCO zEG l))]:=by
 have:=zV1 (sz:=3) (by omega) (fun _=>rfl) (fun b=>by simp[qF]) zFa 29 zV2 zQL l hmx
 simpa only[zMV] using this
theorem zPS (x:A):Ret Tryz.prog 95 [.sl 0 [],x] [] (.tup []) []:=by
 intro H L w vs hs hvs;obtain⟨v,vs',rfl,h1,h2⟩:=zY hvs;obtain⟨fv,vs'',rfl,h3,h4⟩:=zY h2;have:=jK h4;subst this;simp only[Rel]at h1;obtain⟨p,cap,rfl,_⟩:=h1;refine(zQL p cap fv w).mono fun e' w' hh=>?_
 obtain⟨rfl,rfl⟩:=hh;exact⟨.ret (.tup []),_,H,L,⟨_,rfl,by simp[Rel,zV]⟩,Nxt.refl hs,rfl,rfl⟩
theorem zPv (n:Nat)(hn:n≤1000000):Ret Tryz.prog 116 [.nil,int n] [] (.row 0 0) [.row false 29 3 0 []] :=
 zLq (ρ:=zQS) (sz:=3) (bs:=24) (z:=.agg #[.int .i64 0,.int .i64 0,.int .i64 0]) zXa (by kernel_rfl) rfl (by omega) (by omega) (by omega)
def zOF:K:=G [kMn 2] (Z (G [M 3 0,⟨none,.isz (some 4) false (kt 3)⟩] (Y 4 (G [kMn 2] kr) ks)) (G [kd 5 29 3 0 [] [],M 6 0,kP 7 29 3 24 5 6,M 2 7] kr))
theorem zT3:zL Tryz.prog Tryz.f94.ntmps (Tryz.f94.body.getD .skip)=some zOF.erase:=by kernel_rfl
@[simp] theorem qGj:zA Tryz.prog 94=true:=by kernel_rfl
def zQl:K:=G [kMn 2] (G [kMi 3 0] (Z (G [M 9 0,kN 10 9,kMi 11 0] (K.block 0 (K.loop (G [kB 12 11 10 .lss] (Z (Y 12 ks (K.exit 0)) (Z (K.block 1 (G [kX 13 9 11 1,L 14 13 1,M 5 14] (G [M 15 3,M 16 5,kN 17 16,kB 18 15 17 .add,M 3 18] (G [M 19 3,kBi 20 19 0 .lss] (Y 20 (K.ops [⟨none,.mki (some 21) 9 (.const (.string ⟨#[108,101,110,32,111,117,116,32,111,102,32,114,97,110,103,101]⟩))⟩,⟨none,.pan none (kt 21)⟩]) ks))))) (K.ops [kBi 22 11 1 .add,M 11 22]))))))) (G [M 23 3,kC 24 116 [(.const kl),(kt 23)],M 6 24] (Z (G [M 25 0,kN 26 25,kMi 27 0] (K.block 2 (K.loop (G [kB 28 27 26 .lss] (Z (Y 28 ks (K.exit 2)) (Z (K.block 3 (G [kX 29 25 27 1,L 30 29 1,M 8 30] (K.ops [M 31 6,M 32 8,kP 33 29 3 24 31 32,M 6 33]))) (K.ops [kBi 34 27 1 .add,M 27 34]))))))) (G [M 35 6,M 2 35] kr)))))
theorem zWc:zL Tryz.prog Tryz.f69.ntmps (Tryz.f69.body.getD .skip)=some zQl.erase:=by kernel_rfl
@[simp] theorem qC2:zA Tryz.prog 69=true:=by kernel_rfl
def zIY:K:=G [kMn 2] (Z (G [M 6 0,kN 7 6,kBi 8 7 2 .lss] (Y 8 (G [M 9 0,M 2 9] kr) ks)) (Z (G [kMi 3 1] (K.block 0 (K.loop (Z (G [M 10 3,M 11 0,kN 12 11,kB 13 10 12 .lss] (Y 13 ks (K.exit 0))) (Z (K.block 1 (Z (K.dops [(0,0,M 16 0),(1,0,M 17 3),(2,0,kX 18 16 17 3),(3,0,J 19 18 3),(4,0,M 20 0),(5,0,M 21 3),(6,0,kBi 22 21 1 .sub),(7,0,kX 23 20 22 3),(8,0,J 24 23 3),(9,0,⟨none,.eqs (some 25) false [.i,.i,.i] (kt 19) (kt 24)⟩)]) (Y 25 (G [M 26 0,M 27 3,⟨none,.rslc (some 28) (kt 26) 3 (some (kt 27)) none⟩,M 4 28] (Z (G [kMi 5 1] (K.block 2 (K.loop (Z (G [M 29 5,M 30 4,kN 31 30,kB 32 29 31 .lss] (Y 32 ks (K.exit 2))) (Z (K.block 3 (Z (K.dops [(0,0,M 35 4),(1,0,M 36 5),(2,0,kX 37 35 36 3),(3,0,J 38 37 3),(4,0,M 39 4),(5,0,M 40 5),(6,0,kBi 41 40 1 .sub),(7,0,kX 42 39 41 3),(8,0,J 43 42 3),(9,0,⟨none,.eqs (some 44) true [.i,.i,.i] (kt 38) (kt 43)⟩)]) (Y 44 (G [M 45 0,M 46 3,M 47 4,M 48 5,kX 49 47 48 3,J 50 49 3,kX 51 45 46 3,S 51 50 3] (K.ops [M 52 3,kBi 53 52 1 .add,M 3 53])) ks))) (K.ops [M 33 5,kBi 34 33 1 .add,M 5 34])))))) (G [M 54 0,M 55 3,⟨none,.rslc (some 56) (kt 54) 3 (some (kt 55)) none⟩,⟨none,.mop none (.clr 3 [ki,ki,ki]) [(kt 56)]⟩] (G [M 57 0,M 58 3,⟨none,.rslc (some 59) (kt 57) 3 none (some (kt 58))⟩,M 2 59] kr)))) ks))) (K.ops [M 14 3,kBi 15 14 1 .add,M 3 15])))))) (G [M 60 0,M 2 60] kr)))
theorem zMP:zL Tryz.prog Tryz.f97.ntmps (Tryz.f97.body.getD .skip)=some zIY.erase:=by kernel_rfl
@[simp] theorem qAm:zA Tryz.prog 97=true:=by kernel_rfl
theorem zMY (l:List Id)(h:l≠[])(hb:l.length≤1000000):Ret Tryz.prog 94 [.sl l.length (zX l)] [] (.row 0 l.length) [.row false 29 3 l.length (zX l)]:=by refine zI Tryz.func94 rfl zT3 (rs:=[.slot 2]) (by kernel_rfl) ?_;unfold zOF;simp[h];refine⟨⟨by simp[maxLen]; omega,by omega⟩,?_⟩;exact zG [0] 0 (by simp) (by simp) (by simp) (by simp)
theorem zMZ:Ret Tryz.prog 94 [.sl 0 []] [] (.sl 0 []) []:=by refine zI Tryz.func94 rfl zT3 (rs:=[.slot 2]) (by kernel_rfl) ?_;unfold zOF;simp;exact⟨zC 0 (by simp),zC 0 (by simp)⟩
def zBx (Ls:List (List Id)):List A:=Ls.map fun l=>A.sl l.length (zX l)
theorem zEe:∀(Ls:List (List Id)),qW (zBx Ls)
 | []=>qW.nil
 | l::Ls=>by
  have h1:=zEe Ls;have h2:=zB1 l;refine⟨?_,fun rf g=>?_⟩
  ·show qV (A.sl l.length (zX l)::zBx Ls)=_;simp[h1.1];rfl
  ·show vwL rf g (A.sl l.length (zX l)::zBx Ls)=_;simp[h1.2];rfl
@[simp] theorem zZu (l:List (List Id)):qV (zBx l)=zBx l:=(zEe l).1
@[simp] theorem qDJ {rf g}(l:List (List Id)):vwL rf g (zBx l)=zBx l:=(zEe l).2 _ _
@[simp] theorem qA3 (l:List (List Id)):(zBx l).length=l.length:=by simp[zBx]
theorem zIv {Ls:List (List Id)}{i:Nat}(h:i<Ls.length):(zBx Ls).drop i=.sl Ls[i].length (zX Ls[i])::zBx (Ls.drop (i+1)):=by rw[zBx,←List.map_drop,List.drop_eq_getElem_cons h]; rfl
def zDr (Ls:List (List Id)):Nat:=Ls.flatten.length
theorem zLL {Ls:List (List Id)}{i:Nat}(h:i<Ls.length):zDr (Ls.take (i+1))=zDr (Ls.take i)+Ls[i].length:=by rw[zDr,zDr,List.take_succ_eq_append_getElem h,List.flatten_append]; simp
theorem zRd (Ls:List (List Id))(i:Nat):zDr (Ls.take i)≤zDr Ls:=by
 have:Ls.flatten=(Ls.take i).flatten++(Ls.drop i).flatten:=by rw[←List.flatten_append,List.take_append_drop]
 rw[zDr,zDr,this,List.length_append]; omega
theorem zLT (Ls:List (List Id))(hb:zDr Ls≤1000000):Ret Tryz.prog 69 [.sl Ls.length (zBx Ls)] [] (.sl (zDr Ls) (zX Ls.flatten)) []:=by
 refine zI Tryz.func69 rfl zWc (rs:=[.slot 2]) (by kernel_rfl) ?_;unfold zQl;simp;intro hl;refine qY (S:=Nat) (fun i=>[(0,.sl Ls.length (zBx Ls)),(3,int (zDr (Ls.take i))),(9,.sl Ls.length (zBx Ls)),(10,int Ls.length),(11,int i)]) (fun s=>[]) (fun i=>i≤Ls.length) (fun i=>Ls.length-i) 0 (by simp)
  (zR [] 0 (by simp) (by simp) (by simp) (by simp[zDr])) ?_
 intro i hi;by_cases h:i<Ls.length
 ·have ht:=zLL h;have hle:=zRd Ls (i+1);have hw:IntKind.i64.wrap ((zDr (Ls.take i):Int)+(Ls[i].length:Int))=(zDr (Ls.take (i+1)):Nat):=by rw[ht]; push_cast; exact IntWalk.i64_in _ (by omega)
  have h0:¬((zDr (Ls.take (i+1)):Nat):Int)<0:=by omega
  simp[h,zIv h];intro _;simp[hw,h0];exact zT (i+1) h (by omega) (zR [] 0 (by simp) (by simp) (by simp) (by simp[qD h hl]))
 ·have hil:i=Ls.length:=by omega
  subst hil;have hI:¬(Ls.length:Int)<Ls.length:=by omega
  simp;refine zN (zPv (zDr Ls) hb) [] (by simp) (by simp) (by simp) ?_;simp;intro _;refine qY (S:=Nat) (fun i=>[(6,.row 0 (zDr (Ls.take i))),(25,.sl Ls.length (zBx Ls)),(26,int Ls.length),(27,int i)]) (fun i=>[.row false 29 3 (zDr (Ls.take i)) (zX (Ls.take i).flatten)]) (fun i=>i≤Ls.length) (fun i=>Ls.length-i) 0 (by simp)
   (zR [0] 0 (by simp) (by simp) (by simp[zDr]) (by simp[zDr])) ?_
  intro i hi;by_cases h:i<Ls.length
  ·have ht:=zLL h;have hle:=zRd Ls (i+1);have hf:(Ls.take (i+1)).flatten=(Ls.take i).flatten++Ls[i]:=by rw[List.take_succ_eq_append_getElem h,List.flatten_append]; simp
   simp[h,zIv h];refine⟨⟨by simp[maxLen]; omega,by omega⟩,?_⟩;exact zT (i+1) h (by omega) (zR [0] 0 (by simp) (by simp) (by simp[ht,hf,jD]) (by simp[ht,qD h hl]))
  ·have hil:i=Ls.length:=by omega
   subst hil;simp;exact zC 1 (by simp)
def KId:K:=G [kZ 2 [ki,ki,ki]] (G [M 3 0,kb 4 [ki,ki,ki] [(1,1,(kc 1)),(2,1,(kt 3))],S 2 4 3] kr)
theorem cId:zL Tryz.prog Tryz.f40.ntmps (Tryz.f40.body.getD .skip)=some KId.erase:=by kernel_rfl
@[simp] theorem qGo:zA Tryz.prog 40=true:=by kernel_rfl
def EId:Entry:=⟨KId,[.cell 2 3 true],false⟩
theorem qGF:jI Tryz.prog 40 EId:=⟨qGo,_,_,zAm,Tryz.func40,rfl,cId,by kernel_rfl⟩
def qFn:K:=G [kZ 4 kz1] (G [M 5 0,kC 6 40 [(kt 5)],M 7 1,kC 8 40 [(kt 7)],kb 9 kz1 [(0,3,(kt 6)),(3,1,(kc 2)),(5,3,(kt 8))],S 4 9 15] kr)
theorem qLJ:zL Tryz.prog Tryz.f88.ntmps (Tryz.f88.body.getD .skip)=some qFn.erase:=by kernel_rfl
@[simp] theorem qAu:zA Tryz.prog 88=true:=by kernel_rfl
def qEt:Entry:=⟨qFn,[.cell 4 15 true],false⟩
theorem qAS:jI Tryz.prog 88 qEt:=⟨qAu,_,_,zAm,Tryz.func88,rfl,qLJ,by kernel_rfl⟩
def KEx:K:=G [kZ 0 [kl,kl]] (G [kC 5 40 [(kc 11)],kC 6 88 [(kc 12),(kc 2)],kC 7 40 [(kc 13)],kb 8 kz1 [(0,3,(kt 7)),(4,1,(kc 3))],kd 9 37 15 2 kz6 [(0,15,(kt 6)),(15,15,(kt 8))],kb 10 kz1 [(0,3,(kt 5)),(3,1,(kc 4)),(4,1,(kc 5)),(13,1,(kt 9))],kZ 1 kz1,S 1 10 15] (G [kC 11 40 [(kc 15)],kC 12 40 [(kc 3)],kC 13 88 [(kc 16),(kc 2)],kd 14 37 15 1 kz1 [(0,15,(kt 13))],kb 15 kz1 [(0,3,(kt 11)),(3,1,(kc 3)),(5,3,(kt 12)),(13,1,(kt 14))],kZ 2 kz1,S 2 15 15] (Z (K.dops [(0,1,kC 16 40 [(kc 1)]),(1,1,kC 17 40 [(kc 0)]),(2,1,kC 18 40 [(kc 2)]),(3,0,⟨none,.build (some 19) kz5 [(0,3,(kt 18)),(3,1,(.const (.string ⟨#[97]⟩)))]⟩),(4,0,kd 20 90 11 1 kz5 [(0,11,(kt 19))]),(5,1,kC 21 40 [(kc 10)]),(6,1,J 22 1 15),(7,1,kC 23 88 [(kc 14),(kc 2)]),(8,1,J 24 2 15),(9,0,kd 25 37 15 3 kz4 [(0,15,(kt 22)),(15,15,(kt 23)),(30,15,(kt 24))]),(10,0,kb 26 kz1 [(0,3,(kt 21)),(3,1,(kc 5)),(13,1,(kt 25))]),(11,0,⟨none,.build (some 27) kz0 [(0,3,(kt 16)),(3,1,(kc 2)),(4,3,(kt 17)),(7,1,(.const (.string ⟨#[102]⟩))),(8,1,(kt 20)),(14,15,(kt 26))]⟩),(12,0,kZ 3 kz0),(13,0,S 3 27 31)]) (G [kC 28 40 [(kc 3)],kC 29 40 [(kc 0)],kC 30 40 [(kc 4)],⟨none,.build (some 31) kz5 [(0,3,(kt 30)),(3,1,(.const (.string ⟨#[97]⟩)))]⟩,kd 32 90 11 1 kz5 [(0,11,(kt 31))],kC 33 88 [(kc 17),(kc 4)],⟨none,.build (some 34) kz0 [(0,3,(kt 28)),(3,1,(kc 2)),(4,3,(kt 29)),(7,1,(.const (.string ⟨#[103]⟩))),(8,1,(kt 32)),(14,15,(kt 33))]⟩,kZ 4 kz0,
 S 4 34 31] (Z (K.dops [(0,1,kC 35 40 [(kc 0)]),(1,1,kC 36 40 [(kc 1)]),(2,1,kC 37 40 [(kc 3)]),(3,0,kd 38 29 3 2 [ki,ki,ki,ki,ki,ki] [(0,3,(kt 36)),(3,3,(kt 37))]),(4,0,⟨none,.build (some 39) kz9 [(0,3,(kt 35)),(3,1,(.const (.string ⟨#[109]⟩))),(5,1,(kt 38))]⟩),(5,0,kd 40 84 6 1 kz9 [(0,6,(kt 39))]),(6,1,J 41 3 31),(7,1,J 42 4 31),(8,9,⟨none,.brow (some 43) 39 31 2 kz8 [(0,31,(kt 41)),(31,31,(kt 42))]⟩),(9,0,kb 44 [kl,kl] [(0,1,(kt 40)),(1,1,(kt 43))]),(10,0,S 0 44 2)]) kr)))))
def hEx:Nat→Option (List (Nat×Nat)):=fun r=>match r with | 5=>some [(0,1),(1,1),(2,1),(3,0),(4,0),(5,0),(6,1),(7,1),(8,9),(9,0),(10,0)] | _=>none
theorem cEx:qC Tryz.prog Tryz.f39.ntmps hEx (Tryz.f39.body.getD .skip)=some KEx.erase:=by kernel_rfl
@[simp] theorem qGl:zA Tryz.prog 39=true:=by kernel_rfl
def EEx:Entry:=⟨KEx,[.cell 0 2 true],false⟩
theorem qGE:jI Tryz.prog 39 EEx:=⟨qGl,_,_,hEx,Tryz.func39,rfl,cEx,by kernel_rfl⟩
def zLX (i:Int)(k n:Int)(r:Int)(kids:List Exp):Exp:=.mk ⟨0,1,i⟩ k n (if r<0 then Id.zero else ⟨0,1,r⟩) Typ.zero kids []
def exF:Dfn:=⟨⟨0,1,1⟩,2,⟨0,1,0⟩,⟨#[102]⟩,[⟨⟨0,1,2⟩,⟨#[97]⟩,Typ.zero,0,0⟩],Typ.zero,
 zLX 10 5 0 (-1) [zLX 11 4 5 (-1) [zLX 12 2 0 2 [],zLX 13 0 3 (-1) []],zLX 14 2 0 2 [],zLX 15 3 0 3 [zLX 16 2 0 2 []]],0,[]⟩
def exG (b:Exp):Dfn:=⟨⟨0,1,3⟩,2,⟨0,1,0⟩,⟨#[103]⟩,[⟨⟨0,1,4⟩,⟨#[97]⟩,Typ.zero,0,0⟩],Typ.zero,b,0,[]⟩
def exM:Md:=⟨⟨0,1,0⟩,⟨#[109]⟩,[],[⟨0,1,1⟩,⟨0,1,3⟩]⟩
def exP:Prg:=⟨[exM],[exF,exG (zLX 17 2 0 4 [])]⟩
def exQ:Prg:=⟨[exM],[exF,exG (zLX 17 0 7 (-1) [])]⟩
end Go.Proofs.YthglhccibdlccaaGreatDoor
