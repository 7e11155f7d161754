/-
  value.SameType, trace.sameDef, trace.sameNode, trace.bodied.
  Numbers of the reference's evaluator: clip, truth.
  The reference's environments: With, Find.
  value.Size and trace.deep.
  value.small: true at small values.
  trace.set, Join and Asks; the law's lists of IDs.
-/
import Derived.Test.YthglhccibdlccaaGreatDoorX21
set_option linter.unusedVariables false
set_option linter.unusedSimpArgs false
namespace Go.Proofs.YthglhccibdlccaaGreatDoor
open Go.Abs
def zUv:K:=G [kO 2 0,kO 3 1,kMb 4 false] (G [D 5 2 0,L 6 5 1,D 7 3 0,L 8 7 1,kQ 9 6 8 false,M 10 9,T 10 true (D 11 2 1),T 10 true (J 12 11 3),T 10 true (D 13 3 1),T 10 true (J 14 13 3),⟨some (10,true),.eqs (some 15) false [.i,.i,.i] (kt 12) (kt 14)⟩,kPf 16 10 15,M 17 16,T 17 true (D 18 2 4),T 17 true (L 19 18 1),T 17 true (D 20 3 4),T 17 true (L 21 20 1),T 17 true (kC 22 139 [(kt 19),(kt 21),(.func 105)]),kPf 23 17 22,M 4 23] kr)
theorem qBz:zK Tryz.prog Tryz.f105.ntmps (Tryz.f105.body.getD .skip)=some zUv.erase:=by kernel_rfl
@[simp] theorem zUM:zA Tryz.prog 105=true:=by kernel_rfl
def KSD:K:=G [kO 2 0,kO 3 1,kMb 4 false] (G [⟨none,.mov (some 5) (.func 104)⟩] (G [D 6 2 3,L 7 6 1,D 8 3 3,L 9 8 1,kQ 10 7 9 false,M 11 10,T 11 true (D 12 2 8),T 11 true (L 13 12 1),T 11 true (D 14 3 8),T 11 true (L 15 14 1),T 11 true (M 16 5),T 11 true (kC 17 106 [(kt 13),(kt 15),(kt 16)]),kPf 18 11 17,M 19 18,T 19 true (D 20 2 9),T 19 true (J 21 20 5),T 19 true (D 22 3 9),T 19 true (J 23 22 5),T 19 true (kC 24 105 [(kt 21),(kt 23)]),kPf 25 19 24,M 26 25,T 26 true (J 27 2 31),T 26 true (kC 28 43 [(kt 27)]),T 26 true (kR 29 28),T 26 true (M 30 29),T 30 false (D 31 2 14),T 30 false (D 32 31 0),T 30 false (J 33 32 3),T 30 false (D 34 3 14),T 30 false (D 35 34 0),T 30 false (J 36 35 3),⟨some (30,false),.eqs (some 37) false [.i,.i,.i] (kt 33) (kt 36)⟩,T 26 true (kPt 38 30 37),kPf 39 26 38,M 4 39] kr))
theorem cSD:zK Tryz.prog Tryz.f57.ntmps (Tryz.f57.body.getD .skip)=some KSD.erase:=by kernel_rfl
@[simp] theorem qPG:zA Tryz.prog 57=true:=by kernel_rfl
def qGt:K:=G [kO 2 0,kO 3 1,kMb 4 false] (G [D 5 2 0,J 6 5 3,D 7 3 0,J 8 7 3,⟨none,.eqs (some 9) false [.i,.i,.i] (kt 6) (kt 8)⟩,M 10 9,T 10 true (D 11 2 4),T 10 true (J 12 11 5),T 10 true (D 13 3 4),T 10 true (J 14 13 5),T 10 true (kC 15 105 [(kt 12),(kt 14)]),kPf 16 10 15,M 17 16,T 17 true (D 18 2 9),T 17 true (L 19 18 1),T 17 true (D 20 3 9),T 17 true (L 21 20 1),T 17 true (kQ 22 19 21 false),kPf 23 17 22,M 4 23] kr)
theorem qMN:zK Tryz.prog Tryz.f104.ntmps (Tryz.f104.body.getD .skip)=some qGt.erase:=by kernel_rfl
@[simp] theorem qBD:zA Tryz.prog 104=true:=by kernel_rfl
def KSN:K:=G [kO 2 0,kO 3 1,kMb 4 false] (G [⟨none,.mov (some 5) (.func 107)⟩] (G [D 6 2 3,L 7 6 1,D 8 3 3,L 9 8 1,kQ 10 7 9 false,M 11 10,T 11 true (D 12 2 4),T 11 true (L 13 12 1),T 11 true (D 14 3 4),T 11 true (L 15 14 1),T 11 true (kQ 16 13 15 false),kPf 17 11 16,M 18 17,T 18 true (D 19 2 5),T 18 true (J 20 19 3),T 18 true (D 21 3 5),T 18 true (J 22 21 3),⟨some (18,true),.eqs (some 23) false [.i,.i,.i] (kt 20) (kt 22)⟩,kPf 24 18 23,M 25 24,T 25 true (D 26 2 8),T 25 true (J 27 26 5),T 25 true (D 28 3 8),T 25 true (J 29 28 5),T 25 true (kC 30 105 [(kt 27),(kt 29)]),kPf 31 25 30,M 32 31,T 32 true (D 33 2 13),T 32 true (L 34 33 1),T 32 true (D 35 3 13),T 32 true (L 36 35 1),T 32 true (M 37 5),T 32 true (kC 38 108 [(kt 34),(kt 36),(kt 37)]),kPf 39 32 38,M 4 39] kr))
theorem cSN:zK Tryz.prog Tryz.f59.ntmps (Tryz.f59.body.getD .skip)=some KSN.erase:=by kernel_rfl
@[simp] theorem qPH:zA Tryz.prog 59=true:=by kernel_rfl
def qGu:K:=G [kO 2 0,kO 3 1,kMb 4 false] (G [D 5 2 0,J 6 5 3,D 7 3 0,J 8 7 3,⟨none,.eqs (some 9) false [.i,.i,.i] (kt 6) (kt 8)⟩,M 4 9] kr)
theorem qMO:zK Tryz.prog Tryz.f107.ntmps (Tryz.f107.body.getD .skip)=some qGu.erase:=by kernel_rfl
@[simp] theorem qBE:zA Tryz.prog 107=true:=by kernel_rfl
def qFI:K:=G [kO 1 0,kMb 2 false] (G [D 3 1 3,L 4 3 1,kQi 5 4 2 false,M 6 5,T 6 false (D 7 1 3),T 6 false (L 8 7 1),T 6 false (kQi 9 8 3 false),kPt 10 6 9,M 11 10,T 11 false (D 12 1 3),T 11 false (L 13 12 1),T 11 false (kQi 14 13 4 false),kPt 15 11 14,M 16 15,T 16 false (D 17 1 3),T 16 false (L 18 17 1),T 16 false (kQi 19 18 5 false),kPt 20 16 19,M 2 20] kr)
theorem qMm:zK Tryz.prog Tryz.f43.ntmps (Tryz.f43.body.getD .skip)=some qFI.erase:=by kernel_rfl
@[simp] theorem qNg:zA Tryz.prog 43=true:=by kernel_rfl
mutual
def yE:Typ→Typ→Bool
 | .mk k i l,.mk k' i' l'=>decide (k=k')&&(decide (i=i')&&zCV l l')
def zCV:List Typ→List Typ→Bool
 | [],[]=>true
 | x::a,y::b=>yE x y&&zCV a b
 | _,_=>false
end
theorem zM0:∀(a b:List Typ),zCV a b=zB4 yE a b
 | [],[]=>by simp only[zCV,zB4]
 | x::a,y::b=>by simp only[zCV,zB4,zM0 a b]
 | [],_::_=>by simp only[zCV,zB4]
 | _::_,[]=>by simp only[zCV,zB4]
theorem zMz (a b:Typ):yE a b=(decide (a.k=b.k)&&(decide (a.id=b.id)&&zB4 yE a.kids b.kids)):=by cases a; cases b; simp only[yE,zM0]; rfl
mutual
theorem zCh:∀(a b:Typ),yE a b=true↔a=b
 | .mk k i l,.mk k' i' l'=>by simp only[yE,Bool.and_eq_true,decide_eq_true_eq,zKI l l',Typ.mk.injEq]
theorem zKI:∀(a b:List Typ),zCV a b=true↔a=b
 | [],[]=>by simp[zCV]
 | x::a,y::b=>by simp only[zCV,Bool.and_eq_true,zCh x y,zKI a b,List.cons.injEq]
 | [],_::_=>by simp[zCV]
 | _::_,[]=>by simp[zCV]
end
theorem zGC (a:Typ):yE a a=true:=(zCh a a).2 rfl
mutual
theorem zDP:∀(a b:Typ),Ret Tryz.prog 105 [.agg (zB a),.agg (zB b)] [] (bl (yE a b)) []
 | .mk k i l,b=>by
  have ih:=zH4 l;generalize ha:Typ.mk k i l=a;have hal:a.kids=l:=by rw[←ha]; rfl
  rw[←hal]at ih;refine zH Tryz.func105 rfl qBz (rs:=[.slot 4]) (by kernel_rfl) ?_;unfold zUv;have hd:=zMz a b;by_cases h1:a.k=b.k
  ·by_cases h2:a.id=b.id
   ·simp[zB,h1,h2];refine zR (zYd 105 zUM yE a.kids b.kids fun x hx y hy=>ih x hx y) (by simp) (by simp) ?_;simp;exact zC 0 (by simp[hd,h1,h2])
   ·have h3:zCg a.id.a a.id.b a.id.c b.id.a b.id.b b.id.c=false:=by rw[zBa]; exact decide_eq_false h2
    simp[zB,h1,h3];exact zC 0 (by simp[hd,h2])
  ·simp[zB,h1];exact zC 0 (by simp[hd,h1])
theorem zH4:∀(l:List Typ),∀x∈l,∀y:Typ,Ret Tryz.prog 105 [.agg (zB x),.agg (zB y)] [] (bl (yE x y)) []
 | [],x,hx,_=>by simp at hx
 | z::l,x,hx,y=>by
  rcases List.mem_cons.1 hx with e | hx
  ·rw[e]; exact zDP z y
  ·exact zH4 l x hx y
end
def zBO (k:Int):Bool:=decide (k=2)||(decide (k=3)||(decide (k=4)||decide (k=5)))
theorem zFC (d:Dfn):Ret Tryz.prog 43 [.agg (zO d)] [] (bl (zBO d.kind)) []:=by
 refine zH Tryz.func43 rfl qMm (rs:=[.slot 2]) (by kernel_rfl) ?_;unfold qFI;by_cases h2:d.kind=2
 ·simp[zO,h2];exact zC 0 (by simp[zBO,h2])
 ·by_cases h3:d.kind=3
  ·simp[zO,h2,h3];exact zC 0 (by simp[zBO,h2,h3])
  ·by_cases h4:d.kind=4
   ·simp[zO,h2,h3,h4];exact zC 0 (by simp[zBO,h2,h3,h4])
   ·simp[zO,h2,h3,h4];exact zC 0 (by simp[zBO,h2,h3,h4])
def zF1 (x y:Slt):Bool:=decide (x.id=y.id)&&(yE x.typ y.typ&&decide (x.most=y.most))
theorem zPj (x y:Slt):Ret Tryz.prog 104 [.agg (zAh x),.agg (zAh y)] [] (bl (zF1 x y)) []:=by
 refine zH Tryz.func104 rfl qMN (rs:=[.slot 4]) (by kernel_rfl) ?_;unfold qGt;by_cases h1:x.id=y.id
 ·simp[zAh,h1];refine zR (zDP x.typ y.typ) (by simp[zB]) (by simp) ?_;cases h2:yE x.typ y.typ with
  | true =>
   simp;exact zC 0 (by simp[zF1,h1,h2])
  | false =>
   simp;exact zC 0 (by simp[zF1,h1,h2])
 ·have h3:zCg x.id.a x.id.b x.id.c y.id.a y.id.b y.id.c=false:=by rw[zBa]; exact decide_eq_false h1
  simp[zAh,h3];exact zC 0 (by simp[zF1,h1])
def zJb (x y:Exp):Bool:=decide (x.id=y.id)
theorem zNq (x y:Exp):Ret Tryz.prog 107 [.agg (zF x),.agg (zF y)] [] (bl (zJb x y)) []:=by refine zH Tryz.func107 rfl qMO (rs:=[.slot 4]) (by kernel_rfl) ?_;unfold qGu;simp[zF];exact zC 0 (by simp[zJb])
def zB0 (a b:Dfn):Bool:=decide (a.kind=b.kind)&&(zB4 zF1 a.slots b.slots&&(yE a.res b.res&&(!zBO a.kind||decide (a.body.id=b.body.id))))
theorem zQK (a b:Dfn):Ret Tryz.prog 57 [.agg (zO a),.agg (zO b)] [] (bl (zB0 a b)) []:=by
 refine zH Tryz.func57 rfl cSD (rs:=[.slot 4]) (by kernel_rfl) ?_;unfold KSD;by_cases h1:a.kind=b.kind
 ·simp[zO,h1];refine zR (zYc 104 qBD zF1 a.slots b.slots fun x _ y _=>zPj x y) (by simp) (by simp) ?_;cases h2:zB4 zF1 a.slots b.slots with
  | false =>
   simp;exact zC 0 (by simp[zB0,h1,h2])
  | true =>
   simp[zO];refine zR (zDP a.res b.res) (by simp[zB]) (by simp) ?_;cases h3:yE a.res b.res with
   | false =>
    simp;exact zC 0 (by simp[zB0,h1,h2,h3])
   | true =>
    simp[zO];refine zR (zFC a) (by simp[zO,h1]) (by simp) ?_;cases h4:zBO a.kind with
    | false =>
     simp;exact zC 0 (by rw[h1]at h4; simp[zB0,h1,h2,h3,h4])
    | true =>
     simp[zO];exact zC 0 (by rw[h1]at h4; simp[zB0,h1,h2,h3,h4])
 ·simp[zO,h1];exact zC 0 (by simp[zB0,h1])
def zB1 (a b:Exp):Bool:=decide (a.k=b.k)&&(decide (a.n=b.n)&&(decide (a.ref=b.ref)&&(yE a.typ b.typ&&zB4 zJb a.kids b.kids)))
theorem zPk (a b:Exp):Ret Tryz.prog 59 [.agg (zF a),.agg (zF b)] [] (bl (zB1 a b)) []:=by
 refine zH Tryz.func59 rfl cSN (rs:=[.slot 4]) (by kernel_rfl) ?_;unfold KSN;by_cases h1:a.k=b.k
 ·by_cases h2:a.n=b.n
  ·by_cases h3:a.ref=b.ref
   ·simp[zF,h1,h2,h3];refine zR (zDP a.typ b.typ) (by simp[zB]) (by simp) ?_;cases h4:yE a.typ b.typ with
    | false =>
     simp;exact zC 0 (by simp[zB1,h1,h2,h3,h4])
    | true =>
     simp[zF];refine zR (zYb 107 qBE zJb a.kids b.kids fun x _ y _=>zNq x y) (by simp) (by simp) ?_;simp;exact zC 0 (by simp[zB1,h1,h2,h3,h4])
   ·have h5:zCg a.ref.a a.ref.b a.ref.c b.ref.a b.ref.b b.ref.c=false:=by rw[zBa]; exact decide_eq_false h3
    simp[zF,h1,h2,h5];exact zC 0 (by simp[zB1,h1,h2,h3])
  ·simp[zF,h1,h2];exact zC 0 (by simp[zB1,h1,h2])
 ·simp[zF,h1];exact zC 0 (by simp[zB1,h1])
@[simp] theorem qN9:zA Tryz.prog 177=true:=by kernel_rfl
def zB9 (n:Int):Int:=if 1099511627776<n then 1099511627776 else if n < -1099511627776 then -1099511627776 else n
@[simp] theorem qNM:zA Tryz.prog 176=true:=by kernel_rfl
def zBL (b:Bool):Val:=.mk 1 (if b then 1 else 0) []
structure EVar where
 id:Id
 n:Int
 v:Val
def zEd (b:EVar):List A:=[.lit (.int .i64 b.id.a),.lit (.int .i64 b.id.b),.lit (.int .i64 b.id.c),.lit (.int .i64 b.n),.lit (.int .i64 b.v.k),.lit (.int .i64 b.v.n),.sl b.v.kids.length (zW b.v.kids)]
theorem zFj (b:EVar):qX (zEd b):=by have h:=zBF b.v.kids;exact⟨by simp[zEd,h.1],fun rf g=>by simp[zEd,h.2]⟩
def zCG (l:List EVar):List A:=l.flatMap zEd
theorem zGh (l:List EVar):qX (zCG l):=zAN zFj l
@[simp] theorem zY9 (l:List EVar):qU (zCG l)=zCG l:=(zGh l).1
@[simp] theorem qD1 {rf g}(l:List EVar):vwL rf g (zCG l)=zCG l:=(zGh l).2 _ _
@[simp] theorem qAo:zCG []=[]:=rfl
@[simp] theorem qAn (l:List EVar):(zCG l).length=l.length*7:=by rw[zCG,zBr (k:=7) (fun _=>rfl)]
@[simp] theorem qEc (d:EVar):(zEd d).length=7:=rfl
@[simp] theorem qEb (d:EVar):(zEd d).take 7=zEd d:=List.take_of_length_le (Nat.le_refl _)
@[simp] theorem qCh (d:EVar)(l:List A):(zEd d++l).take 7=zEd d:=by rw[List.take_append_of_le_length (by simp)]; exact List.take_of_length_le (by simp)
@[simp] theorem qCK (d:EVar):qU (zEd d)=zEd d:=(zFj d).1
@[simp] theorem qJM (d:EVar) {rf g}:vwL rf g (zEd d)=zEd d:=(zFj d).2 _ _
@[simp] theorem qNR:zA Tryz.prog 101=true:=by kernel_rfl
def zGj (env:List EVar)(id:Id)(n:Int):Val:=((env.reverse.find? fun b=>decide (b.id=id∧b.n=n)).map EVar.v).getD (.mk 0 0 [])
theorem zJR (env:List EVar)(b:EVar)(id:Id)(n:Int):zGj (env++[b]) id n=if b.id=id∧b.n=n then b.v else zGj env id n:=by unfold zGj;rw[List.reverse_append,List.reverse_singleton,List.singleton_append,List.find?_cons];by_cases h:b.id=id∧b.n=n<;>simp[h]
@[simp] theorem qNE:zA Tryz.prog 159=true:=by kernel_rfl
def qG7:K:=G [kO 1 0,kMi 2 0] (G [kMi 3 1] (Z (G [D 6 1 2,L 7 6 1,kN 8 7,kMi 9 0] (K.block 0 (K.loop (G [kB 10 9 8 .lss] (Z (Y 10 ks (K.exit 0)) (Z (K.block 1 (G [kX 11 7 9 3,J 12 11 3,kZ 5 [ki,ki,kl],S 5 12 3] (K.ops [M 13 3,J 14 5 3,kC 15 130 [(kt 14)],kB 16 13 15 .add,M 3 16]))) (K.ops [kBi 17 9 1 .add,M 9 17]))))))) (G [M 18 3,M 2 18] kr)))
theorem qNb:zK Tryz.prog Tryz.f130.ntmps (Tryz.f130.body.getD .skip)=some qG7.erase:=by kernel_rfl
@[simp] theorem qOv:zA Tryz.prog 130=true:=by kernel_rfl
theorem zSa (v:Val):Ret Tryz.prog 130 [.agg (zQ v)] [] (int (zDQ v)) []:=by
 refine zH Tryz.func130 rfl qNb (rs:=[.slot 2]) (by kernel_rfl) ?_;unfold qG7;simp[zQ];intro hl;refine qR (S:=Nat) (fun i=>[(3,int (zKQ (v.kids.take i))),(7,.sl v.kids.length (zW v.kids)),(8,int v.kids.length),(9,int i)]) (fun s=>[]) (fun i=>i≤v.kids.length) (fun i=>v.kids.length-i) 0 (by simp)
  (zP [] 0 (by simp) (by simp) (by simp) (by simp[zKQ])) ?_
 intro i hi;simp;by_cases h:i<v.kids.length
 ·simp[h,jY h];refine zR (zSa v.kids[i]) (by simp[zQ]) (by simp) ?_;simp;exact zS (i+1) h (by omega) (zP [] 0 (by simp) (by simp) (by simp) (by simp[qA h hl,zI0 h]))
 ·have:i=v.kids.length:=by omega
  subst this;simp;exact zC 0 (by simp[zKM v])
termination_by qC v
decreasing_by exact zAw (List.getElem_mem _)
def qG4:K:=G [kO 1 0,kMi 2 0] (G [kMi 3 0] (Z (G [D 6 1 2,L 7 6 1,kN 8 7,kMi 9 0] (K.block 0 (K.loop (G [kB 10 9 8 .lss] (Z (Y 10 ks (K.exit 0)) (Z (K.block 1 (G [kX 11 7 9 3,J 12 11 3,kZ 5 [ki,ki,kl],S 5 12 3] (K.ops [M 13 3,J 14 5 3,kC 15 131 [(kt 14)],⟨none,.mm (some 16) true [(kt 13),(kt 15)]⟩,M 3 16]))) (K.ops [kBi 17 9 1 .add,M 9 17]))))))) (G [M 18 3,kBi 19 18 1 .add,M 2 19] kr)))
theorem qMY:zK Tryz.prog Tryz.f131.ntmps (Tryz.f131.body.getD .skip)=some qG4.erase:=by kernel_rfl
@[simp] theorem qOr:zA Tryz.prog 131=true:=by kernel_rfl
theorem zR1 (v:Val):Ret Tryz.prog 131 [.agg (zQ v)] [] (int (zCm v)) []:=by
 refine zH Tryz.func131 rfl qMY (rs:=[.slot 2]) (by kernel_rfl) ?_;unfold qG4;simp[zQ];intro hl;refine qR (S:=Nat) (fun i=>[(3,int (zKl (v.kids.take i))),(7,.sl v.kids.length (zW v.kids)),(8,int v.kids.length),(9,int i)]) (fun s=>[]) (fun i=>i≤v.kids.length) (fun i=>v.kids.length-i) 0 (by simp)
  (zP [] 0 (by simp) (by simp) (by simp) (by simp[zKl])) ?_
 intro i hi;simp;by_cases h:i<v.kids.length
 ·simp[h,jY h];refine zR (zR1 v.kids[i]) (by simp[zQ]) (by simp) ?_;simp;exact zS (i+1) h (by omega) (zP [] 0 (by simp) (by simp) (by simp) (by simp[qA h hl,zIe h,zQ1]))
 ·have:i=v.kids.length:=by omega
  subst this;simp;exact zC 0 (by simp[zHQ v,w64])
termination_by qC v
decreasing_by exact zAw (List.getElem_mem _)
def qG6:K:=G [kO 1 0,kMb 2 false] (G [kZ 3 [ki],⟨none,.st none (kt 3) (kc 256) 1⟩] (G [kZ 4 [.nilFunc]] (G [⟨none,.clo (some 5) 124 [] [(kt 3),(kt 4)]⟩,S 4 5 1] (G [L 6 4 1,J 7 1 3,⟨none,.call (some 8) (kt 6) [(kt 7),(kc 1)]⟩,M 2 8] kr))))
theorem qNa:zK Tryz.prog Tryz.f91.ntmps (Tryz.f91.body.getD .skip)=some qG6.erase:=by kernel_rfl
@[simp] theorem qOu:zA Tryz.prog 91=true:=by kernel_rfl
def zZQ:K:=G [kO 4 0,kO 5 1,kMb 6 false] (G [L 7 2 1,kBi 8 7 1 .sub,S 2 8 1] (G [L 9 2 1,kBi 10 9 0 .geq,M 11 10,T 11 true (L 12 5 1),T 11 true (kBi 13 12 24 .leq),kPf 14 11 13,M 15 14,T 15 true (D 16 4 2),T 15 true (L 17 16 1),⟨some (15,true),.clo (some 18) 126 [] [(kt 3),(kt 5)]⟩,T 15 true (kC 19 125 [(kt 17),(kt 18)]),T 15 true (kR 20 19),kPf 21 15 20,M 6 21] kr))
theorem qH0:zK Tryz.prog Tryz.f124.ntmps (Tryz.f124.body.getD .skip)=some zZQ.erase:=by kernel_rfl
@[simp] theorem qKB:zA Tryz.prog 124=true:=by kernel_rfl
def qBi:K:=G [kMb 4 false] (G [M 5 0,M 6 1,kC 7 143 [(kt 5),(kt 6)],kBi 8 7 0 .geq,M 4 8] kr)
theorem qHu:zK Tryz.prog Tryz.f125.ntmps (Tryz.f125.body.getD .skip)=some qBi.erase:=by kernel_rfl
@[simp] theorem qOq:zA Tryz.prog 125=true:=by kernel_rfl
def zZR:K:=G [kO 3 0,kMb 4 false] (G [L 5 1 1,J 6 3 3,L 7 2 1,kBi 8 7 1 .add,⟨none,.call (some 9) (kt 5) [(kt 6),(kt 8)]⟩,kR 10 9,M 4 10] kr)
theorem qH1:zK Tryz.prog Tryz.f126.ntmps (Tryz.f126.body.getD .skip)=some zZR.erase:=by kernel_rfl
@[simp] theorem qKC:zA Tryz.prog 126=true:=by kernel_rfl
def qBj:K:=G [kMi 4 0] (Z (G [M 6 0,kN 7 6,kMi 8 0] (K.block 0 (K.loop (G [kB 9 8 7 .lss] (Z (Y 9 ks (K.exit 0)) (Z (K.block 1 (G [M 10 8,M 5 10] (G [M 11 1,M 12 0,M 13 5,kX 14 12 13 3,J 15 14 3,⟨none,.call (some 16) (kt 11) [(kt 15)]⟩] (Y 16 (G [M 17 5,M 4 17] kr) ks)))) (K.ops [kBi 18 8 1 .add,M 8 18]))))))) (G [⟨none,.mov (some 4) (kc (-1))⟩] kr))
theorem qHz:zK Tryz.prog Tryz.f143.ntmps (Tryz.f143.body.getD .skip)=some qBj.erase:=by kernel_rfl
@[simp] theorem qOt:zA Tryz.prog 143=true:=by kernel_rfl
mutual
def zA9:Val→Nat
 | .mk _ _ l=>yW l+1
def yW:List Val→Nat
 | []=>0
 | v::l=>max (zA9 v) (yW l)
end
theorem zHP (v:Val):zA9 v=yW v.kids+1:=by cases v; simp only[zA9,Val.kids]
theorem zKL (v:Val):qC v=1+qN v.kids:=by cases v; simp only[qC,Val.kids]
theorem zIF:∀{l:List Val} {v:Val},v∈l→zA9 v≤yW l
 | x::l,v,h=>by
  simp only[yW];rcases List.mem_cons.1 h with rfl | h
  ·omega
  ·have:=zIF h; omega
theorem zBT:∀(a b:List Val),qN (a++b)=qN a+qN b
 | [],b=>by simp[qN]
 | x::a,b=>by simp[qN,zBT a b]; omega
theorem zF2 {l:List Val}{i:Nat}(h:i<l.length):qN (l.take (i+1))=qN (l.take i)+qC l[i]:=by rw[List.take_succ_eq_append_getElem h,zBT]; simp[qN]
theorem zH7 (l:List Val)(i:Nat):qN l=qN (l.take i)+qN (l.drop i):=by
 conv=>lhs; rw[←List.take_append_drop i l]
 exact zBT _ _
def zB2:A:=.clo 124 [] [.ptr 0 0,.ptr 1 0]
def sSt (L:Nat):St:=[.box [int L],.box [zB2]]
def zEn (L:Nat)(d:Int):St:=[.box [int L],.box [zB2],.box [int d]]
def zJk (v:Val)(d:Int):Prop:=∀L:Nat,qC v≤L→L≤256→Ret Tryz.prog 124 [.agg (zQ v),int d,.ptr 0 0,.ptr 1 0] (sSt L) (bl true) (sSt (L-qC v))
theorem zTD (v:Val)(d:Int)(hd:0≤d∧d≤100)(h:zJk v (d+1))(L:Nat)(hL:qC v≤L)(hL2:L≤256) :
 Ret Tryz.prog 126 [.agg (zQ v),.ptr 1 0,.ptr 2 0] (zEn L d) (bl false) (zEn (L-qC v) d):=by
 refine zH Tryz.func126 rfl qH1 (rs:=[.slot 4]) (by kernel_rfl) ?_;unfold zZR;have hw:IntKind.i64.wrap (d+1)=d+1:=IntWalk.i64_in _ (by omega);simp[zEn,zB2,hw,zQ];refine zN (h L hL hL2) [0,1] (by simp) (by simp[sSt,zB2]) (by simp[zQ]) ?_;simp[sSt,zB2];exact zG [0,1,2] 0 (by decide) (by simp) (by simp[zB2]) (by simp)
theorem zYo (l:List Val)(d:Int)(hd:0≤d∧d≤100)(h:∀x∈l,zJk x (d+1))(L:Nat)(hL:qN l≤L)(hL2:L≤256) :
 Ret Tryz.prog 143 [.sl l.length (zW l),.clo 126 [] [.ptr 1 0,.ptr 2 0]] (zEn L d) (int (-1)) (zEn (L-qN l) d):=by
 refine zH Tryz.func143 rfl qHz (rs:=[.slot 4]) (by kernel_rfl) ?_;unfold qBj;simp[zEn,zB2];intro hl;refine qR (S:=Nat) (fun i=>[(0,.sl l.length (zW l)),(1,.clo 126 [] [.ptr 1 0,.ptr 2 0]),(6,.sl l.length (zW l)),(7,int l.length),(8,int i)]) (fun i=>zEn (L-qN (l.take i)) d) (fun i=>i≤l.length) (fun i=>l.length-i) 0 (by simp)
  (zP [0,1,2] 0 (by decide) (by simp) (by simp[zEn,zB2,qN]) (by simp)) ?_
 intro i hi;by_cases hil:i<l.length
 ·have e1:=zF2 hil;have e2:=zH7 l (i+1);simp[hil,jY hil,zEn,zB2];refine zN (zTD l[i] d hd (h _ (List.getElem_mem hil)) (L-qN (l.take i)) (by omega) (by omega)) [0,1,2] (by simp) (by simp[zEn,zB2]) (by simp[zQ]) ?_;simp[zEn,zB2];exact zS (i+1) hil (by omega) (zP [0,1,2] 0 (by decide) (by simp) (by simp[zEn,zB2,e1,Nat.sub_sub]) (by simp[qA hil hl]))
 ·have:i=l.length:=by omega
  subst this;simp[zEn,zB2];exact zG [0,1,2] 0 (by decide) (by simp) (by simp[zB2]) (by simp)
theorem zXG (l:List Val)(d:Int)(hd:0≤d∧d≤100)(h:∀x∈l,zJk x (d+1))(L:Nat)(hL:qN l≤L)(hL2:L≤256) :
 Ret Tryz.prog 125 [.sl l.length (zW l),.clo 126 [] [.ptr 1 0,.ptr 2 0]] (zEn L d) (bl false) (zEn (L-qN l) d):=by
 refine zH Tryz.func125 rfl qHu (rs:=[.slot 4]) (by kernel_rfl) ?_;unfold qBi;simp[zEn,zB2];refine zN (zYo l d hd h L hL hL2) [0,1,2] (by simp) (by simp[zEn,zB2]) (by simp) ?_;simp[zEn,zB2];exact zG [0,1,2] 0 (by decide) (by simp) (by simp[zB2]) (by simp)
theorem zKO (v:Val)(d:Int)(hd:1≤d∧d+zA9 v≤25):zJk v d:=by
 intro L hL hL2;refine zH Tryz.func124 rfl qH0 (rs:=[.slot 6]) (by kernel_rfl) ?_;unfold zZQ;have e1:=zKL v;have e2:=zHP v;have hw:IntKind.i64.wrap ((L:Int)-1)=((L-1:Nat):Int):=by rw[IntWalk.i64_in _ (by omega)]; omega
 have hd24:d≤24:=by omega
 simp[sSt,zB2,hw,hd24,zQ];refine zN (zXG v.kids d (by omega) (fun x hx=>zKO x (d+1) (by have:=zIF hx; omega)) (L-1) (by omega) (by omega)) [0,1,3] (by simp) (by simp[zEn,zB2]) (by simp) ?_;simp[zEn,zB2];exact zG [0,1] 0 (by decide) (by simp) (by simp[zB2,e1,Nat.sub_sub]) (by simp)
termination_by qC v
decreasing_by exact zAw hx
theorem zWI (v:Val)(h1:qC v≤256)(h2:zA9 v≤24):Ret Tryz.prog 91 [.agg (zQ v)] [] (bl true) []:=by refine zH Tryz.func91 rfl qNa (rs:=[.slot 2]) (by kernel_rfl) ?_;unfold qG6;simp[zQ];refine zN (zKO v 1 (by omega) 256 h1 (by omega)) [1,2] (by simp) (by simp[sSt,zB2]) (by simp[zQ]) ?_;simp[sSt,zB2];exact zC 0 (by simp)
theorem zLk:Ret Tryz.prog 97 [.sl 0 []] [] (.sl 0 []) []:=by refine zH Tryz.func97 rfl zNG (rs:=[.slot 2]) (by kernel_rfl) ?_;unfold zJx;simp;exact zC 0 (by simp)
def qGv:K:=G [kMn 2] (G [M 4 0,kC 5 94 [(kt 4)],M 3 5] (G [M 6 3,kC 7 95 [(kt 6),(.func 96)]] (G [M 8 3,kC 9 97 [(kt 8)],M 2 9] kr)))
theorem qMP:zK Tryz.prog Tryz.f48.ntmps (Tryz.f48.body.getD .skip)=some qGv.erase:=by kernel_rfl
@[simp] theorem qNV:zA Tryz.prog 48=true:=by kernel_rfl
theorem zIy (l:List Id)(hb:l.length≤1000000):Ret Tryz.prog 48 [.sl l.length (zY l)] [] (.sl (zCB l).length (zY (zCB l))) []:=by
 refine zH Tryz.func48 rfl qMP (rs:=[.slot 2]) (by kernel_rfl) ?_;unfold qGv;simp;by_cases h:l=[]
 ·subst h;refine zN zNS [] (by simp) (by simp) (by simp) ?_;simp;refine zN (zQQ (.clo 96 [] [])) [] (by simp) (by simp) (by simp) ?_;simp;refine zN zLk [] (by simp) (by simp) (by simp) ?_;simp;exact zC 0 (by simp[zCB,zDb,zAj])
 ·refine zN (zNR l h hb) [] (by simp) (by simp) (by simp) ?_;simp;refine zN (zQP l (by omega)) [0] (by simp) (by simp) (by simp) ?_;have hp:=(zGG l).length_eq;simp;have hc:=zPP (zDb zEY l) (by omega);rw[hp]at hc;refine zN hc [0] (by simp) (by simp) (by simp) ?_;have hle:=zLD (zDb zEY l);simp[zNT];by_cases hcc:zAj (zDb zEY l)=zDb zEY l
  ·simp[hcc,hp];exact zC 1 (by simp[zCB,hcc,hp,zCE])
  ·simp[hcc,hp];have h0:(zAj (zDb zEY l)).length≠0:=fun e=>by have h1:=List.eq_nil_of_length_eq_zero e;obtain⟨x,hx⟩:=List.exists_mem_of_ne_nil l h;have:=(zHM (x:=x) (zDb zEY l)).2 ((zGG l).mem_iff.2 hx);rw[h1]at this;simp at this
   exact zC 1 (by simp[zCB,h0,jA])
@[simp] theorem qHG:zA Tryz.prog 30=true:=by kernel_rfl
def zZy:K:=G [kO 2 0,kMb 4 false] (G [⟨none,.mop (some 8) (.mk 3) []⟩,kZ 5 [(.map none)],S 5 8 1] (Z (G [D 9 2 0,L 10 9 1,D 11 2 1,L 12 11 1,kd 13 45 1 2 [kl,kl] [(0,1,(kt 10)),(1,1,(kt 12))],kC 14 69 [(kt 13)],kN 15 14,kMi 16 0] (K.block 0 (K.loop (G [kB 17 16 15 .lss] (Z (Y 17 ks (K.exit 0)) (Z (K.block 1 (G [kX 18 14 16 3,J 19 18 3,kZ 7 [ki,ki,ki],S 7 19 3] (K.ops [L 20 5 1,J 21 7 3,⟨none,.mop none (.set 3) [(kt 20),(kt 21),(.const (.bool true))]⟩]))) (K.ops [kBi 22 16 1 .add,M 16 22]))))))) (G [M 23 1,⟨none,.clo (some 24) 71 [] [(kt 5)]⟩,kC 25 70 [(kt 23),(kt 24)],M 4 25] kr)))
theorem qGW:zK Tryz.prog Tryz.f29.ntmps (Tryz.f29.body.getD .skip)=some zZy.erase:=by kernel_rfl
@[simp] theorem qKj:zA Tryz.prog 29=true:=by kernel_rfl
def zTZ:K:=G [kO 2 0,kMb 3 false] (G [L 4 1 1,J 5 2 3,⟨none,.mop (some 6) (.get 3 (.bool false) false) [(kt 4),(kt 5)]⟩,M 3 6] kr)
theorem qBs:zK Tryz.prog Tryz.f71.ntmps (Tryz.f71.body.getD .skip)=some zTZ.erase:=by kernel_rfl
@[simp] theorem qH5:zA Tryz.prog 71=true:=by kernel_rfl
def zRm:K:=G [kMi 4 0] (Z (G [M 6 0,kN 7 6,kMi 8 0] (K.block 0 (K.loop (G [kB 9 8 7 .lss] (Z (Y 9 ks (K.exit 0)) (Z (K.block 1 (G [M 10 8,M 5 10] (G [M 11 1,M 12 0,M 13 5,kX 14 12 13 3,J 15 14 3,⟨none,.call (some 16) (kt 11) [(kt 15)]⟩] (Y 16 (G [M 17 5,M 4 17] kr) ks)))) (K.ops [kBi 18 8 1 .add,M 8 18]))))))) (G [⟨none,.mov (some 4) (kc (-1))⟩] kr))
theorem zXw:zK Tryz.prog Tryz.f117.ntmps (Tryz.f117.body.getD .skip)=some zRm.erase:=by kernel_rfl
@[simp] theorem qDQ:zA Tryz.prog 117=true:=by kernel_rfl
def zUa:K:=G [kMb 4 false] (G [M 5 0,M 6 1,kC 7 117 [(kt 5),(kt 6)],kBi 8 7 0 .geq,M 4 8] kr)
theorem qBt:zK Tryz.prog Tryz.f70.ntmps (Tryz.f70.body.getD .skip)=some zUa.erase:=by kernel_rfl
@[simp] theorem qH8:zA Tryz.prog 70=true:=by kernel_rfl
def zEj (l:List Id):List (List Int×A):=l.foldl (fun es d=>zDl (zBf d) (.lit (.bool true)) es) []
theorem zId (l:List Id)(x:Id):zEj (l++[x])=zDl (zBf x) (.lit (.bool true)) (zEj l):=by simp[zEj,List.foldl_append]
theorem zFp {x y:Id}:zBf x=zBf y↔x=y:=by simp[zBf,Id.eq_iff]
theorem zLJ {ks ks':List Int}{v:A}:∀(es:List (List Int×A)),zAy ks (zDl ks' v es)=if ks'=ks then some v else zAy ks es
 | []=>by simp[zDl,zAy]
 | p::es=>by
  simp only[zDl];by_cases h:p.1=ks'
  ·simp only[h,if_true,zAy];by_cases h':ks'=ks<;>simp[h']
  ·simp only[h,if_false,zAy];by_cases h':p.1=ks
   ·simp only[h',if_true];have:¬ks'=ks:=fun e=>h (h'.trans e.symm)
    simp[this]
   ·simp only[h',if_false,zLJ es]
theorem zQd (x:Id)(l:List Id):zAy (zBf x) (zEj l)=if x∈l then some (.lit (.bool true)) else none:=by
 induction l using zB3 with
 | nil=>simp[zEj,zAy]
 | snoc l y ih =>
  rw[zId,zLJ,ih];by_cases h:y=x
  ·subst h; simp
  ·have:¬zBf y=zBf x:=fun e=>h (zFp.1 e)
   have h':¬x=y:=fun e=>h e.symm
   simp[this,h']
theorem zWf (l:List Id)(k:Nat):∀p∈zEj l,p.2.bnd k=true:=by
 induction l using zB3 with
 | nil=>simp[zEj]
 | snoc l y ih =>
  rw[zId];have:∀es:List (List Int×A),(∀p∈es,p.2.bnd k=true)→∀p∈zDl (zBf y) (.lit (.bool true)) es,p.2.bnd k=true:=by
   intro es;induction es with
   | nil=>intro _ p hp; simp[zDl]at hp; subst hp; rfl
   | cons q es ih =>
    intro h p hp;simp only[zDl]at hp;split at hp
    ·rcases List.mem_cons.1 hp with rfl | hp
     ·rfl
     ·exact h p (List.mem_cons_of_mem _ hp)
    ·rcases List.mem_cons.1 hp with rfl | hp
     ·exact h _ (List.mem_cons_self ..)
     ·exact ih (fun p hp=>h p (List.mem_cons_of_mem _ hp)) p hp
  exact this _ ih
@[simp] theorem qLh {rf:Bool→Nat→Nat→A}{g:Nat→Option Nat}(l:List Id):((zEj l).map fun p=>(p.1,vw rf g p.2))=zEj l:=by
 have h:=zWf l 0;generalize zEj l=es at h;induction es with
 | nil=>rfl
 | cons p es ih =>
  rw[List.map_cons,ih fun q hq=>h q (List.mem_cons_of_mem _ hq),zWY (k:=0) (fun l hl=>by omega) p.2 (h p (List.mem_cons_self ..))]
theorem zU8 (l:List Id)(x:Id):Ret Tryz.prog 71 [.agg (jK x),.ptr 0 0] [.box [.map 1],.mp true 3 (zEj l)] (bl (decide (x∈l))) [.box [.map 1],.mp true 3 (zEj l)]:=by
 refine zH Tryz.func71 rfl qBs (rs:=[.slot 3]) (by kernel_rfl) ?_;unfold zTZ;have hf:=zQd x l;simp only[zBf]at hf;simp[jK];have hr:zFo (Value.bool false) false (zAy [x.a,x.b,x.c] (zEj l))=.lit (.bool (decide (x∈l))):=by rw[hf];by_cases h:x∈l<;>simp[zFo,h,zFO,qY]
 rw[hr];exact zG [0,1] 0 (by decide) (by simp) (by simp) (by simp)
def zQr (l ids:List Id):Int:=match ids.findIdx? (fun x=>decide (x∈l))with
 | some i=>i
 | none=>-1
theorem zOv (l ids:List Id):decide (0≤zQr l ids)=ids.any fun x=>decide (x∈l):=by
 unfold zQr;cases h:ids.findIdx? (fun x=>decide (x∈l))with
 | none =>
  rw[List.findIdx?_eq_none_iff]at h;have:(ids.any fun x=>decide (x∈l))=false:=by rw[List.any_eq_false]; exact fun x hx=>by simpa using h x hx
  rw[this]; rfl
 | some i =>
  have h':=List.findIdx?_eq_some_iff_getElem.1 h;obtain⟨hi,h1,_⟩:=h';have:(ids.any fun x=>decide (x∈l))=true:=by rw[List.any_eq_true]; exact⟨_,List.getElem_mem hi,h1⟩
  rw[this]; simp
theorem zTm (l ids:List Id):Ret Tryz.prog 117 [.sl ids.length (zY ids),.clo 71 [] [.ptr 0 0]] [.box [.map 1],.mp true 3 (zEj l)] (int (zQr l ids)) [.box [.map 1],.mp true 3 (zEj l)]:=by
 refine zH Tryz.func117 rfl zXw (rs:=[.slot 4]) (by kernel_rfl) ?_;unfold zRm;simp;intro hl;refine qR (S:=Nat) (fun i=>[(0,.sl ids.length (zY ids)),(1,.clo 71 [] [.ptr 0 0]),(7,int ids.length),(8,int i)]) (fun i=>[.box [.map 1],.mp true 3 (zEj l)]) (fun i=>i≤ids.length∧∀x∈ids.take i,x∉l) (fun i=>ids.length-i) 0 (by simp)
  (zP [0,1] 0 (by decide) (by simp) (by simp) (by simp)) ?_
 rintro i ⟨hi,hn⟩;by_cases h:i<ids.length
 ·simp[h,yK h];refine zN (zU8 l ids[i]) [0,1] (by simp) (by simp) (by simp[jK]) ?_;simp;by_cases hx:ids[i]∈l
  ·have:zQr l ids=i:=by
    unfold zQr;rw[List.findIdx?_eq_some_iff_getElem.2 ⟨h,by simpa using hx,fun j hj=>by
     have:=hn ids[j] (by rw[List.mem_take_iff_getElem]; exact⟨j,by omega,rfl⟩)
     simpa using this⟩]
   simp[hx];exact zG [0,1] 0 (by decide) (by simp) (by simp) (by simp[this])
  ·simp[hx];exact zS (i+1) ⟨h,fun x hx'=>by
    rw[List.take_succ_eq_append_getElem h]at hx';rcases List.mem_append.1 hx' with hx' | hx'
    ·exact hn x hx'
    ·rw[List.mem_singleton.1 hx']; exact hx⟩ (by omega) (zP [0,1] 0 (by decide) (by simp) (by simp) (by simp[qA h hl]))
 ·have:i=ids.length:=by omega
  subst this;rw[List.take_length]at hn;have:zQr l ids = -1:=by unfold zQr;rw[List.findIdx?_eq_none_iff.2 fun x hx=>by simpa using hn x hx]
  simp;exact zG [0,1] 0 (by decide) (by simp) (by simp) (by simp[this])
theorem zVh (l ids:List Id):Ret Tryz.prog 70 [.sl ids.length (zY ids),.clo 71 [] [.ptr 0 0]] [.box [.map 1],.mp true 3 (zEj l)] (bl (ids.any fun x=>decide (x∈l))) [.box [.map 1],.mp true 3 (zEj l)]:=by refine zH Tryz.func70 rfl qBt (rs:=[.slot 4]) (by kernel_rfl) ?_;unfold zUa;simp;refine zN (zTm l ids) [0,1] (by simp) (by simp) (by simp) ?_;simp;exact zG [0,1] 0 (by decide) (by simp) (by simp) (by rw[←zOv]; simp)
theorem zXq (t:Trc)(ids l:List Id)(hl:l=t.defs++t.nodes)(h:l.length≤1000000):Ret Tryz.prog 29 [.agg (zDx t),.sl ids.length (zY ids)] [] (bl (ids.any fun x=>decide (x∈l))) []:=by
 refine zH Tryz.func29 rfl qGW (rs:=[.slot 4]) (by kernel_rfl) ?_;unfold zZy;have e1:[t.defs,t.nodes].flatten=l:=by simp[hl]
 simp[zDx];refine zR (zML [t.defs,t.nodes] (by rw[zDC,e1]; exact h)) (by simp[zB8]) (by simp) ?_;rw[zDC,e1];simp;intro hlm;refine qR (S:=Nat) (fun i=>[(1,.sl ids.length (zY ids)),(5,.ptr 0 0),(14,.sl l.length (zY l)),(15,int l.length),(16,int i)]) (fun i=>[.box [.map 1],.mp true 3 (zEj (l.take i))]) (fun i=>i≤l.length) (fun i=>l.length-i) 0 (by simp)
  (zP [2,1] 0 (by simp) (by simp) (by simp[zEj]) (by simp)) ?_
 intro i hi;by_cases h:i<l.length
 ·have hs:=zId (l.take i) l[i];rw[←List.take_succ_eq_append_getElem h,zBf]at hs;simp[h,yK h];rw[←hs];exact zS (i+1) h (by omega) (zP [0,1] 0 (by simp) (by simp) (by simp) (by simp[qA h hlm]))
 ·have:i=l.length:=by omega
  subst this;simp;refine zN (zVh l ids) [0,1] (by simp) (by simp) (by simp) ?_;simp;exact zC 0 (by simp)
end Go.Proofs.YthglhccibdlccaaGreatDoor
