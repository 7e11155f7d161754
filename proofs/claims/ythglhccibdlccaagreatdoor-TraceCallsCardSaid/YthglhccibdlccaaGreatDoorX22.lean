/-
  value.SameType, trace.sameDef, trace.sameNode, trace.bodied.
  Numbers of the reference's evaluator: clip, truth.
  The reference's environments: With, Find.
  value.Size and trace.deep.
  value.small: true at small values.
  trace.set, Join and Asks; the law's lists of IDs.
-/
import Derived.Test.YthglhccibdlccaaGreatDoorX21
set_option linter.unusedVariables false
set_option linter.unusedSimpArgs false
namespace Go.Proofs.YthglhccibdlccaaGreatDoor
open Go.Abs
def zWm:K:=G [kO 2 0,kO 3 1,kMb 4 false] (G [D 5 2 0,L 6 5 1,D 7 3 0,L 8 7 1,kQ 9 6 8 false,M 10 9,T 10 true (D 11 2 1),T 10 true (J 12 11 3),T 10 true (D 13 3 1),T 10 true (J 14 13 3),⟨some (10,true),.eqs (some 15) false [.i,.i,.i] (kt 12) (kt 14)⟩,kPf 16 10 15,M 17 16,T 17 true (D 18 2 4),T 17 true (L 19 18 1),T 17 true (D 20 3 4),T 17 true (L 21 20 1),T 17 true (kC 22 139 [(kt 19),(kt 21),(.func 105)]),kPf 23 17 22,M 4 23] kr)
theorem qBQ:zN Tryz.prog Tryz.f105.ntmps (Tryz.f105.body.getD .skip)=some zWm.erase:=by kernel_rfl
@[simp] theorem zUQ:zC Tryz.prog 105=true:=by kernel_rfl
def KSD:K:=G [kO 2 0,kO 3 1,kMb 4 false] (G [⟨none,.mov (some 5) (.func 104)⟩] (G [D 6 2 3,L 7 6 1,D 8 3 3,L 9 8 1,kQ 10 7 9 false,M 11 10,T 11 true (D 12 2 8),T 11 true (L 13 12 1),T 11 true (D 14 3 8),T 11 true (L 15 14 1),T 11 true (M 16 5),T 11 true (kC 17 106 [(kt 13),(kt 15),(kt 16)]),kPf 18 11 17,M 19 18,T 19 true (D 20 2 9),T 19 true (J 21 20 5),T 19 true (D 22 3 9),T 19 true (J 23 22 5),T 19 true (kC 24 105 [(kt 21),(kt 23)]),kPf 25 19 24,M 26 25,T 26 true (J 27 2 31),T 26 true (kC 28 43 [(kt 27)]),T 26 true (kR 29 28),T 26 true (M 30 29),T 30 false (D 31 2 14),T 30 false (D 32 31 0),T 30 false (J 33 32 3),T 30 false (D 34 3 14),T 30 false (D 35 34 0),T 30 false (J 36 35 3),⟨some (30,false),.eqs (some 37) false [.i,.i,.i] (kt 33) (kt 36)⟩,T 26 true (kPt 38 30 37),kPf 39 26 38,M 4 39] kr))
theorem cSD:zN Tryz.prog Tryz.f57.ntmps (Tryz.f57.body.getD .skip)=some KSD.erase:=by kernel_rfl
@[simp] theorem qOU:zC Tryz.prog 57=true:=by kernel_rfl
def qJg:K:=G [kO 2 0,kO 3 1,kMb 4 false] (G [D 5 2 0,J 6 5 3,D 7 3 0,J 8 7 3,⟨none,.eqs (some 9) false [.i,.i,.i] (kt 6) (kt 8)⟩,M 10 9,T 10 true (D 11 2 4),T 10 true (J 12 11 5),T 10 true (D 13 3 4),T 10 true (J 14 13 5),T 10 true (kC 15 105 [(kt 12),(kt 14)]),kPf 16 10 15,M 17 16,T 17 true (D 18 2 9),T 17 true (L 19 18 1),T 17 true (D 20 3 9),T 17 true (L 21 20 1),T 17 true (kQ 22 19 21 false),kPf 23 17 22,M 4 23] kr)
theorem qOS:zN Tryz.prog Tryz.f104.ntmps (Tryz.f104.body.getD .skip)=some qJg.erase:=by kernel_rfl
@[simp] theorem qAZ:zC Tryz.prog 104=true:=by kernel_rfl
def KSN:K:=G [kO 2 0,kO 3 1,kMb 4 false] (G [⟨none,.mov (some 5) (.func 107)⟩] (G [D 6 2 3,L 7 6 1,D 8 3 3,L 9 8 1,kQ 10 7 9 false,M 11 10,T 11 true (D 12 2 4),T 11 true (L 13 12 1),T 11 true (D 14 3 4),T 11 true (L 15 14 1),T 11 true (kQ 16 13 15 false),kPf 17 11 16,M 18 17,T 18 true (D 19 2 5),T 18 true (J 20 19 3),T 18 true (D 21 3 5),T 18 true (J 22 21 3),⟨some (18,true),.eqs (some 23) false [.i,.i,.i] (kt 20) (kt 22)⟩,kPf 24 18 23,M 25 24,T 25 true (D 26 2 8),T 25 true (J 27 26 5),T 25 true (D 28 3 8),T 25 true (J 29 28 5),T 25 true (kC 30 105 [(kt 27),(kt 29)]),kPf 31 25 30,M 32 31,T 32 true (D 33 2 13),T 32 true (L 34 33 1),T 32 true (D 35 3 13),T 32 true (L 36 35 1),T 32 true (M 37 5),T 32 true (kC 38 108 [(kt 34),(kt 36),(kt 37)]),kPf 39 32 38,M 4 39] kr))
theorem cSN:zN Tryz.prog Tryz.f59.ntmps (Tryz.f59.body.getD .skip)=some KSN.erase:=by kernel_rfl
@[simp] theorem qOY:zC Tryz.prog 59=true:=by kernel_rfl
def qG3:K:=G [kO 2 0,kO 3 1,kMb 4 false] (G [D 5 2 0,J 6 5 3,D 7 3 0,J 8 7 3,⟨none,.eqs (some 9) false [.i,.i,.i] (kt 6) (kt 8)⟩,M 4 9] kr)
theorem qLU:zN Tryz.prog Tryz.f107.ntmps (Tryz.f107.body.getD .skip)=some qG3.erase:=by kernel_rfl
@[simp] theorem qC0:zC Tryz.prog 107=true:=by kernel_rfl
def qFK:K:=G [kO 1 0,kMb 2 false] (G [D 3 1 3,L 4 3 1,kQi 5 4 2 false,M 6 5,T 6 false (D 7 1 3),T 6 false (L 8 7 1),T 6 false (kQi 9 8 3 false),kPt 10 6 9,M 11 10,T 11 false (D 12 1 3),T 11 false (L 13 12 1),T 11 false (kQi 14 13 4 false),kPt 15 11 14,M 16 15,T 16 false (D 17 1 3),T 16 false (L 18 17 1),T 16 false (kQi 19 18 5 false),kPt 20 16 19,M 2 20] kr)
theorem qNd:zN Tryz.prog Tryz.f43.ntmps (Tryz.f43.body.getD .skip)=some qFK.erase:=by kernel_rfl
@[simp] theorem qO0:zC Tryz.prog 43=true:=by kernel_rfl
mutual
def yK:Typ→Typ→Bool
 | .mk k i l,.mk k' i' l'=>decide (k=k')&&(decide (i=i')&&zCV l l')
def zCV:List Typ→List Typ→Bool
 | [],[]=>true
 | x::a,y::b=>yK x y&&zCV a b
 | _,_=>false
end
theorem zMf:∀(a b:List Typ),zCV a b=zCp yK a b
 | [],[]=>by simp only[zCV,zCp]
 | x::a,y::b=>by simp only[zCV,zCp,zMf a b]
 | [],_::_=>by simp only[zCV,zCp]
 | _::_,[]=>by simp only[zCV,zCp]
theorem zLr (a b:Typ):yK a b=(decide (a.k=b.k)&&(decide (a.id=b.id)&&zCp yK a.kids b.kids)):=by cases a; cases b; simp only[yK,zMf]; rfl
mutual
theorem zEb:∀(a b:Typ),yK a b=true↔a=b
 | .mk k i l,.mk k' i' l'=>by simp only[yK,Bool.and_eq_true,decide_eq_true_eq,zJx l l',Typ.mk.injEq]
theorem zJx:∀(a b:List Typ),zCV a b=true↔a=b
 | [],[]=>by simp[zCV]
 | x::a,y::b=>by simp only[zCV,Bool.and_eq_true,zEb x y,zJx a b,List.cons.injEq]
 | [],_::_=>by simp[zCV]
 | _::_,[]=>by simp[zCV]
end
mutual
theorem zDB:∀(a b:Typ),Ret Tryz.prog 105 [.agg (zB a),.agg (zB b)] [] (bl (yK a b)) []
 | .mk k i l,b=>by
  have ih:=zHH l;generalize ha:Typ.mk k i l=a;have hal:a.kids=l:=by rw[←ha]; rfl
  rw[←hal]at ih;refine zK Tryz.func105 rfl qBQ (rs:=[.slot 4]) (by kernel_rfl) ?_;unfold zWm;have hd:=zLr a b;by_cases h1:a.k=b.k
  ·by_cases h2:a.id=b.id
   ·simp[zB,h1,h2];refine zR (zYo 105 zUQ yK a.kids b.kids fun x hx y hy=>ih x hx y) (by simp) (by simp) ?_;simp;exact zA 0 (by simp[hd,h1,h2])
   ·have h3:zCh a.id.a a.id.b a.id.c b.id.a b.id.b b.id.c=false:=by rw[zA6]; exact decide_eq_false h2
    simp[zB,h1,h3];exact zA 0 (by simp[hd,h2])
  ·simp[zB,h1];exact zA 0 (by simp[hd,h1])
theorem zHH:∀(l:List Typ),∀x∈l,∀y:Typ,Ret Tryz.prog 105 [.agg (zB x),.agg (zB y)] [] (bl (yK x y)) []
 | [],x,hx,_=>by simp at hx
 | z::l,x,hx,y=>by
  rcases List.mem_cons.1 hx with e | hx
  ·rw[e]; exact zDB z y
  ·exact zHH l x hx y
end
def zCu (k:Int):Bool:=decide (k=2)||(decide (k=3)||(decide (k=4)||decide (k=5)))
theorem zFY (d:Dfn):Ret Tryz.prog 43 [.agg (zP d)] [] (bl (zCu d.kind)) []:=by
 refine zK Tryz.func43 rfl qNd (rs:=[.slot 2]) (by kernel_rfl) ?_;unfold qFK;by_cases h2:d.kind=2
 ·simp[zP,h2];exact zA 0 (by simp[zCu,h2])
 ·by_cases h3:d.kind=3
  ·simp[zP,h2,h3];exact zA 0 (by simp[zCu,h2,h3])
  ·by_cases h4:d.kind=4
   ·simp[zP,h2,h3,h4];exact zA 0 (by simp[zCu,h2,h3,h4])
   ·simp[zP,h2,h3,h4];exact zA 0 (by simp[zCu,h2,h3,h4])
def zK8 (x y:Slt):Bool:=decide (x.id=y.id)&&(yK x.typ y.typ&&decide (x.most=y.most))
theorem zNS (x y:Slt):Ret Tryz.prog 104 [.agg (yZ x),.agg (yZ y)] [] (bl (zK8 x y)) []:=by
 refine zK Tryz.func104 rfl qOS (rs:=[.slot 4]) (by kernel_rfl) ?_;unfold qJg;by_cases h1:x.id=y.id
 ·simp[yZ,h1];refine zR (zDB x.typ y.typ) (by simp[zB]) (by simp) ?_;cases h2:yK x.typ y.typ with
  | true =>
   simp;exact zA 0 (by simp[zK8,h1,h2])
  | false =>
   simp;exact zA 0 (by simp[zK8,h1,h2])
 ·have h3:zCh x.id.a x.id.b x.id.c y.id.a y.id.b y.id.c=false:=by rw[zA6]; exact decide_eq_false h1
  simp[yZ,h3];exact zA 0 (by simp[zK8,h1])
def zR0 (x y:Exp):Bool:=decide (x.id=y.id)
theorem zM4 (x y:Exp):Ret Tryz.prog 107 [.agg (zH x),.agg (zH y)] [] (bl (zR0 x y)) []:=by refine zK Tryz.func107 rfl qLU (rs:=[.slot 4]) (by kernel_rfl) ?_;unfold qG3;simp[zH];exact zA 0 (by simp[zR0])
def zDS (a b:Dfn):Bool:=decide (a.kind=b.kind)&&(zCp zK8 a.slots b.slots&&(yK a.res b.res&&(!zCu a.kind||decide (a.body.id=b.body.id))))
theorem zPL (a b:Dfn):Ret Tryz.prog 57 [.agg (zP a),.agg (zP b)] [] (bl (zDS a b)) []:=by
 refine zK Tryz.func57 rfl cSD (rs:=[.slot 4]) (by kernel_rfl) ?_;unfold KSD;by_cases h1:a.kind=b.kind
 ·simp[zP,h1];refine zR (zW5 104 qAZ zK8 a.slots b.slots fun x _ y _=>zNS x y) (by simp) (by simp) ?_;cases h2:zCp zK8 a.slots b.slots with
  | false =>
   simp;exact zA 0 (by simp[zDS,h1,h2])
  | true =>
   simp[zP];refine zR (zDB a.res b.res) (by simp[zB]) (by simp) ?_;cases h3:yK a.res b.res with
   | false =>
    simp;exact zA 0 (by simp[zDS,h1,h2,h3])
   | true =>
    simp[zP];refine zR (zFY a) (by simp[zP,h1]) (by simp) ?_;cases h4:zCu a.kind with
    | false =>
     simp;exact zA 0 (by rw[h1]at h4; simp[zDS,h1,h2,h3,h4])
    | true =>
     simp[zP];exact zA 0 (by rw[h1]at h4; simp[zDS,h1,h2,h3,h4])
 ·simp[zP,h1];exact zA 0 (by simp[zDS,h1])
def zDR (a b:Exp):Bool:=decide (a.k=b.k)&&(decide (a.n=b.n)&&(decide (a.ref=b.ref)&&(yK a.typ b.typ&&zCp zR0 a.kids b.kids)))
theorem zNt (a b:Exp):Ret Tryz.prog 59 [.agg (zH a),.agg (zH b)] [] (bl (zDR a b)) []:=by
 refine zK Tryz.func59 rfl cSN (rs:=[.slot 4]) (by kernel_rfl) ?_;unfold KSN;by_cases h1:a.k=b.k
 ·by_cases h2:a.n=b.n
  ·by_cases h3:a.ref=b.ref
   ·simp[zH,h1,h2,h3];refine zR (zDB a.typ b.typ) (by simp[zB]) (by simp) ?_;cases h4:yK a.typ b.typ with
    | false =>
     simp;exact zA 0 (by simp[zDR,h1,h2,h3,h4])
    | true =>
     simp[zH];refine zR (zXo 107 qC0 zR0 a.kids b.kids fun x _ y _=>zM4 x y) (by simp) (by simp) ?_;simp;exact zA 0 (by simp[zDR,h1,h2,h3,h4])
   ·have h5:zCh a.ref.a a.ref.b a.ref.c b.ref.a b.ref.b b.ref.c=false:=by rw[zA6]; exact decide_eq_false h3
    simp[zH,h1,h2,h5];exact zA 0 (by simp[zDR,h1,h2,h3])
  ·simp[zH,h1,h2];exact zA 0 (by simp[zDR,h1,h2])
 ·simp[zH,h1];exact zA 0 (by simp[zDR,h1])
def qGj:K:=G [kMi 2 0] (G [M 3 0,⟨none,.mm (some 4) true [(kt 3),(kc (-1099511627776))]⟩,⟨none,.mm (some 5) false [(kt 4),(kc 1099511627776)]⟩,M 2 5] kr)
theorem qMo:zN Tryz.prog Tryz.f177.ntmps (Tryz.f177.body.getD .skip)=some qGj.erase:=by kernel_rfl
@[simp] theorem qLY:zC Tryz.prog 177=true:=by kernel_rfl
def zAb (n:Int):Int:=if 1099511627776<n then 1099511627776 else if n < -1099511627776 then -1099511627776 else n
theorem zJB (n:Int):Ret Tryz.prog 177 [int n] [] (int (zAb n)) []:=by
 refine zK Tryz.func177 rfl qMo (rs:=[.slot 2]) (by kernel_rfl) ?_;unfold qGj;by_cases h1:n < -1099511627776
 ·simp[h1];exact zA 0 (by simp[zAb,h1,show ¬1099511627776<n by omega])
 ·by_cases h2:1099511627776<n
  ·simp[h1,h2];exact zA 0 (by simp[zAb,h2])
  ·simp[h1,h2];exact zA 0 (by simp[zAb,h1,h2])
def qIZ:K:=G [kZ 2 [ki,ki,kl]] (Z (G [M 3 0] (Y 3 (G [kb 4 [ki,ki,kl] [(0,1,(kc 1)),(1,1,(kc 1))],S 2 4 3] kr) ks)) (G [kb 5 [ki,ki,kl] [(0,1,(kc 1))],S 2 5 3] kr))
theorem qMh:zN Tryz.prog Tryz.f176.ntmps (Tryz.f176.body.getD .skip)=some qIZ.erase:=by kernel_rfl
@[simp] theorem qOp:zC Tryz.prog 176=true:=by kernel_rfl
def zBl (b:Bool):Val:=.mk 1 (if b then 1 else 0) []
theorem zAW (b:Bool):Ret Tryz.prog 176 [bl b] [] (.agg (zI (zBl b))) []:=by
 refine zK Tryz.func176 rfl qMh (rs:=[.cell 2 3 true]) (by kernel_rfl) ?_;unfold qIZ;cases b with
 | true =>
  simp;exact zA 0 (by simp[zI,zBl,Val.k,Val.n,Val.kids])
 | false =>
  simp;exact zA 0 (by simp[zI,zBl,Val.k,Val.n,Val.kids])
structure EVar where
 id:Id
 n:Int
 v:Val
def zCw (b:EVar):List A:=[.lit (.int .i64 b.id.a),.lit (.int .i64 b.id.b),.lit (.int .i64 b.id.c),.lit (.int .i64 b.n),.lit (.int .i64 b.v.k),.lit (.int .i64 b.v.n),.sl b.v.kids.length (zZ b.v.kids)]
theorem zFh (b:EVar):jF (zCw b):=by have h:=zBJ b.v.kids;exact⟨by simp[zCw,h.1],fun rf g=>by simp[zCw,h.2]⟩
def jQ (l:List EVar):List A:=l.flatMap zCw
theorem zGm (l:List EVar):jF (jQ l):=zBs zFh l
@[simp] theorem zXD (l:List EVar):jG (jQ l)=jQ l:=(zGm l).1
@[simp] theorem qCm {rf g}(l:List EVar):vwL rf g (jQ l)=jQ l:=(zGm l).2 _ _
@[simp] theorem zY6:jQ []=[]:=rfl
theorem zMN (x:EVar)(l:List EVar):jQ (x::l)=zCw x++jQ l:=rfl
theorem zJ2 (l l':List EVar):jQ (l++l')=jQ l++jQ l':=by simp only[jQ,List.flatMap_append]
@[simp] theorem zYV (l:List EVar):(jQ l).length=l.length*7:=by rw[jQ,zBS (k:=7) (fun _=>rfl)]
theorem zEB {l:List EVar}{i:Nat}(h:i<l.length):(jQ l).drop (i*7)=zCw l[i]++jQ (l.drop (i+1)):=by rw[jQ,jQ,zBM (k:=7) (fun _=>rfl) h]
@[simp] theorem qEI (d:EVar):(zCw d).length=7:=rfl
@[simp] theorem qDg (d:EVar):(zCw d).take 7=zCw d:=List.take_of_length_le (Nat.le_refl _)
@[simp] theorem qBj (d:EVar)(l:List A):(zCw d++l).take 7=zCw d:=by rw[List.take_append_of_le_length (by simp)]; exact List.take_of_length_le (by simp)
@[simp] theorem qBX (d:EVar):jG (zCw d)=zCw d:=(zFh d).1
@[simp] theorem qJk (d:EVar) {rf g}:vwL rf g (zCw d)=zCw d:=(zFh d).2 _ _
def qJf:K:=G [kO 5 1,kO 7 3,kMn 8] (G [kMn 9] (G [M 10 9,M 11 0,kP 12 200 7 72 10 11,M 9 12] (G [M 13 9,J 14 5 3,M 15 2,J 16 7 3,kb 17 [ki,ki,ki,ki,ki,ki,kl] [(0,3,(kt 14)),(3,1,(kt 15)),(4,3,(kt 16))],kd 18 200 7 1 [ki,ki,ki,ki,ki,ki,kl] [(0,7,(kt 17))],kP 19 200 7 72 13 18,M 8 19] kr)))
theorem qNz:zN Tryz.prog Tryz.f101.ntmps (Tryz.f101.body.getD .skip)=some qJf.erase:=by kernel_rfl
@[simp] theorem qOC:zC Tryz.prog 101=true:=by kernel_rfl
theorem zBT (env:List EVar)(b:EVar)(hE:env.length≤1000000):Ret Tryz.prog 101 [.sl env.length (jQ env),.agg (qL b.id),int b.n,.agg (zI b.v)] [] (.sl (env.length+1) (jQ (env++[b]))) []:=by refine zK Tryz.func101 rfl qNz (rs:=[.slot 8]) (by kernel_rfl) ?_;unfold qJf;simp[qL,zI];exact⟨⟨by simp[maxLen]; omega,by omega⟩,⟨by simp[maxLen]; omega,by omega⟩,zA 1 (by simp[zJ2,zMN,zCw])⟩
def zDb (env:List EVar)(id:Id)(n:Int):Val:=((env.reverse.find? fun b=>decide (b.id=id∧b.n=n)).map EVar.v).getD (.mk 0 0 [])
theorem zG6 (env:List EVar)(b:EVar)(id:Id)(n:Int):zDb (env++[b]) id n=if b.id=id∧b.n=n then b.v else zDb env id n:=by unfold zDb;rw[List.reverse_append,List.reverse_singleton,List.singleton_append,List.find?_cons];by_cases h:b.id=id∧b.n=n<;>simp[h]
def qIy:K:=G [kO 4 1,kZ 6 [ki,ki,kl]] (Z (G [M 8 0,kN 9 8,kBi 10 9 1 .sub,M 7 10] (K.block 0 (K.loop (Z (G [M 11 7,kBi 12 11 0 .geq] (Y 12 ks (K.exit 0))) (Z (K.block 1 (Z (K.dops [(0,0,M 15 0),(1,0,M 16 7),(2,0,kX 17 15 16 7),(3,0,D 18 17 0),(4,0,J 19 18 3),(5,0,J 20 4 3),(6,0,⟨none,.eqs (some 21) false [.i,.i,.i] (kt 19) (kt 20)⟩),(7,0,M 22 21),(8,0,T 22 true (M 23 0)),(9,0,T 22 true (M 24 7)),(10,0,T 22 true (kX 25 23 24 7)),(11,0,T 22 true (D 26 25 3)),(12,0,T 22 true (L 27 26 1)),(13,0,T 22 true (M 28 2)),(14,0,T 22 true (kQ 29 27 28 false)),(15,0,kPf 30 22 29)]) (Y 30 (G [M 31 0,M 32 7,kX 33 31 32 7,D 34 33 4,J 35 34 3,S 6 35 3] kr) ks))) (K.ops [M 13 7,kBi 14 13 1 .sub,M 7 14])))))) (G [kb 36 [ki,ki,kl] [],S 6 36 3] kr))
theorem qO4:zN Tryz.prog Tryz.f159.ntmps (Tryz.f159.body.getD .skip)=some qIy.erase:=by kernel_rfl
@[simp] theorem qN0:zC Tryz.prog 159=true:=by kernel_rfl
theorem zNq (env:List EVar)(id:Id)(n:Int)(hE:env.length≤1000000):Ret Tryz.prog 159 [.sl env.length (jQ env),.agg (qL id),int n] [] (.agg (zI (zDb env id n))) []:=by
 refine zK Tryz.func159 rfl qO4 (rs:=[.cell 6 3 true]) (by kernel_rfl) ?_;unfold qIy;have hw0:IntKind.i64.wrap ((env.length:Int)-1)=(env.length:Int)-1:=IntWalk.i64_in _ (by omega);simp[qL,hw0];intro hl;refine qP (S:=Nat) (fun k=>[(0,.sl env.length (jQ env)),(2,int n),(4,.ptr 0 0),(6,.ptr 1 0),(7,int ((k:Int)-1))]) (fun _=>[.box (qL id),.box [int 0,int 0,.sl 0 []]])
  (fun k=>k≤env.length∧zDb env id n=zDb (env.take k) id n) (fun k=>k) env.length ⟨Nat.le_refl _,by rw[List.take_length]⟩
  (zV [0,1] 0 (by decide) (by simp) (by simp[qL]) (by simp)) ?_
 rintro k ⟨hk,ho⟩;cases k with
 | zero =>
  simp;exact zA 0 (by rw[ho]; simp[zDb,zI,Val.k,Val.n,Val.kids])
 | succ m =>
  have hm:m<env.length:=by omega
  have e1:((m+1:Nat):Int)-1=m:=by omega
  have hw1:IntKind.i64.wrap ((m:Int)-1)=(m:Int)-1:=IntWalk.i64_in _ (by omega);rw[List.take_succ_eq_append_getElem hm,zG6]at ho;by_cases h1:env[m].id=id
  ·by_cases h2:env[m].n=n
   ·rw[if_pos ⟨h1,h2⟩]at ho;simp[e1,hm,zEB hm,zCw,qL,h1,h2];exact zA 0 (by rw[ho]; simp[zI])
   ·rw[if_neg (fun h=>h2 h.2)]at ho;simp[e1,hm,zEB hm,zCw,qL,h1,h2];exact zW m ⟨by omega,ho⟩ (by omega) (zV [0,1] 0 (by decide) (by simp) (by simp[qL]) (by simp[hw1]))
  ·rw[if_neg (fun h=>h1 h.1)]at ho;simp[e1,hm,zEB hm,zCw,qL,h1];exact zW m ⟨by omega,ho⟩ (by omega) (zV [0,1] 0 (by decide) (by simp) (by simp[qL]) (by simp[hw1]))
def qF6:K:=G [kO 1 0,kMi 2 0] (G [kMi 3 1] (Z (G [D 6 1 2,L 7 6 1,kN 8 7,kMi 9 0] (K.block 0 (K.loop (G [kB 10 9 8 .lss] (Z (Y 10 ks (K.exit 0)) (Z (K.block 1 (G [kX 11 7 9 3,J 12 11 3,kZ 5 [ki,ki,kl],S 5 12 3] (K.ops [M 13 3,J 14 5 3,kC 15 130 [(kt 14)],kB 16 13 15 .add,M 3 16]))) (K.ops [kBi 17 9 1 .add,M 9 17]))))))) (G [M 18 3,M 2 18] kr)))
theorem qOs:zN Tryz.prog Tryz.f130.ntmps (Tryz.f130.body.getD .skip)=some qF6.erase:=by kernel_rfl
@[simp] theorem qOD:zC Tryz.prog 130=true:=by kernel_rfl
theorem zRd (v:Val):Ret Tryz.prog 130 [.agg (zI v)] [] (int (zDe v)) []:=by
 refine zK Tryz.func130 rfl qOs (rs:=[.slot 2]) (by kernel_rfl) ?_;unfold qF6;simp[zI];intro hl;refine qP (S:=Nat) (fun i=>[(3,int (zJ8 (v.kids.take i))),(7,.sl v.kids.length (zZ v.kids)),(8,int v.kids.length),(9,int i)]) (fun s=>[]) (fun i=>i≤v.kids.length) (fun i=>v.kids.length-i) 0 (by simp)
  (zV [] 0 (by simp) (by simp) (by simp) (by simp[zJ8])) ?_
 intro i hi;simp;by_cases h:i<v.kids.length
 ·simp[h,qY h];refine zR (zRd v.kids[i]) (by simp[zI]) (by simp) ?_;simp;exact zW (i+1) h (by omega) (zV [] 0 (by simp) (by simp) (by simp) (by simp[qH h hl,zI1 h]))
 ·have:i=v.kids.length:=by omega
  subst this;simp;exact zA 0 (by simp[zKn v])
termination_by qE v
decreasing_by exact zAj (List.getElem_mem _)
def qFc:K:=G [kO 1 0,kMi 2 0] (G [kMi 3 0] (Z (G [D 6 1 2,L 7 6 1,kN 8 7,kMi 9 0] (K.block 0 (K.loop (G [kB 10 9 8 .lss] (Z (Y 10 ks (K.exit 0)) (Z (K.block 1 (G [kX 11 7 9 3,J 12 11 3,kZ 5 [ki,ki,kl],S 5 12 3] (K.ops [M 13 3,J 14 5 3,kC 15 131 [(kt 14)],⟨none,.mm (some 16) true [(kt 13),(kt 15)]⟩,M 3 16]))) (K.ops [kBi 17 9 1 .add,M 9 17]))))))) (G [M 18 3,kBi 19 18 1 .add,M 2 19] kr)))
theorem qLI:zN Tryz.prog Tryz.f131.ntmps (Tryz.f131.body.getD .skip)=some qFc.erase:=by kernel_rfl
@[simp] theorem qNQ:zC Tryz.prog 131=true:=by kernel_rfl
theorem zRl (v:Val):Ret Tryz.prog 131 [.agg (zI v)] [] (int (zBO v)) []:=by
 refine zK Tryz.func131 rfl qLI (rs:=[.slot 2]) (by kernel_rfl) ?_;unfold qFc;simp[zI];intro hl;refine qP (S:=Nat) (fun i=>[(3,int (zJ7 (v.kids.take i))),(7,.sl v.kids.length (zZ v.kids)),(8,int v.kids.length),(9,int i)]) (fun s=>[]) (fun i=>i≤v.kids.length) (fun i=>v.kids.length-i) 0 (by simp)
  (zV [] 0 (by simp) (by simp) (by simp) (by simp[zJ7])) ?_
 intro i hi;simp;by_cases h:i<v.kids.length
 ·simp[h,qY h];refine zR (zRl v.kids[i]) (by simp[zI]) (by simp) ?_;simp;exact zW (i+1) h (by omega) (zV [] 0 (by simp) (by simp) (by simp) (by simp[qH h hl,zIn h,zQk]))
 ·have:i=v.kids.length:=by omega
  subst this;simp;exact zA 0 (by simp[zHV v,w64])
termination_by qE v
decreasing_by exact zAj (List.getElem_mem _)
def qHZ:K:=G [kO 1 0,kMb 2 false] (G [kZ 3 [ki],⟨none,.st none (kt 3) (kc 256) 1⟩] (G [kZ 4 [.nilFunc]] (G [⟨none,.clo (some 5) 124 [] [(kt 3),(kt 4)]⟩,S 4 5 1] (G [L 6 4 1,J 7 1 3,⟨none,.call (some 8) (kt 6) [(kt 7),(kc 1)]⟩,M 2 8] kr))))
theorem qNl:zN Tryz.prog Tryz.f91.ntmps (Tryz.f91.body.getD .skip)=some qHZ.erase:=by kernel_rfl
@[simp] theorem qOh:zC Tryz.prog 91=true:=by kernel_rfl
def zZI:K:=G [kO 4 0,kO 5 1,kMb 6 false] (G [L 7 2 1,kBi 8 7 1 .sub,S 2 8 1] (G [L 9 2 1,kBi 10 9 0 .geq,M 11 10,T 11 true (L 12 5 1),T 11 true (kBi 13 12 24 .leq),kPf 14 11 13,M 15 14,T 15 true (D 16 4 2),T 15 true (L 17 16 1),⟨some (15,true),.clo (some 18) 126 [] [(kt 3),(kt 5)]⟩,T 15 true (kC 19 125 [(kt 17),(kt 18)]),T 15 true (kR 20 19),kPf 21 15 20,M 6 21] kr))
theorem qG4:zN Tryz.prog Tryz.f124.ntmps (Tryz.f124.body.getD .skip)=some zZI.erase:=by kernel_rfl
@[simp] theorem qJP:zC Tryz.prog 124=true:=by kernel_rfl
def qBf:K:=G [kMb 4 false] (G [M 5 0,M 6 1,kC 7 143 [(kt 5),(kt 6)],kBi 8 7 0 .geq,M 4 8] kr)
theorem qIG:zN Tryz.prog Tryz.f125.ntmps (Tryz.f125.body.getD .skip)=some qBf.erase:=by kernel_rfl
@[simp] theorem qMH:zC Tryz.prog 125=true:=by kernel_rfl
def zZT:K:=G [kO 3 0,kMb 4 false] (G [L 5 1 1,J 6 3 3,L 7 2 1,kBi 8 7 1 .add,⟨none,.call (some 9) (kt 5) [(kt 6),(kt 8)]⟩,kR 10 9,M 4 10] kr)
theorem qIv:zN Tryz.prog Tryz.f126.ntmps (Tryz.f126.body.getD .skip)=some zZT.erase:=by kernel_rfl
@[simp] theorem qJT:zC Tryz.prog 126=true:=by kernel_rfl
def qCg:K:=G [kMi 4 0] (Z (G [M 6 0,kN 7 6,kMi 8 0] (K.block 0 (K.loop (G [kB 9 8 7 .lss] (Z (Y 9 ks (K.exit 0)) (Z (K.block 1 (G [M 10 8,M 5 10] (G [M 11 1,M 12 0,M 13 5,kX 14 12 13 3,J 15 14 3,⟨none,.call (some 16) (kt 11) [(kt 15)]⟩] (Y 16 (G [M 17 5,M 4 17] kr) ks)))) (K.ops [kBi 18 8 1 .add,M 8 18]))))))) (G [⟨none,.mov (some 4) (kc (-1))⟩] kr))
theorem qIx:zN Tryz.prog Tryz.f143.ntmps (Tryz.f143.body.getD .skip)=some qCg.erase:=by kernel_rfl
@[simp] theorem qOK:zC Tryz.prog 143=true:=by kernel_rfl
mutual
def zAg:Val→Nat
 | .mk _ _ l=>yO l+1
def yO:List Val→Nat
 | []=>0
 | v::l=>max (zAg v) (yO l)
end
theorem zIe (v:Val):zAg v=yO v.kids+1:=by cases v; simp only[zAg,Val.kids]
theorem zKC (v:Val):qE v=1+qS v.kids:=by cases v; simp only[qE,Val.kids]
theorem zIY:∀{l:List Val} {v:Val},v∈l→zAg v≤yO l
 | x::l,v,h=>by
  simp only[yO];rcases List.mem_cons.1 h with rfl | h
  ·omega
  ·have:=zIY h; omega
theorem zBQ:∀(a b:List Val),qS (a++b)=qS a+qS b
 | [],b=>by simp[qS]
 | x::a,b=>by simp[qS,zBQ a b]; omega
theorem zFj {l:List Val}{i:Nat}(h:i<l.length):qS (l.take (i+1))=qS (l.take i)+qE l[i]:=by rw[List.take_succ_eq_append_getElem h,zBQ]; simp[qS]
theorem zGX (l:List Val)(i:Nat):qS l=qS (l.take i)+qS (l.drop i):=by
 conv=>lhs; rw[←List.take_append_drop i l]
 exact zBQ _ _
def zB8:A:=.clo 124 [] [.ptr 0 0,.ptr 1 0]
def sSt (L:Nat):St:=[.box [int L],.box [zB8]]
def zEc (L:Nat)(d:Int):St:=[.box [int L],.box [zB8],.box [int d]]
def zJs (v:Val)(d:Int):Prop:=∀L:Nat,qE v≤L→L≤256→Ret Tryz.prog 124 [.agg (zI v),int d,.ptr 0 0,.ptr 1 0] (sSt L) (bl true) (sSt (L-qE v))
theorem zSt (v:Val)(d:Int)(hd:0≤d∧d≤100)(h:zJs v (d+1))(L:Nat)(hL:qE v≤L)(hL2:L≤256) :
 Ret Tryz.prog 126 [.agg (zI v),.ptr 1 0,.ptr 2 0] (zEc L d) (bl false) (zEc (L-qE v) d):=by
 refine zK Tryz.func126 rfl qIv (rs:=[.slot 4]) (by kernel_rfl) ?_;unfold zZT;have hw:IntKind.i64.wrap (d+1)=d+1:=IntWalk.i64_in _ (by omega);simp[zEc,zB8,hw,zI];refine zM (h L hL hL2) [0,1] (by simp) (by simp[sSt,zB8]) (by simp[zI]) ?_;simp[sSt,zB8];exact zF [0,1,2] 0 (by decide) (by simp) (by simp[zB8]) (by simp)
theorem zX0 (l:List Val)(d:Int)(hd:0≤d∧d≤100)(h:∀x∈l,zJs x (d+1))(L:Nat)(hL:qS l≤L)(hL2:L≤256) :
 Ret Tryz.prog 143 [.sl l.length (zZ l),.clo 126 [] [.ptr 1 0,.ptr 2 0]] (zEc L d) (int (-1)) (zEc (L-qS l) d):=by
 refine zK Tryz.func143 rfl qIx (rs:=[.slot 4]) (by kernel_rfl) ?_;unfold qCg;simp[zEc,zB8];intro hl;refine qP (S:=Nat) (fun i=>[(0,.sl l.length (zZ l)),(1,.clo 126 [] [.ptr 1 0,.ptr 2 0]),(6,.sl l.length (zZ l)),(7,int l.length),(8,int i)]) (fun i=>zEc (L-qS (l.take i)) d) (fun i=>i≤l.length) (fun i=>l.length-i) 0 (by simp)
  (zV [0,1,2] 0 (by decide) (by simp) (by simp[zEc,zB8,qS]) (by simp)) ?_
 intro i hi;by_cases hil:i<l.length
 ·have e1:=zFj hil;have e2:=zGX l (i+1);simp[hil,qY hil,zEc,zB8];refine zM (zSt l[i] d hd (h _ (List.getElem_mem hil)) (L-qS (l.take i)) (by omega) (by omega)) [0,1,2] (by simp) (by simp[zEc,zB8]) (by simp[zI]) ?_;simp[zEc,zB8];exact zW (i+1) hil (by omega) (zV [0,1,2] 0 (by decide) (by simp) (by simp[zEc,zB8,e1,Nat.sub_sub]) (by simp[qH hil hl]))
 ·have:i=l.length:=by omega
  subst this;simp[zEc,zB8];exact zF [0,1,2] 0 (by decide) (by simp) (by simp[zB8]) (by simp)
theorem zYj (l:List Val)(d:Int)(hd:0≤d∧d≤100)(h:∀x∈l,zJs x (d+1))(L:Nat)(hL:qS l≤L)(hL2:L≤256) :
 Ret Tryz.prog 125 [.sl l.length (zZ l),.clo 126 [] [.ptr 1 0,.ptr 2 0]] (zEc L d) (bl false) (zEc (L-qS l) d):=by
 refine zK Tryz.func125 rfl qIG (rs:=[.slot 4]) (by kernel_rfl) ?_;unfold qBf;simp[zEc,zB8];refine zM (zX0 l d hd h L hL hL2) [0,1,2] (by simp) (by simp[zEc,zB8]) (by simp) ?_;simp[zEc,zB8];exact zF [0,1,2] 0 (by decide) (by simp) (by simp[zB8]) (by simp)
theorem zJG (v:Val)(d:Int)(hd:1≤d∧d+zAg v≤25):zJs v d:=by
 intro L hL hL2;refine zK Tryz.func124 rfl qG4 (rs:=[.slot 6]) (by kernel_rfl) ?_;unfold zZI;have e1:=zKC v;have e2:=zIe v;have hw:IntKind.i64.wrap ((L:Int)-1)=((L-1:Nat):Int):=by rw[IntWalk.i64_in _ (by omega)]; omega
 have hd24:d≤24:=by omega
 simp[sSt,zB8,hw,hd24,zI];refine zM (zYj v.kids d (by omega) (fun x hx=>zJG x (d+1) (by have:=zIY hx; omega)) (L-1) (by omega) (by omega)) [0,1,3] (by simp) (by simp[zEc,zB8]) (by simp) ?_;simp[zEc,zB8];exact zF [0,1] 0 (by decide) (by simp) (by simp[zB8,e1,Nat.sub_sub]) (by simp)
termination_by qE v
decreasing_by exact zAj hx
theorem zVg (v:Val)(h1:qE v≤256)(h2:zAg v≤24):Ret Tryz.prog 91 [.agg (zI v)] [] (bl true) []:=by refine zK Tryz.func91 rfl qNl (rs:=[.slot 2]) (by kernel_rfl) ?_;unfold qHZ;simp[zI];refine zM (zJG v 1 (by omega) 256 h1 (by omega)) [1,2] (by simp) (by simp[sSt,zB8]) (by simp[zI]) ?_;simp[sSt,zB8];exact zA 0 (by simp)
theorem zKR:Ret Tryz.prog 97 [.sl 0 []] [] (.sl 0 []) []:=by refine zK Tryz.func97 rfl zOV (rs:=[.slot 2]) (by kernel_rfl) ?_;unfold zJZ;simp;exact zA 0 (by simp)
def qIP:K:=G [kMn 2] (G [M 4 0,kC 5 94 [(kt 4)],M 3 5] (G [M 6 3,kC 7 95 [(kt 6),(.func 96)]] (G [M 8 3,kC 9 97 [(kt 8)],M 2 9] kr)))
theorem qNg:zN Tryz.prog Tryz.f48.ntmps (Tryz.f48.body.getD .skip)=some qIP.erase:=by kernel_rfl
@[simp] theorem qLH:zC Tryz.prog 48=true:=by kernel_rfl
theorem zHL (l:List Id)(hb:l.length≤1000000):Ret Tryz.prog 48 [.sl l.length (zX l)] [] (.sl (zBj l).length (zX (zBj l))) []:=by
 refine zK Tryz.func48 rfl qNg (rs:=[.slot 2]) (by kernel_rfl) ?_;unfold qIP;simp;by_cases h:l=[]
 ·subst h;refine zM zN0 [] (by simp) (by simp) (by simp) ?_;simp;refine zM (zPM (.clo 96 [] [])) [] (by simp) (by simp) (by simp) ?_;simp;refine zM zKR [] (by simp) (by simp) (by simp) ?_;simp;exact zA 0 (by simp[zBj,zDd,zAp])
 ·refine zM (zOE l h hb) [] (by simp) (by simp) (by simp) ?_;simp;refine zM (zQ8 l (by omega)) [0] (by simp) (by simp) (by simp) ?_;have hp:=(zGr l).length_eq;simp;have hc:=zPo (zDd zEY l) (by omega);rw[hp]at hc;refine zM hc [0] (by simp) (by simp) (by simp) ?_;have hle:=zL3 (zDd zEY l);simp[zPd];by_cases hcc:zAp (zDd zEY l)=zDd zEY l
  ·simp[hcc,hp];exact zA 1 (by simp[zBj,hcc,hp,zC5])
  ·simp[hcc,hp];have h0:(zAp (zDd zEY l)).length≠0:=fun e=>by have h1:=List.eq_nil_of_length_eq_zero e;obtain⟨x,hx⟩:=List.exists_mem_of_ne_nil l h;have:=(zI4 (x:=x) (zDd zEY l)).2 ((zGr l).mem_iff.2 hx);rw[h1]at this;simp at this
   exact zA 1 (by simp[zBj,h0,jD])
@[simp] theorem qIp:zC Tryz.prog 30=true:=by kernel_rfl
def qAb:K:=G [kO 2 0,kMb 4 false] (G [⟨none,.mop (some 8) (.mk 3) []⟩,kZ 5 [(.map none)],S 5 8 1] (Z (G [D 9 2 0,L 10 9 1,D 11 2 1,L 12 11 1,kd 13 45 1 2 [kl,kl] [(0,1,(kt 10)),(1,1,(kt 12))],kC 14 69 [(kt 13)],kN 15 14,kMi 16 0] (K.block 0 (K.loop (G [kB 17 16 15 .lss] (Z (Y 17 ks (K.exit 0)) (Z (K.block 1 (G [kX 18 14 16 3,J 19 18 3,kZ 7 [ki,ki,ki],S 7 19 3] (K.ops [L 20 5 1,J 21 7 3,⟨none,.mop none (.set 3) [(kt 20),(kt 21),(.const (.bool true))]⟩]))) (K.ops [kBi 22 16 1 .add,M 16 22]))))))) (G [M 23 1,⟨none,.clo (some 24) 71 [] [(kt 5)]⟩,kC 25 70 [(kt 23),(kt 24)],M 4 25] kr)))
theorem qHe:zN Tryz.prog Tryz.f29.ntmps (Tryz.f29.body.getD .skip)=some qAb.erase:=by kernel_rfl
@[simp] theorem qJN:zC Tryz.prog 29=true:=by kernel_rfl
def zUD:K:=G [kO 2 0,kMb 3 false] (G [L 4 1 1,J 5 2 3,⟨none,.mop (some 6) (.get 3 (.bool false) false) [(kt 4),(kt 5)]⟩,M 3 6] kr)
theorem qCa:zN Tryz.prog Tryz.f71.ntmps (Tryz.f71.body.getD .skip)=some zUD.erase:=by kernel_rfl
@[simp] theorem qFH:zC Tryz.prog 71=true:=by kernel_rfl
def zRq:K:=G [kMi 4 0] (Z (G [M 6 0,kN 7 6,kMi 8 0] (K.block 0 (K.loop (G [kB 9 8 7 .lss] (Z (Y 9 ks (K.exit 0)) (Z (K.block 1 (G [M 10 8,M 5 10] (G [M 11 1,M 12 0,M 13 5,kX 14 12 13 3,J 15 14 3,⟨none,.call (some 16) (kt 11) [(kt 15)]⟩] (Y 16 (G [M 17 5,M 4 17] kr) ks)))) (K.ops [kBi 18 8 1 .add,M 8 18]))))))) (G [⟨none,.mov (some 4) (kc (-1))⟩] kr))
theorem zXd:zN Tryz.prog Tryz.f117.ntmps (Tryz.f117.body.getD .skip)=some zRq.erase:=by kernel_rfl
@[simp] theorem qEk:zC Tryz.prog 117=true:=by kernel_rfl
def zUE:K:=G [kMb 4 false] (G [M 5 0,M 6 1,kC 7 117 [(kt 5),(kt 6)],kBi 8 7 0 .geq,M 4 8] kr)
theorem qAS:zN Tryz.prog Tryz.f70.ntmps (Tryz.f70.body.getD .skip)=some zUE.erase:=by kernel_rfl
@[simp] theorem qIb:zC Tryz.prog 70=true:=by kernel_rfl
def zEa (l:List Id):List (List Int×A):=l.foldl (fun es d=>zDj (zBe d) (.lit (.bool true)) es) []
theorem zHZ (l:List Id)(x:Id):zEa (l++[x])=zDj (zBe x) (.lit (.bool true)) (zEa l):=by simp[zEa,List.foldl_append]
theorem zFe {x y:Id}:zBe x=zBe y↔x=y:=by simp[zBe,Id.eq_iff]
theorem zLE {ks ks':List Int}{v:A}:∀(es:List (List Int×A)),zA7 ks (zDj ks' v es)=if ks'=ks then some v else zA7 ks es
 | []=>by simp[zDj,zA7]
 | p::es=>by
  simp only[zDj];by_cases h:p.1=ks'
  ·simp only[h,if_true,zA7];by_cases h':ks'=ks<;>simp[h']
  ·simp only[h,if_false,zA7];by_cases h':p.1=ks
   ·simp only[h',if_true];have:¬ks'=ks:=fun e=>h (h'.trans e.symm)
    simp[this]
   ·simp only[h',if_false,zLE es]
theorem zP5 (x:Id)(l:List Id):zA7 (zBe x) (zEa l)=if x∈l then some (.lit (.bool true)) else none:=by
 induction l using zBA with
 | nil=>simp[zEa,zA7]
 | snoc l y ih =>
  rw[zHZ,zLE,ih];by_cases h:y=x
  ·subst h; simp
  ·have:¬zBe y=zBe x:=fun e=>h (zFe.1 e)
   have h':¬x=y:=fun e=>h e.symm
   simp[this,h']
theorem zT6 (l:List Id)(k:Nat):∀p∈zEa l,p.2.bnd k=true:=by
 induction l using zBA with
 | nil=>simp[zEa]
 | snoc l y ih =>
  rw[zHZ];have:∀es:List (List Int×A),(∀p∈es,p.2.bnd k=true)→∀p∈zDj (zBe y) (.lit (.bool true)) es,p.2.bnd k=true:=by
   intro es;induction es with
   | nil=>intro _ p hp; simp[zDj]at hp; subst hp; rfl
   | cons q es ih =>
    intro h p hp;simp only[zDj]at hp;split at hp
    ·rcases List.mem_cons.1 hp with rfl | hp
     ·rfl
     ·exact h p (List.mem_cons_of_mem _ hp)
    ·rcases List.mem_cons.1 hp with rfl | hp
     ·exact h _ (List.mem_cons_self ..)
     ·exact ih (fun p hp=>h p (List.mem_cons_of_mem _ hp)) p hp
  exact this _ ih
@[simp] theorem qLv {rf:Bool→Nat→Nat→A}{g:Nat→Option Nat}(l:List Id):((zEa l).map fun p=>(p.1,vw rf g p.2))=zEa l:=by
 have h:=zT6 l 0;generalize zEa l=es at h;induction es with
 | nil=>rfl
 | cons p es ih =>
  rw[List.map_cons,ih fun q hq=>h q (List.mem_cons_of_mem _ hq),zU0 (k:=0) (fun l hl=>by omega) p.2 (h p (List.mem_cons_self ..))]
theorem zTH (l:List Id)(x:Id):Ret Tryz.prog 71 [.agg (qL x),.ptr 0 0] [.box [.map 1],.mp true 3 (zEa l)] (bl (decide (x∈l))) [.box [.map 1],.mp true 3 (zEa l)]:=by
 refine zK Tryz.func71 rfl qCa (rs:=[.slot 3]) (by kernel_rfl) ?_;unfold zUD;have hf:=zP5 x l;simp only[zBe]at hf;simp[qL];have hr:zFi (Value.bool false) false (zA7 [x.a,x.b,x.c] (zEa l))=.lit (.bool (decide (x∈l))):=by rw[hf];by_cases h:x∈l<;>simp[zFi,h,zFQ,jE]
 rw[hr];exact zF [0,1] 0 (by decide) (by simp) (by simp) (by simp)
def zQu (l ids:List Id):Int:=match ids.findIdx? (fun x=>decide (x∈l))with
 | some i=>i
 | none=>-1
theorem zNB (l ids:List Id):decide (0≤zQu l ids)=ids.any fun x=>decide (x∈l):=by
 unfold zQu;cases h:ids.findIdx? (fun x=>decide (x∈l))with
 | none =>
  rw[List.findIdx?_eq_none_iff]at h;have:(ids.any fun x=>decide (x∈l))=false:=by rw[List.any_eq_false]; exact fun x hx=>by simpa using h x hx
  rw[this]; rfl
 | some i =>
  have h':=List.findIdx?_eq_some_iff_getElem.1 h;obtain⟨hi,h1,_⟩:=h';have:(ids.any fun x=>decide (x∈l))=true:=by rw[List.any_eq_true]; exact⟨_,List.getElem_mem hi,h1⟩
  rw[this]; simp
theorem zRT (l ids:List Id):Ret Tryz.prog 117 [.sl ids.length (zX ids),.clo 71 [] [.ptr 0 0]] [.box [.map 1],.mp true 3 (zEa l)] (int (zQu l ids)) [.box [.map 1],.mp true 3 (zEa l)]:=by
 refine zK Tryz.func117 rfl zXd (rs:=[.slot 4]) (by kernel_rfl) ?_;unfold zRq;simp;intro hl;refine qP (S:=Nat) (fun i=>[(0,.sl ids.length (zX ids)),(1,.clo 71 [] [.ptr 0 0]),(7,int ids.length),(8,int i)]) (fun i=>[.box [.map 1],.mp true 3 (zEa l)]) (fun i=>i≤ids.length∧∀x∈ids.take i,x∉l) (fun i=>ids.length-i) 0 (by simp)
  (zV [0,1] 0 (by decide) (by simp) (by simp) (by simp)) ?_
 rintro i ⟨hi,hn⟩;by_cases h:i<ids.length
 ·simp[h,jL h];refine zM (zTH l ids[i]) [0,1] (by simp) (by simp) (by simp[qL]) ?_;simp;by_cases hx:ids[i]∈l
  ·have:zQu l ids=i:=by
    unfold zQu;rw[List.findIdx?_eq_some_iff_getElem.2 ⟨h,by simpa using hx,fun j hj=>by
     have:=hn ids[j] (by rw[List.mem_take_iff_getElem]; exact⟨j,by omega,rfl⟩)
     simpa using this⟩]
   simp[hx];exact zF [0,1] 0 (by decide) (by simp) (by simp) (by simp[this])
  ·simp[hx];exact zW (i+1) ⟨h,fun x hx'=>by
    rw[List.take_succ_eq_append_getElem h]at hx';rcases List.mem_append.1 hx' with hx' | hx'
    ·exact hn x hx'
    ·rw[List.mem_singleton.1 hx']; exact hx⟩ (by omega) (zV [0,1] 0 (by decide) (by simp) (by simp) (by simp[qH h hl]))
 ·have:i=ids.length:=by omega
  subst this;rw[List.take_length]at hn;have:zQu l ids = -1:=by unfold zQu;rw[List.findIdx?_eq_none_iff.2 fun x hx=>by simpa using hn x hx]
  simp;exact zF [0,1] 0 (by decide) (by simp) (by simp) (by simp[this])
theorem zWs (l ids:List Id):Ret Tryz.prog 70 [.sl ids.length (zX ids),.clo 71 [] [.ptr 0 0]] [.box [.map 1],.mp true 3 (zEa l)] (bl (ids.any fun x=>decide (x∈l))) [.box [.map 1],.mp true 3 (zEa l)]:=by refine zK Tryz.func70 rfl qAS (rs:=[.slot 4]) (by kernel_rfl) ?_;unfold zUE;simp;refine zM (zRT l ids) [0,1] (by simp) (by simp) (by simp) ?_;simp;exact zF [0,1] 0 (by decide) (by simp) (by simp) (by rw[←zNB]; simp)
theorem zYr (t:Trc)(ids l:List Id)(hl:l=t.defs++t.nodes)(h:l.length≤1000000):Ret Tryz.prog 29 [.agg (zET t),.sl ids.length (zX ids)] [] (bl (ids.any fun x=>decide (x∈l))) []:=by
 refine zK Tryz.func29 rfl qHe (rs:=[.slot 4]) (by kernel_rfl) ?_;unfold qAb;have e1:[t.defs,t.nodes].flatten=l:=by simp[hl]
 simp[zET];refine zR (zMG [t.defs,t.nodes] (by rw[zD8,e1]; exact h)) (by simp[zBD]) (by simp) ?_;rw[zD8,e1];simp;intro hlm;refine qP (S:=Nat) (fun i=>[(1,.sl ids.length (zX ids)),(5,.ptr 0 0),(14,.sl l.length (zX l)),(15,int l.length),(16,int i)]) (fun i=>[.box [.map 1],.mp true 3 (zEa (l.take i))]) (fun i=>i≤l.length) (fun i=>l.length-i) 0 (by simp)
  (zV [2,1] 0 (by simp) (by simp) (by simp[zEa]) (by simp)) ?_
 intro i hi;by_cases h:i<l.length
 ·have hs:=zHZ (l.take i) l[i];rw[←List.take_succ_eq_append_getElem h,zBe]at hs;simp[h,jL h];rw[←hs];exact zW (i+1) h (by omega) (zV [0,1] 0 (by simp) (by simp) (by simp) (by simp[qH h hlm]))
 ·have:i=l.length:=by omega
  subst this;simp;refine zM (zWs l ids) [0,1] (by simp) (by simp) (by simp) ?_;simp;exact zA 0 (by simp)
end Go.Proofs.YthglhccibdlccaaGreatDoor
