/-
  value.SameType, trace.sameDef, trace.sameNode, trace.bodied.
  Numbers of the reference's evaluator: clip, truth.
  The reference's environments: With, Find.
  value.Size and trace.deep.
  value.small: true at small values.
  trace.set, Join and Asks; the law's lists of IDs.
-/
import Derived.Test.YthglhccibdlccaaGreatDoorX23
set_option linter.unusedVariables false
set_option linter.unusedSimpArgs false
namespace Go.Proofs.YthglhccibdlccaaGreatDoor
open Go.Abs
def zTl:K:=G [kO 2 0,kO 3 1,kMb 4 false] (G [D 5 2 0,L 6 5 1,D 7 3 0,L 8 7 1,kQ 9 6 8 false,M 10 9,T 10 true (D 11 2 1),T 10 true (J 12 11 3),T 10 true (D 13 3 1),T 10 true (J 14 13 3),⟨some (10,true),.eqs (some 15) false [.i,.i,.i] (kt 12) (kt 14)⟩,kPf 16 10 15,M 17 16,T 17 true (D 18 2 4),T 17 true (L 19 18 1),T 17 true (D 20 3 4),T 17 true (L 21 20 1),T 17 true (kC 22 139 [(kt 19),(kt 21),(.func 105)]),kPf 23 17 22,M 4 23] kr)
theorem qAe:zL Tryz.prog Tryz.f105.ntmps (Tryz.f105.body.getD .skip)=some zTl.erase:=by kernel_rfl
@[simp] theorem zTE:zA Tryz.prog 105=true:=by kernel_rfl
def KSD:K:=G [kO 2 0,kO 3 1,kMb 4 false] (G [⟨none,.mov (some 5) (.func 104)⟩] (G [D 6 2 3,L 7 6 1,D 8 3 3,L 9 8 1,kQ 10 7 9 false,M 11 10,T 11 true (D 12 2 8),T 11 true (L 13 12 1),T 11 true (D 14 3 8),T 11 true (L 15 14 1),T 11 true (M 16 5),T 11 true (kC 17 106 [(kt 13),(kt 15),(kt 16)]),kPf 18 11 17,M 19 18,T 19 true (D 20 2 9),T 19 true (J 21 20 5),T 19 true (D 22 3 9),T 19 true (J 23 22 5),T 19 true (kC 24 105 [(kt 21),(kt 23)]),kPf 25 19 24,M 26 25,T 26 true (J 27 2 31),T 26 true (kC 28 43 [(kt 27)]),T 26 true (kR 29 28),T 26 true (M 30 29),T 30 false (D 31 2 14),T 30 false (D 32 31 0),T 30 false (J 33 32 3),T 30 false (D 34 3 14),T 30 false (D 35 34 0),T 30 false (J 36 35 3),⟨some (30,false),.eqs (some 37) false [.i,.i,.i] (kt 33) (kt 36)⟩,T 26 true (kPt 38 30 37),kPf 39 26 38,M 4 39] kr))
theorem cSD:zL Tryz.prog Tryz.f57.ntmps (Tryz.f57.body.getD .skip)=some KSD.erase:=by kernel_rfl
@[simp] theorem qOy:zA Tryz.prog 57=true:=by kernel_rfl
def qEV:K:=G [kO 2 0,kO 3 1,kMb 4 false] (G [D 5 2 0,J 6 5 3,D 7 3 0,J 8 7 3,⟨none,.eqs (some 9) false [.i,.i,.i] (kt 6) (kt 8)⟩,M 10 9,T 10 true (D 11 2 4),T 10 true (J 12 11 5),T 10 true (D 13 3 4),T 10 true (J 14 13 5),T 10 true (kC 15 105 [(kt 12),(kt 14)]),kPf 16 10 15,M 17 16,T 17 true (D 18 2 9),T 17 true (L 19 18 1),T 17 true (D 20 3 9),T 17 true (L 21 20 1),T 17 true (kQ 22 19 21 false),kPf 23 17 22,M 4 23] kr)
theorem qL1:zL Tryz.prog Tryz.f104.ntmps (Tryz.f104.body.getD .skip)=some qEV.erase:=by kernel_rfl
@[simp] theorem qAs:zA Tryz.prog 104=true:=by kernel_rfl
def KSN:K:=G [kO 2 0,kO 3 1,kMb 4 false] (G [⟨none,.mov (some 5) (.func 107)⟩] (G [D 6 2 3,L 7 6 1,D 8 3 3,L 9 8 1,kQ 10 7 9 false,M 11 10,T 11 true (D 12 2 4),T 11 true (L 13 12 1),T 11 true (D 14 3 4),T 11 true (L 15 14 1),T 11 true (kQ 16 13 15 false),kPf 17 11 16,M 18 17,T 18 true (D 19 2 5),T 18 true (J 20 19 3),T 18 true (D 21 3 5),T 18 true (J 22 21 3),⟨some (18,true),.eqs (some 23) false [.i,.i,.i] (kt 20) (kt 22)⟩,kPf 24 18 23,M 25 24,T 25 true (D 26 2 8),T 25 true (J 27 26 5),T 25 true (D 28 3 8),T 25 true (J 29 28 5),T 25 true (kC 30 105 [(kt 27),(kt 29)]),kPf 31 25 30,M 32 31,T 32 true (D 33 2 13),T 32 true (L 34 33 1),T 32 true (D 35 3 13),T 32 true (L 36 35 1),T 32 true (M 37 5),T 32 true (kC 38 108 [(kt 34),(kt 36),(kt 37)]),kPf 39 32 38,M 4 39] kr))
theorem cSN:zL Tryz.prog Tryz.f59.ntmps (Tryz.f59.body.getD .skip)=some KSN.erase:=by kernel_rfl
@[simp] theorem qOz:zA Tryz.prog 59=true:=by kernel_rfl
def qEW:K:=G [kO 2 0,kO 3 1,kMb 4 false] (G [D 5 2 0,J 6 5 3,D 7 3 0,J 8 7 3,⟨none,.eqs (some 9) false [.i,.i,.i] (kt 6) (kt 8)⟩,M 4 9] kr)
theorem qL2:zL Tryz.prog Tryz.f107.ntmps (Tryz.f107.body.getD .skip)=some qEW.erase:=by kernel_rfl
@[simp] theorem qAt:zA Tryz.prog 107=true:=by kernel_rfl
def qEw:K:=G [kO 1 0,kMb 2 false] (G [D 3 1 3,L 4 3 1,kQi 5 4 2 false,M 6 5,T 6 false (D 7 1 3),T 6 false (L 8 7 1),T 6 false (kQi 9 8 3 false),kPt 10 6 9,M 11 10,T 11 false (D 12 1 3),T 11 false (L 13 12 1),T 11 false (kQi 14 13 4 false),kPt 15 11 14,M 16 15,T 16 false (D 17 1 3),T 16 false (L 18 17 1),T 16 false (kQi 19 18 5 false),kPt 20 16 19,M 2 20] kr)
theorem qKS:zL Tryz.prog Tryz.f43.ntmps (Tryz.f43.body.getD .skip)=some qEw.erase:=by kernel_rfl
@[simp] theorem qLK:zA Tryz.prog 43=true:=by kernel_rfl
mutual
def yG:Typ→Typ→Bool
 | .mk k i l,.mk k' i' l'=>decide (k=k')&&(decide (i=i')&&zCI l l')
def zCI:List Typ→List Typ→Bool
 | [],[]=>true
 | x::a,y::b=>yG x y&&zCI a b
 | _,_=>false
end
theorem zLF:∀(a b:List Typ),zCI a b=zBW yG a b
 | [],[]=>by simp only[zCI,zBW]
 | x::a,y::b=>by simp only[zCI,zBW,zLF a b]
 | [],_::_=>by simp only[zCI,zBW]
 | _::_,[]=>by simp only[zCI,zBW]
theorem zLE (a b:Typ):yG a b=(decide (a.k=b.k)&&(decide (a.id=b.id)&&zBW yG a.kids b.kids)):=by cases a; cases b; simp only[yG,zLF]; rfl
mutual
theorem zDW:∀(a b:Typ),yG a b=true↔a=b
 | .mk k i l,.mk k' i' l'=>by simp only[yG,Bool.and_eq_true,decide_eq_true_eq,zKh l l',Typ.mk.injEq]
theorem zKh:∀(a b:List Typ),zCI a b=true↔a=b
 | [],[]=>by simp[zCI]
 | x::a,y::b=>by simp only[zCI,Bool.and_eq_true,zDW x y,zKh a b,List.cons.injEq]
 | [],_::_=>by simp[zCI]
 | _::_,[]=>by simp[zCI]
end
mutual
theorem zD5:∀(a b:Typ),Ret Tryz.prog 105 [.agg (zB a),.agg (zB b)] [] (bl (yG a b)) []
 | .mk k i l,b=>by
  have ih:=zHk l;generalize ha:Typ.mk k i l=a;have hal:a.kids=l:=by rw[←ha]; rfl
  rw[←hal]at ih;refine zI Tryz.func105 rfl qAe (rs:=[.slot 4]) (by kernel_rfl) ?_;unfold zTl;have hd:=zLE a b;by_cases h1:a.k=b.k
  ·by_cases h2:a.id=b.id
   ·simp[zB,h1,h2];refine zQ (zWK 105 zTE yG a.kids b.kids fun x hx y hy=>ih x hx y) (by simp) (by simp) ?_;simp;exact zC 0 (by simp[hd,h1,h2])
   ·have h3:zBU a.id.a a.id.b a.id.c b.id.a b.id.b b.id.c=false:=by rw[zAR]; exact decide_eq_false h2
    simp[zB,h1,h3];exact zC 0 (by simp[hd,h2])
  ·simp[zB,h1];exact zC 0 (by simp[hd,h1])
theorem zHk:∀(l:List Typ),∀x∈l,∀y:Typ,Ret Tryz.prog 105 [.agg (zB x),.agg (zB y)] [] (bl (yG x y)) []
 | [],x,hx,_=>by simp at hx
 | z::l,x,hx,y=>by
  rcases List.mem_cons.1 hx with e | hx
  ·rw[e]; exact zD5 z y
  ·exact zHk l x hx y
end
def zA9 (k:Int):Bool:=decide (k=2)||(decide (k=3)||(decide (k=4)||decide (k=5)))
theorem zFt (d:Dfn):Ret Tryz.prog 43 [.agg (zO d)] [] (bl (zA9 d.kind)) []:=by
 refine zI Tryz.func43 rfl qKS (rs:=[.slot 2]) (by kernel_rfl) ?_;unfold qEw;by_cases h2:d.kind=2
 ·simp[zO,h2];exact zC 0 (by simp[zA9,h2])
 ·by_cases h3:d.kind=3
  ·simp[zO,h2,h3];exact zC 0 (by simp[zA9,h2,h3])
  ·by_cases h4:d.kind=4
   ·simp[zO,h2,h3,h4];exact zC 0 (by simp[zA9,h2,h3,h4])
   ·simp[zO,h2,h3,h4];exact zC 0 (by simp[zA9,h2,h3,h4])
def zKg (x y:Slt):Bool:=decide (x.id=y.id)&&(yG x.typ y.typ&&decide (x.most=y.most))
theorem zOs (x y:Slt):Ret Tryz.prog 104 [.agg (zAi x),.agg (zAi y)] [] (bl (zKg x y)) []:=by
 refine zI Tryz.func104 rfl qL1 (rs:=[.slot 4]) (by kernel_rfl) ?_;unfold qEV;by_cases h1:x.id=y.id
 ·simp[zAi,h1];refine zQ (zD5 x.typ y.typ) (by simp[zB]) (by simp) ?_;cases h2:yG x.typ y.typ with
  | true =>
   simp;exact zC 0 (by simp[zKg,h1,h2])
  | false =>
   simp;exact zC 0 (by simp[zKg,h1,h2])
 ·have h3:zBU x.id.a x.id.b x.id.c y.id.a y.id.b y.id.c=false:=by rw[zAR]; exact decide_eq_false h1
  simp[zAi,h3];exact zC 0 (by simp[zKg,h1])
def zQU (x y:Exp):Bool:=decide (x.id=y.id)
theorem zM1 (x y:Exp):Ret Tryz.prog 107 [.agg (zF x),.agg (zF y)] [] (bl (zQU x y)) []:=by refine zI Tryz.func107 rfl qL2 (rs:=[.slot 4]) (by kernel_rfl) ?_;unfold qEW;simp[zF];exact zC 0 (by simp[zQU])
def zDJ (a b:Dfn):Bool:=decide (a.kind=b.kind)&&(zBW zKg a.slots b.slots&&(yG a.res b.res&&(!zA9 a.kind||decide (a.body.id=b.body.id))))
theorem zPN (a b:Dfn):Ret Tryz.prog 57 [.agg (zO a),.agg (zO b)] [] (bl (zDJ a b)) []:=by
 refine zI Tryz.func57 rfl cSD (rs:=[.slot 4]) (by kernel_rfl) ?_;unfold KSD;by_cases h1:a.kind=b.kind
 ·simp[zO,h1];refine zQ (zWJ 104 qAs zKg a.slots b.slots fun x _ y _=>zOs x y) (by simp) (by simp) ?_;cases h2:zBW zKg a.slots b.slots with
  | false =>
   simp;exact zC 0 (by simp[zDJ,h1,h2])
  | true =>
   simp[zO];refine zQ (zD5 a.res b.res) (by simp[zB]) (by simp) ?_;cases h3:yG a.res b.res with
   | false =>
    simp;exact zC 0 (by simp[zDJ,h1,h2,h3])
   | true =>
    simp[zO];refine zQ (zFt a) (by simp[zO,h1]) (by simp) ?_;cases h4:zA9 a.kind with
    | false =>
     simp;exact zC 0 (by rw[h1]at h4; simp[zDJ,h1,h2,h3,h4])
    | true =>
     simp[zO];exact zC 0 (by rw[h1]at h4; simp[zDJ,h1,h2,h3,h4])
 ·simp[zO,h1];exact zC 0 (by simp[zDJ,h1])
def zDK (a b:Exp):Bool:=decide (a.k=b.k)&&(decide (a.n=b.n)&&(decide (a.ref=b.ref)&&(yG a.typ b.typ&&zBW zQU a.kids b.kids)))
theorem zOt (a b:Exp):Ret Tryz.prog 59 [.agg (zF a),.agg (zF b)] [] (bl (zDK a b)) []:=by
 refine zI Tryz.func59 rfl cSN (rs:=[.slot 4]) (by kernel_rfl) ?_;unfold KSN;by_cases h1:a.k=b.k
 ·by_cases h2:a.n=b.n
  ·by_cases h3:a.ref=b.ref
   ·simp[zF,h1,h2,h3];refine zQ (zD5 a.typ b.typ) (by simp[zB]) (by simp) ?_;cases h4:yG a.typ b.typ with
    | false =>
     simp;exact zC 0 (by simp[zDK,h1,h2,h3,h4])
    | true =>
     simp[zF];refine zQ (zWI 107 qAt zQU a.kids b.kids fun x _ y _=>zM1 x y) (by simp) (by simp) ?_;simp;exact zC 0 (by simp[zDK,h1,h2,h3,h4])
   ·have h5:zBU a.ref.a a.ref.b a.ref.c b.ref.a b.ref.b b.ref.c=false:=by rw[zAR]; exact decide_eq_false h3
    simp[zF,h1,h2,h5];exact zC 0 (by simp[zDK,h1,h2,h3])
  ·simp[zF,h1,h2];exact zC 0 (by simp[zDK,h1,h2])
 ·simp[zF,h1];exact zC 0 (by simp[zDK,h1])
@[simp] theorem qMo:zA Tryz.prog 177=true:=by kernel_rfl
def zBy (n:Int):Int:=if 1099511627776<n then 1099511627776 else if n < -1099511627776 then -1099511627776 else n
@[simp] theorem qM1:zA Tryz.prog 176=true:=by kernel_rfl
def zB8 (b:Bool):Val:=.mk 1 (if b then 1 else 0) []
structure EVar where
 id:Id
 n:Int
 v:Val
def zDN (b:EVar):List A:=[.lit (.int .i64 b.id.a),.lit (.int .i64 b.id.b),.lit (.int .i64 b.id.c),.lit (.int .i64 b.n),.lit (.int .i64 b.v.k),.lit (.int .i64 b.v.n),.sl b.v.kids.length (zZ b.v.kids)]
theorem zET (b:EVar):qW (zDN b):=by have h:=zB2 b.v.kids;exact⟨by simp[zDN,h.1],fun rf g=>by simp[zDN,h.2]⟩
def zC3 (l:List EVar):List A:=l.flatMap zDN
theorem zFO (l:List EVar):qW (zC3 l):=zAE zET l
@[simp] theorem zXo (l:List EVar):qV (zC3 l)=zC3 l:=(zFO l).1
@[simp] theorem qCe {rf g}(l:List EVar):vwL rf g (zC3 l)=zC3 l:=(zFO l).2 _ _
@[simp] theorem zYT:zC3 []=[]:=rfl
@[simp] theorem zYS (l:List EVar):(zC3 l).length=l.length*7:=by rw[zC3,zBl (k:=7) (fun _=>rfl)]
@[simp] theorem qCF (d:EVar):(zDN d).length=7:=rfl
@[simp] theorem qCE (d:EVar):(zDN d).take 7=zDN d:=List.take_of_length_le (Nat.le_refl _)
@[simp] theorem qAN (d:EVar)(l:List A):(zDN d++l).take 7=zDN d:=by rw[List.take_append_of_le_length (by simp)]; exact List.take_of_length_le (by simp)
@[simp] theorem qBz (d:EVar):qV (zDN d)=zDN d:=(zET d).1
@[simp] theorem qI1 (d:EVar) {rf g}:vwL rf g (zDN d)=zDN d:=(zET d).2 _ _
@[simp] theorem qM6:zA Tryz.prog 101=true:=by kernel_rfl
def zFQ (env:List EVar)(id:Id)(n:Int):Val:=((env.reverse.find? fun b=>decide (b.id=id∧b.n=n)).map EVar.v).getD (.mk 0 0 [])
theorem zJx (env:List EVar)(b:EVar)(id:Id)(n:Int):zFQ (env++[b]) id n=if b.id=id∧b.n=n then b.v else zFQ env id n:=by unfold zFQ;rw[List.reverse_append,List.reverse_singleton,List.singleton_append,List.find?_cons];by_cases h:b.id=id∧b.n=n<;>simp[h]
@[simp] theorem qMt:zA Tryz.prog 159=true:=by kernel_rfl
def qFj:K:=G [kO 1 0,kMi 2 0] (G [kMi 3 1] (Z (G [D 6 1 2,L 7 6 1,kN 8 7,kMi 9 0] (K.block 0 (K.loop (G [kB 10 9 8 .lss] (Z (Y 10 ks (K.exit 0)) (Z (K.block 1 (G [kX 11 7 9 3,J 12 11 3,kZ 5 [ki,ki,kl],S 5 12 3] (K.ops [M 13 3,J 14 5 3,kC 15 130 [(kt 14)],kB 16 13 15 .add,M 3 16]))) (K.ops [kBi 17 9 1 .add,M 9 17]))))))) (G [M 18 3,M 2 18] kr)))
theorem qLF:zL Tryz.prog Tryz.f130.ntmps (Tryz.f130.body.getD .skip)=some qFj.erase:=by kernel_rfl
@[simp] theorem qNa:zA Tryz.prog 130=true:=by kernel_rfl
theorem zRa (v:Val):Ret Tryz.prog 130 [.agg (zP v)] [] (int (zD6 v)) []:=by
 refine zI Tryz.func130 rfl qLF (rs:=[.slot 2]) (by kernel_rfl) ?_;unfold qFj;simp[zP];intro hl;refine qY (S:=Nat) (fun i=>[(3,int (zKp (v.kids.take i))),(7,.sl v.kids.length (zZ v.kids)),(8,int v.kids.length),(9,int i)]) (fun s=>[]) (fun i=>i≤v.kids.length) (fun i=>v.kids.length-i) 0 (by simp)
  (zR [] 0 (by simp) (by simp) (by simp) (by simp[zKp])) ?_
 intro i hi;simp;by_cases h:i<v.kids.length
 ·simp[h,yF h];refine zQ (zRa v.kids[i]) (by simp[zP]) (by simp) ?_;simp;exact zT (i+1) h (by omega) (zR [] 0 (by simp) (by simp) (by simp) (by simp[qD h hl,zIi h]))
 ·have:i=v.kids.length:=by omega
  subst this;simp;exact zC 0 (by simp[zKl v])
termination_by qB v
decreasing_by exact zA7 (List.getElem_mem _)
def qFg:K:=G [kO 1 0,kMi 2 0] (G [kMi 3 0] (Z (G [D 6 1 2,L 7 6 1,kN 8 7,kMi 9 0] (K.block 0 (K.loop (G [kB 10 9 8 .lss] (Z (Y 10 ks (K.exit 0)) (Z (K.block 1 (G [kX 11 7 9 3,J 12 11 3,kZ 5 [ki,ki,kl],S 5 12 3] (K.ops [M 13 3,J 14 5 3,kC 15 131 [(kt 14)],⟨none,.mm (some 16) true [(kt 13),(kt 15)]⟩,M 3 16]))) (K.ops [kBi 17 9 1 .add,M 9 17]))))))) (G [M 18 3,kBi 19 18 1 .add,M 2 19] kr)))
theorem qLC:zL Tryz.prog Tryz.f131.ntmps (Tryz.f131.body.getD .skip)=some qFg.erase:=by kernel_rfl
@[simp] theorem qMW:zA Tryz.prog 131=true:=by kernel_rfl
theorem zQ1 (v:Val):Ret Tryz.prog 131 [.agg (zP v)] [] (int (zCb v)) []:=by
 refine zI Tryz.func131 rfl qLC (rs:=[.slot 2]) (by kernel_rfl) ?_;unfold qFg;simp[zP];intro hl;refine qY (S:=Nat) (fun i=>[(3,int (zJF (v.kids.take i))),(7,.sl v.kids.length (zZ v.kids)),(8,int v.kids.length),(9,int i)]) (fun s=>[]) (fun i=>i≤v.kids.length) (fun i=>v.kids.length-i) 0 (by simp)
  (zR [] 0 (by simp) (by simp) (by simp) (by simp[zJF])) ?_
 intro i hi;simp;by_cases h:i<v.kids.length
 ·simp[h,yF h];refine zQ (zQ1 v.kids[i]) (by simp[zP]) (by simp) ?_;simp;exact zT (i+1) h (by omega) (zR [] 0 (by simp) (by simp) (by simp) (by simp[qD h hl,zHO h,zP8]))
 ·have:i=v.kids.length:=by omega
  subst this;simp;exact zC 0 (by simp[zHB v,w64])
termination_by qB v
decreasing_by exact zA7 (List.getElem_mem _)
def qFi:K:=G [kO 1 0,kMb 2 false] (G [kZ 3 [ki],⟨none,.st none (kt 3) (kc 256) 1⟩] (G [kZ 4 [.nilFunc]] (G [⟨none,.clo (some 5) 124 [] [(kt 3),(kt 4)]⟩,S 4 5 1] (G [L 6 4 1,J 7 1 3,⟨none,.call (some 8) (kt 6) [(kt 7),(kc 1)]⟩,M 2 8] kr))))
theorem qLE:zL Tryz.prog Tryz.f91.ntmps (Tryz.f91.body.getD .skip)=some qFi.erase:=by kernel_rfl
@[simp] theorem qMZ:zA Tryz.prog 91=true:=by kernel_rfl
def zY5:K:=G [kO 4 0,kO 5 1,kMb 6 false] (G [L 7 2 1,kBi 8 7 1 .sub,S 2 8 1] (G [L 9 2 1,kBi 10 9 0 .geq,M 11 10,T 11 true (L 12 5 1),T 11 true (kBi 13 12 24 .leq),kPf 14 11 13,M 15 14,T 15 true (D 16 4 2),T 15 true (L 17 16 1),⟨some (15,true),.clo (some 18) 126 [] [(kt 3),(kt 5)]⟩,T 15 true (kC 19 125 [(kt 17),(kt 18)]),T 15 true (kR 20 19),kPf 21 15 20,M 6 21] kr))
theorem qGc:zL Tryz.prog Tryz.f124.ntmps (Tryz.f124.body.getD .skip)=some zY5.erase:=by kernel_rfl
@[simp] theorem qJq:zA Tryz.prog 124=true:=by kernel_rfl
def zZP:K:=G [kMb 4 false] (G [M 5 0,M 6 1,kC 7 143 [(kt 5),(kt 6)],kBi 8 7 0 .geq,M 4 8] kr)
theorem qFW:zL Tryz.prog Tryz.f125.ntmps (Tryz.f125.body.getD .skip)=some zZP.erase:=by kernel_rfl
@[simp] theorem qMV:zA Tryz.prog 125=true:=by kernel_rfl
def zY6:K:=G [kO 3 0,kMb 4 false] (G [L 5 1 1,J 6 3 3,L 7 2 1,kBi 8 7 1 .add,⟨none,.call (some 9) (kt 5) [(kt 6),(kt 8)]⟩,kR 10 9,M 4 10] kr)
theorem qGd:zL Tryz.prog Tryz.f126.ntmps (Tryz.f126.body.getD .skip)=some zY6.erase:=by kernel_rfl
@[simp] theorem qJr:zA Tryz.prog 126=true:=by kernel_rfl
def zZQ:K:=G [kMi 4 0] (Z (G [M 6 0,kN 7 6,kMi 8 0] (K.block 0 (K.loop (G [kB 9 8 7 .lss] (Z (Y 9 ks (K.exit 0)) (Z (K.block 1 (G [M 10 8,M 5 10] (G [M 11 1,M 12 0,M 13 5,kX 14 12 13 3,J 15 14 3,⟨none,.call (some 16) (kt 11) [(kt 15)]⟩] (Y 16 (G [M 17 5,M 4 17] kr) ks)))) (K.ops [kBi 18 8 1 .add,M 8 18]))))))) (G [⟨none,.mov (some 4) (kc (-1))⟩] kr))
theorem qGb:zL Tryz.prog Tryz.f143.ntmps (Tryz.f143.body.getD .skip)=some zZQ.erase:=by kernel_rfl
@[simp] theorem qMY:zA Tryz.prog 143=true:=by kernel_rfl
mutual
def zA4:Val→Nat
 | .mk _ _ l=>yO l+1
def yO:List Val→Nat
 | []=>0
 | v::l=>max (zA4 v) (yO l)
end
theorem zHA (v:Val):zA4 v=yO v.kids+1:=by cases v; simp only[zA4,Val.kids]
theorem zKk (v:Val):qB v=1+qN v.kids:=by cases v; simp only[qB,Val.kids]
theorem zIw:∀{l:List Val} {v:Val},v∈l→zA4 v≤yO l
 | x::l,v,h=>by
  simp only[yO];rcases List.mem_cons.1 h with rfl | h
  ·omega
  ·have:=zIw h; omega
theorem zBE:∀(a b:List Val),qN (a++b)=qN a+qN b
 | [],b=>by simp[qN]
 | x::a,b=>by simp[qN,zBE a b]; omega
theorem zFk {l:List Val}{i:Nat}(h:i<l.length):qN (l.take (i+1))=qN (l.take i)+qB l[i]:=by rw[List.take_succ_eq_append_getElem h,zBE]; simp[qN]
theorem zHo (l:List Val)(i:Nat):qN l=qN (l.take i)+qN (l.drop i):=by
 conv=>lhs; rw[←List.take_append_drop i l]
 exact zBE _ _
def zBt:A:=.clo 124 [] [.ptr 0 0,.ptr 1 0]
def sSt (L:Nat):St:=[.box [int L],.box [zBt]]
def zDV (L:Nat)(d:Int):St:=[.box [int L],.box [zBt],.box [int d]]
def zIL (v:Val)(d:Int):Prop:=∀L:Nat,qB v≤L→L≤256→Ret Tryz.prog 124 [.agg (zP v),int d,.ptr 0 0,.ptr 1 0] (sSt L) (bl true) (sSt (L-qB v))
theorem zS6 (v:Val)(d:Int)(hd:0≤d∧d≤100)(h:zIL v (d+1))(L:Nat)(hL:qB v≤L)(hL2:L≤256) :
 Ret Tryz.prog 126 [.agg (zP v),.ptr 1 0,.ptr 2 0] (zDV L d) (bl false) (zDV (L-qB v) d):=by
 refine zI Tryz.func126 rfl qGd (rs:=[.slot 4]) (by kernel_rfl) ?_;unfold zY6;have hw:IntKind.i64.wrap (d+1)=d+1:=IntWalk.i64_in _ (by omega);simp[zDV,zBt,hw,zP];refine zN (h L hL hL2) [0,1] (by simp) (by simp[sSt,zBt]) (by simp[zP]) ?_;simp[sSt,zBt];exact zG [0,1,2] 0 (by decide) (by simp) (by simp[zBt]) (by simp)
theorem zWU (l:List Val)(d:Int)(hd:0≤d∧d≤100)(h:∀x∈l,zIL x (d+1))(L:Nat)(hL:qN l≤L)(hL2:L≤256) :
 Ret Tryz.prog 143 [.sl l.length (zZ l),.clo 126 [] [.ptr 1 0,.ptr 2 0]] (zDV L d) (int (-1)) (zDV (L-qN l) d):=by
 refine zI Tryz.func143 rfl qGb (rs:=[.slot 4]) (by kernel_rfl) ?_;unfold zZQ;simp[zDV,zBt];intro hl;refine qY (S:=Nat) (fun i=>[(0,.sl l.length (zZ l)),(1,.clo 126 [] [.ptr 1 0,.ptr 2 0]),(6,.sl l.length (zZ l)),(7,int l.length),(8,int i)]) (fun i=>zDV (L-qN (l.take i)) d) (fun i=>i≤l.length) (fun i=>l.length-i) 0 (by simp)
  (zR [0,1,2] 0 (by decide) (by simp) (by simp[zDV,zBt,qN]) (by simp)) ?_
 intro i hi;by_cases hil:i<l.length
 ·have e1:=zFk hil;have e2:=zHo l (i+1);simp[hil,yF hil,zDV,zBt];refine zN (zS6 l[i] d hd (h _ (List.getElem_mem hil)) (L-qN (l.take i)) (by omega) (by omega)) [0,1,2] (by simp) (by simp[zDV,zBt]) (by simp[zP]) ?_;simp[zDV,zBt];exact zT (i+1) hil (by omega) (zR [0,1,2] 0 (by decide) (by simp) (by simp[zDV,zBt,e1,Nat.sub_sub]) (by simp[qD hil hl]))
 ·have:i=l.length:=by omega
  subst this;simp[zDV,zBt];exact zG [0,1,2] 0 (by decide) (by simp) (by simp[zBt]) (by simp)
theorem zWx (l:List Val)(d:Int)(hd:0≤d∧d≤100)(h:∀x∈l,zIL x (d+1))(L:Nat)(hL:qN l≤L)(hL2:L≤256) :
 Ret Tryz.prog 125 [.sl l.length (zZ l),.clo 126 [] [.ptr 1 0,.ptr 2 0]] (zDV L d) (bl false) (zDV (L-qN l) d):=by
 refine zI Tryz.func125 rfl qFW (rs:=[.slot 4]) (by kernel_rfl) ?_;unfold zZP;simp[zDV,zBt];refine zN (zWU l d hd h L hL hL2) [0,1,2] (by simp) (by simp[zDV,zBt]) (by simp) ?_;simp[zDV,zBt];exact zG [0,1,2] 0 (by decide) (by simp) (by simp[zBt]) (by simp)
theorem zKn (v:Val)(d:Int)(hd:1≤d∧d+zA4 v≤25):zIL v d:=by
 intro L hL hL2;refine zI Tryz.func124 rfl qGc (rs:=[.slot 6]) (by kernel_rfl) ?_;unfold zY5;have e1:=zKk v;have e2:=zHA v;have hw:IntKind.i64.wrap ((L:Int)-1)=((L-1:Nat):Int):=by rw[IntWalk.i64_in _ (by omega)]; omega
 have hd24:d≤24:=by omega
 simp[sSt,zBt,hw,hd24,zP];refine zN (zWx v.kids d (by omega) (fun x hx=>zKn x (d+1) (by have:=zIw hx; omega)) (L-1) (by omega) (by omega)) [0,1,3] (by simp) (by simp[zDV,zBt]) (by simp) ?_;simp[zDV,zBt];exact zG [0,1] 0 (by decide) (by simp) (by simp[zBt,e1,Nat.sub_sub]) (by simp)
termination_by qB v
decreasing_by exact zA7 hx
theorem zV0 (v:Val)(h1:qB v≤256)(h2:zA4 v≤24):Ret Tryz.prog 91 [.agg (zP v)] [] (bl true) []:=by refine zI Tryz.func91 rfl qLE (rs:=[.slot 2]) (by kernel_rfl) ?_;unfold qFi;simp[zP];refine zN (zKn v 1 (by omega) 256 h1 (by omega)) [1,2] (by simp) (by simp[sSt,zBt]) (by simp[zP]) ?_;simp[sSt,zBt];exact zC 0 (by simp)
theorem zK8:Ret Tryz.prog 97 [.sl 0 []] [] (.sl 0 []) []:=by refine zI Tryz.func97 rfl zMP (rs:=[.slot 2]) (by kernel_rfl) ?_;unfold zIY;simp;exact zC 0 (by simp)
def qEX:K:=G [kMn 2] (G [M 4 0,kC 5 94 [(kt 4)],M 3 5] (G [M 6 3,kC 7 95 [(kt 6),(.func 96)]] (G [M 8 3,kC 9 97 [(kt 8)],M 2 9] kr)))
theorem qL3:zL Tryz.prog Tryz.f48.ntmps (Tryz.f48.body.getD .skip)=some qEX.erase:=by kernel_rfl
@[simp] theorem qMA:zA Tryz.prog 48=true:=by kernel_rfl
theorem zIg (l:List Id)(hb:l.length≤1000000):Ret Tryz.prog 48 [.sl l.length (zX l)] [] (.sl (zCk l).length (zX (zCk l))) []:=by
 refine zI Tryz.func48 rfl qL3 (rs:=[.slot 2]) (by kernel_rfl) ?_;unfold qEX;simp;by_cases h:l=[]
 ·subst h;refine zN zMZ [] (by simp) (by simp) (by simp) ?_;simp;refine zN (zPS (.clo 96 [] [])) [] (by simp) (by simp) (by simp) ?_;simp;refine zN zK8 [] (by simp) (by simp) (by simp) ?_;simp;exact zC 0 (by simp[zCk,zCO,zAc])
 ·refine zN (zMY l h hb) [] (by simp) (by simp) (by simp) ?_;simp;refine zN (zPR l (by omega)) [0] (by simp) (by simp) (by simp) ?_;have hp:=(zGu l).length_eq;simp;have hc:=zOV (zCO zEG l) (by omega);rw[hp]at hc;refine zN hc [0] (by simp) (by simp) (by simp) ?_;have hle:=zKW (zCO zEG l);simp[zNb];by_cases hcc:zAc (zCO zEG l)=zCO zEG l
  ·simp[hcc,hp];exact zC 1 (by simp[zCk,hcc,hp,zC1])
  ·simp[hcc,hp];have h0:(zAc (zCO zEG l)).length≠0:=fun e=>by have h1:=List.eq_nil_of_length_eq_zero e;obtain⟨x,hx⟩:=List.exists_mem_of_ne_nil l h;have:=(zH7 (x:=x) (zCO zEG l)).2 ((zGu l).mem_iff.2 hx);rw[h1]at this;simp at this
   exact zC 1 (by simp[zCk,h0,jD])
@[simp] theorem qGs:zA Tryz.prog 30=true:=by kernel_rfl
def zYb:K:=G [kO 2 0,kMb 4 false] (G [⟨none,.mop (some 8) (.mk 3) []⟩,kZ 5 [(.map none)],S 5 8 1] (Z (G [D 9 2 0,L 10 9 1,D 11 2 1,L 12 11 1,kd 13 45 1 2 [kl,kl] [(0,1,(kt 10)),(1,1,(kt 12))],kC 14 69 [(kt 13)],kN 15 14,kMi 16 0] (K.block 0 (K.loop (G [kB 17 16 15 .lss] (Z (Y 17 ks (K.exit 0)) (Z (K.block 1 (G [kX 18 14 16 3,J 19 18 3,kZ 7 [ki,ki,ki],S 7 19 3] (K.ops [L 20 5 1,J 21 7 3,⟨none,.mop none (.set 3) [(kt 20),(kt 21),(.const (.bool true))]⟩]))) (K.ops [kBi 22 16 1 .add,M 16 22]))))))) (G [M 23 1,⟨none,.clo (some 24) 71 [] [(kt 5)]⟩,kC 25 70 [(kt 23),(kt 24)],M 4 25] kr)))
theorem qF8:zL Tryz.prog Tryz.f29.ntmps (Tryz.f29.body.getD .skip)=some zYb.erase:=by kernel_rfl
@[simp] theorem qIO:zA Tryz.prog 29=true:=by kernel_rfl
def zSR:K:=G [kO 2 0,kMb 3 false] (G [L 4 1 1,J 5 2 3,⟨none,.mop (some 6) (.get 3 (.bool false) false) [(kt 4),(kt 5)]⟩,M 3 6] kr)
theorem zZY:zL Tryz.prog Tryz.f71.ntmps (Tryz.f71.body.getD .skip)=some zSR.erase:=by kernel_rfl
@[simp] theorem qGh:zA Tryz.prog 71=true:=by kernel_rfl
def zQm:K:=G [kMi 4 0] (Z (G [M 6 0,kN 7 6,kMi 8 0] (K.block 0 (K.loop (G [kB 9 8 7 .lss] (Z (Y 9 ks (K.exit 0)) (Z (K.block 1 (G [M 10 8,M 5 10] (G [M 11 1,M 12 0,M 13 5,kX 14 12 13 3,J 15 14 3,⟨none,.call (some 16) (kt 11) [(kt 15)]⟩] (Y 16 (G [M 17 5,M 4 17] kr) ks)))) (K.ops [kBi 18 8 1 .add,M 8 18]))))))) (G [⟨none,.mov (some 4) (kc (-1))⟩] kr))
theorem zWd:zL Tryz.prog Tryz.f117.ntmps (Tryz.f117.body.getD .skip)=some zQm.erase:=by kernel_rfl
@[simp] theorem qC3:zA Tryz.prog 117=true:=by kernel_rfl
def zSS:K:=G [kMb 4 false] (G [M 5 0,M 6 1,kC 7 117 [(kt 5),(kt 6)],kBi 8 7 0 .geq,M 4 8] kr)
theorem zZZ:zL Tryz.prog Tryz.f70.ntmps (Tryz.f70.body.getD .skip)=some zSS.erase:=by kernel_rfl
@[simp] theorem qGk:zA Tryz.prog 70=true:=by kernel_rfl
def zDR (l:List Id):List (List Int×A):=l.foldl (fun es d=>zCW (zAY d) (.lit (.bool true)) es) []
theorem zHN (l:List Id)(x:Id):zDR (l++[x])=zCW (zAY x) (.lit (.bool true)) (zDR l):=by simp[zDR,List.foldl_append]
theorem zEY {x y:Id}:zAY x=zAY y↔x=y:=by simp[zAY,Id.eq_iff]
theorem zLc {ks ks':List Int}{v:A}:∀(es:List (List Int×A)),zAx ks (zCW ks' v es)=if ks'=ks then some v else zAx ks es
 | []=>by simp[zCW,zAx]
 | p::es=>by
  simp only[zCW];by_cases h:p.1=ks'
  ·simp only[h,if_true,zAx];by_cases h':ks'=ks<;>simp[h']
  ·simp only[h,if_false,zAx];by_cases h':p.1=ks
   ·simp only[h',if_true];have:¬ks'=ks:=fun e=>h (h'.trans e.symm)
    simp[this]
   ·simp only[h',if_false,zLc es]
theorem zPk (x:Id)(l:List Id):zAx (zAY x) (zDR l)=if x∈l then some (.lit (.bool true)) else none:=by
 induction l using zBu with
 | nil=>simp[zDR,zAx]
 | snoc l y ih =>
  rw[zHN,zLc,ih];by_cases h:y=x
  ·subst h; simp
  ·have:¬zAY y=zAY x:=fun e=>h (zEY.1 e)
   have h':¬x=y:=fun e=>h e.symm
   simp[this,h']
theorem zUW (l:List Id)(k:Nat):∀p∈zDR l,p.2.bnd k=true:=by
 induction l using zBu with
 | nil=>simp[zDR]
 | snoc l y ih =>
  rw[zHN];have:∀es:List (List Int×A),(∀p∈es,p.2.bnd k=true)→∀p∈zCW (zAY y) (.lit (.bool true)) es,p.2.bnd k=true:=by
   intro es;induction es with
   | nil=>intro _ p hp; simp[zCW]at hp; subst hp; rfl
   | cons q es ih =>
    intro h p hp;simp only[zCW]at hp;split at hp
    ·rcases List.mem_cons.1 hp with rfl | hp
     ·rfl
     ·exact h p (List.mem_cons_of_mem _ hp)
    ·rcases List.mem_cons.1 hp with rfl | hp
     ·exact h _ (List.mem_cons_self ..)
     ·exact ih (fun p hp=>h p (List.mem_cons_of_mem _ hp)) p hp
  exact this _ ih
@[simp] theorem qJM {rf:Bool→Nat→Nat→A}{g:Nat→Option Nat}(l:List Id):((zDR l).map fun p=>(p.1,vw rf g p.2))=zDR l:=by
 have h:=zUW l 0;generalize zDR l=es at h;induction es with
 | nil=>rfl
 | cons p es ih =>
  rw[List.map_cons,ih fun q hq=>h q (List.mem_cons_of_mem _ hq),zVG (k:=0) (fun l hl=>by omega) p.2 (h p (List.mem_cons_self ..))]
theorem zTz (l:List Id)(x:Id):Ret Tryz.prog 71 [.agg (qF x),.ptr 0 0] [.box [.map 1],.mp true 3 (zDR l)] (bl (decide (x∈l))) [.box [.map 1],.mp true 3 (zDR l)]:=by
 refine zI Tryz.func71 rfl zZY (rs:=[.slot 3]) (by kernel_rfl) ?_;unfold zSR;have hf:=zPk x l;simp only[zAY]at hf;simp[qF];have hr:zEX (Value.bool false) false (zAx [x.a,x.b,x.c] (zDR l))=.lit (.bool (decide (x∈l))):=by rw[hf];by_cases h:x∈l<;>simp[zEX,h,zF7,qX]
 rw[hr];exact zG [0,1] 0 (by decide) (by simp) (by simp) (by simp)
def zPx (l ids:List Id):Int:=match ids.findIdx? (fun x=>decide (x∈l))with
 | some i=>i
 | none=>-1
theorem zN4 (l ids:List Id):decide (0≤zPx l ids)=ids.any fun x=>decide (x∈l):=by
 unfold zPx;cases h:ids.findIdx? (fun x=>decide (x∈l))with
 | none =>
  rw[List.findIdx?_eq_none_iff]at h;have:(ids.any fun x=>decide (x∈l))=false:=by rw[List.any_eq_false]; exact fun x hx=>by simpa using h x hx
  rw[this]; rfl
 | some i =>
  have h':=List.findIdx?_eq_some_iff_getElem.1 h;obtain⟨hi,h1,_⟩:=h';have:(ids.any fun x=>decide (x∈l))=true:=by rw[List.any_eq_true]; exact⟨_,List.getElem_mem hi,h1⟩
  rw[this]; simp
theorem zSf (l ids:List Id):Ret Tryz.prog 117 [.sl ids.length (zX ids),.clo 71 [] [.ptr 0 0]] [.box [.map 1],.mp true 3 (zDR l)] (int (zPx l ids)) [.box [.map 1],.mp true 3 (zDR l)]:=by
 refine zI Tryz.func117 rfl zWd (rs:=[.slot 4]) (by kernel_rfl) ?_;unfold zQm;simp;intro hl;refine qY (S:=Nat) (fun i=>[(0,.sl ids.length (zX ids)),(1,.clo 71 [] [.ptr 0 0]),(7,int ids.length),(8,int i)]) (fun i=>[.box [.map 1],.mp true 3 (zDR l)]) (fun i=>i≤ids.length∧∀x∈ids.take i,x∉l) (fun i=>ids.length-i) 0 (by simp)
  (zR [0,1] 0 (by decide) (by simp) (by simp) (by simp)) ?_
 rintro i ⟨hi,hn⟩;by_cases h:i<ids.length
 ·simp[h,yE h];refine zN (zTz l ids[i]) [0,1] (by simp) (by simp) (by simp[qF]) ?_;simp;by_cases hx:ids[i]∈l
  ·have:zPx l ids=i:=by
    unfold zPx;rw[List.findIdx?_eq_some_iff_getElem.2 ⟨h,by simpa using hx,fun j hj=>by
     have:=hn ids[j] (by rw[List.mem_take_iff_getElem]; exact⟨j,by omega,rfl⟩)
     simpa using this⟩]
   simp[hx];exact zG [0,1] 0 (by decide) (by simp) (by simp) (by simp[this])
  ·simp[hx];exact zT (i+1) ⟨h,fun x hx'=>by
    rw[List.take_succ_eq_append_getElem h]at hx';rcases List.mem_append.1 hx' with hx' | hx'
    ·exact hn x hx'
    ·rw[List.mem_singleton.1 hx']; exact hx⟩ (by omega) (zR [0,1] 0 (by decide) (by simp) (by simp) (by simp[qD h hl]))
 ·have:i=ids.length:=by omega
  subst this;rw[List.take_length]at hn;have:zPx l ids = -1:=by unfold zPx;rw[List.findIdx?_eq_none_iff.2 fun x hx=>by simpa using hn x hx]
  simp;exact zG [0,1] 0 (by decide) (by simp) (by simp) (by simp[this])
theorem zUa (l ids:List Id):Ret Tryz.prog 70 [.sl ids.length (zX ids),.clo 71 [] [.ptr 0 0]] [.box [.map 1],.mp true 3 (zDR l)] (bl (ids.any fun x=>decide (x∈l))) [.box [.map 1],.mp true 3 (zDR l)]:=by refine zI Tryz.func70 rfl zZZ (rs:=[.slot 4]) (by kernel_rfl) ?_;unfold zSS;simp;refine zN (zSf l ids) [0,1] (by simp) (by simp) (by simp) ?_;simp;exact zG [0,1] 0 (by decide) (by simp) (by simp) (by rw[←zN4]; simp)
theorem zVX (t:Trc)(ids l:List Id)(hl:l=t.defs++t.nodes)(h:l.length≤1000000):Ret Tryz.prog 29 [.agg (zYZ t),.sl ids.length (zX ids)] [] (bl (ids.any fun x=>decide (x∈l))) []:=by
 refine zI Tryz.func29 rfl qF8 (rs:=[.slot 4]) (by kernel_rfl) ?_;unfold zYb;have e1:[t.defs,t.nodes].flatten=l:=by simp[hl]
 simp[zYZ];refine zQ (zLT [t.defs,t.nodes] (by rw[zDr,e1]; exact h)) (by simp[zBx]) (by simp) ?_;rw[zDr,e1];simp;intro hlm;refine qY (S:=Nat) (fun i=>[(1,.sl ids.length (zX ids)),(5,.ptr 0 0),(14,.sl l.length (zX l)),(15,int l.length),(16,int i)]) (fun i=>[.box [.map 1],.mp true 3 (zDR (l.take i))]) (fun i=>i≤l.length) (fun i=>l.length-i) 0 (by simp)
  (zR [2,1] 0 (by simp) (by simp) (by simp[zDR]) (by simp)) ?_
 intro i hi;by_cases h:i<l.length
 ·have hs:=zHN (l.take i) l[i];rw[←List.take_succ_eq_append_getElem h,zAY]at hs;simp[h,yE h];rw[←hs];exact zT (i+1) h (by omega) (zR [0,1] 0 (by simp) (by simp) (by simp) (by simp[qD h hlm]))
 ·have:i=l.length:=by omega
  subst this;simp;refine zN (zUa l ids) [0,1] (by simp) (by simp) (by simp) ?_;simp;exact zC 0 (by simp)
end Go.Proofs.YthglhccibdlccaaGreatDoor
