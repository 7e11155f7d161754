/-
  The maker of programs: its state, its small functions.
  eval: environments, and the depth of a value.
  The law's example: its two calls.
  trace.read: the first definition and the first node of each ID.
-/
import Derived.Test.YthglhccibdlccaaGreatDoorX11
import Derived.Test.YthglhccibdlccaaGreatDoorX10
set_option linter.unusedVariables false
set_option maxHeartbeats 8000000
set_option maxRecDepth 100000
set_option linter.unusedSimpArgs false
open Go.Proofs.Tryz (prog)
namespace Go.Proofs.YthglhccibdlccaaGreatDoor
open Go.Abs
def KAt:K:=G [kMi 6 0] (Z (G [M 7 1,kBi 8 7 0 .lss,M 9 8,T 9 false (M 10 1),T 9 false (M 11 0),T 9 false (kN 12 11),T 9 false (kB 13 10 12 .geq),kPt 14 9 13] (Y 14 (G [kMi 6 0] kr) ks)) (G [M 15 0,M 16 1,kX 17 15 16 1,L 18 17 1,M 19 2,kC 20 12 [(kt 18),(kt 19)],M 6 20] kr))
theorem cAt:zL prog Tryz.f31.ntmps (Tryz.f31.body.getD .skip)=some KAt.erase:=by kernel_rfl
@[simp] theorem qRE:zA prog 31=true:=by kernel_rfl
def qH3:K:=G [kZ 2 [ki,ki,ki]] (G [M 3 0,kBi 4 3 32 .quo,⟨none,.bin (some 5) .add (kc 1) (kt 4)⟩,M 6 0,kBi 7 6 32 .rem,kb 8 [ki,ki,ki] [(1,1,(kt 5)),(2,1,(kt 7))],S 2 8 3] kr)
theorem qOz:zL prog Tryz.f32.ntmps (Tryz.f32.body.getD .skip)=some qH3.erase:=by kernel_rfl
@[simp] theorem qP9:zA prog 32=true:=by kernel_rfl
def KOf:K:=G [kO 1 0,kZ 2 kz2] (G [J 3 1 3,kb 4 kz2 [(0,1,(kc 3)),(1,3,(kt 3))],S 2 4 5] kr)
theorem cOf:zL prog Tryz.f72.ntmps (Tryz.f72.body.getD .skip)=some KOf.erase:=by kernel_rfl
@[simp] theorem qRF:zA prog 72=true:=by kernel_rfl
def qAI:K:=G [kO 1 0,kZ 2 kz2] (G [J 3 1 5,kd 4 33 5 1 kz2 [(0,5,(kt 3))],kb 5 kz2 [(0,1,(kc 2)),(4,1,(kt 4))],S 2 5 5] kr)
theorem qI8:zL prog Tryz.f74.ntmps (Tryz.f74.body.getD .skip)=some qAI.erase:=by kernel_rfl
@[simp] theorem qLS:zA prog 74=true:=by kernel_rfl
def zSi:K:=G [kO 2 0,kO 3 1,kMb 4 false] (Z (G [D 6 2 0,L 7 6 1,D 8 3 0,L 9 8 1,kQ 10 7 9 true,M 11 10,T 11 false (D 12 2 1),T 11 false (J 13 12 3),T 11 false (D 14 3 1),T 11 false (J 15 14 3),⟨some (11,false),.eqs (some 16) true [.i,.i,.i] (kt 13) (kt 15)⟩,kPt 17 11 16,M 18 17,T 18 false (D 19 2 4),T 18 false (L 20 19 1),T 18 false (kN 21 20),T 18 false (D 22 3 4),T 18 false (L 23 22 1),T 18 false (kN 24 23),T 18 false (kQ 25 21 24 true),kPt 26 18 25] (Y 26 (G [kMb 4 false] kr) ks)) (Z (G [kMi 5 0] (K.block 0 (K.loop (Z (G [M 27 5,D 28 2 4,L 29 28 1,kN 30 29,kB 31 27 30 .lss] (Y 31 ks (K.exit 0))) (Z (K.block 1 (Z (K.dops [(0,0,D 34 2 4),(1,0,L 35 34 1),(2,0,M 36 5),(3,0,kX 37 35 36 5),(4,0,J 38 37 5),(5,0,D 39 3 4),(6,0,L 40 39 1),(7,0,M 41 5),(8,0,kX 42 40 41 5),(9,0,J 43 42 5),(10,0,kC 44 109 [(kt 38),(kt 43)]),(11,0,kR 45 44)]) (Y 45 (G [kMb 4 false] kr) ks))) (K.ops [M 32 5,kBi 33 32 1 .add,M 5 33])))))) (G [kMb 4 true] kr)))
theorem zYv:zL prog Tryz.f109.ntmps (Tryz.f109.body.getD .skip)=some zSi.erase:=by kernel_rfl
@[simp] theorem qFc:zA prog 109=true:=by kernel_rfl
def qHu:K:=G [kMi 4 0] (G [M 5 0,kU 6 5,D 7 6 3,L 8 7 1,kBi 9 8 1 .add,kU 10 5,D 11 10 3,S 11 9 1] (Z (K.dops [(0,0,M 12 0),(1,0,kU 13 12),(2,0,D 14 13 2),(3,0,L 15 14 1),(4,0,M 16 0),(5,0,kU 17 16),(6,0,D 18 17 3),(7,0,L 19 18 1),(8,0,kBi 20 19 1 .sub),(9,0,M 21 1),(10,0,kC 22 31 [(kt 15),(kt 20),(kt 21)]),(11,0,M 4 22)]) kr))
theorem qOq:zL prog Tryz.f76.ntmps (Tryz.f76.body.getD .skip)=some qHu.erase:=by kernel_rfl
@[simp] theorem qPw:zA prog 76=true:=by kernel_rfl
def zUZ:K:=G [kZ 8 kz1] (G [M 9 0,kU 10 9,D 11 10 4,L 12 11 1,kBi 13 12 1 .add,kU 14 9,D 15 14 4,S 15 13 1] (G [M 16 0,kU 17 16,D 18 17 5,L 19 18 1,kBi 20 19 1 .sub,kU 21 16,D 22 21 5,S 22 20 1] (G [M 23 0,kU 24 23,D 25 24 4,L 26 25 1,kBi 27 26 1 .sub,kb 28 [ki,ki,ki] [(2,1,(kt 27))],M 29 1,M 30 2,M 31 3,kb 32 kz1 [(0,3,(kt 28)),(3,1,(kt 29)),(4,1,(kt 30)),(13,1,(kt 31))],S 8 32 15] kr)))
theorem qBe:zL prog Tryz.f80.ntmps (Tryz.f80.body.getD .skip)=some zUZ.erase:=by kernel_rfl
@[simp] theorem qLV:zA prog 80=true:=by kernel_rfl
def qAJ:K:=G [⟨none,.mov (some 2) (.const (.string ⟨#[]⟩))⟩] (G [M 3 0,kU 4 3,D 5 4 10,L 6 5 1,kBi 7 6 1 .add,kU 8 3,D 9 8 10,S 9 7 1] (Z (K.dops [(0,0,⟨none,.bslice (some 10) 9 1 3 zWX [(0,1,(.const (.string ⟨#[117]⟩))),(1,1,(.const (.string ⟨#[118]⟩))),(2,1,(.const (.string ⟨#[119]⟩)))]⟩),(1,0,M 11 0),(2,0,kU 12 11),(3,0,D 13 12 10),(4,0,L 14 13 1),(5,0,kBi 15 14 3 .rem),(6,0,kX 16 10 15 1),(7,0,L 17 16 1),(8,0,⟨none,.bslice (some 18) 9 1 8 [(.string ⟨#[]⟩),(.string ⟨#[]⟩),(.string ⟨#[]⟩),(.string ⟨#[]⟩),(.string ⟨#[]⟩),(.string ⟨#[]⟩),(.string ⟨#[]⟩),(.string ⟨#[]⟩)] [(0,1,(.const (.string ⟨#[]⟩))),(1,1,(.const (.string ⟨#[49]⟩))),(2,1,(.const (.string ⟨#[50]⟩))),(3,1,(.const (.string ⟨#[51]⟩))),(4,1,(.const (.string ⟨#[52]⟩))),(5,1,(.const (.string ⟨#[53]⟩))),(6,1,(.const (.string ⟨#[54]⟩))),(7,1,(.const (.string ⟨#[55]⟩)))]⟩),(9,0,M 19 0),(10,0,kU 20 19),(11,0,D 21 20 10),(12,0,L 22 21 1),(13,0,kBi 23 22 3 .quo),(14,0,kBi 24 23 8 .rem),(15,0,kX 25 18 24 1),(16,0,L 26 25 1),(17,0,kB 27 17 26 .add),(18,0,M 2 27)]) kr))
theorem qIA:zL prog Tryz.f81.ntmps (Tryz.f81.body.getD .skip)=some qAJ.erase:=by kernel_rfl
@[simp] theorem qLT:zA prog 81=true:=by kernel_rfl
def qHS:K:=G [kMb 4 false] (G [M 6 0,kU 7 6,D 8 7 0,D 9 8 1,L 10 9 1,M 11 1,kX 12 10 11 31,J 13 12 31,kZ 5 kz0,S 5 13 31] (Z (K.dops [(0,0,M 14 1),(1,0,M 15 0),(2,0,kU 16 15),(3,0,D 17 16 6),(4,0,L 18 17 1),(5,0,kB 19 14 18 .lss),(6,0,M 20 19),(7,0,T 20 true (D 21 5 4)),(8,0,T 20 true (J 22 21 3)),(9,0,T 20 true (M 23 0)),(10,0,T 20 true (kU 24 23)),(11,0,T 20 true (D 25 24 7)),(12,0,T 20 true (J 26 25 3)),(13,0,⟨some (20,true),.eqs (some 27) false [.i,.i,.i] (kt 22) (kt 26)⟩),(14,0,T 20 true (M 28 27)),(15,0,T 28 false (D 29 5 4)),(16,0,T 28 false (J 30 29 3)),(17,0,T 28 false (M 31 0)),(18,0,T 28 false (kU 32 31)),(19,0,T 28 false (D 33 32 0)),(20,0,T 28 false (D 34 33 0)),(21,0,T 28 false (L 35 34 1)),(22,0,T 28 false (kXi 36 35 6 0)),(23,0,T 28 false (D 37 36 0)),(24,0,T 28 false (J 38 37 3)),(25,0,⟨some (28,false),.eqs (some 39) false [.i,.i,.i] (kt 30) (kt 38)⟩),(26,0,T 20 true (kPt 40 28 39)),(27,0,kPf 41 20 40),(28,0,M 4 41)]) kr))
theorem qOO:zL prog Tryz.f119.ntmps (Tryz.f119.body.getD .skip)=some qHS.erase:=by kernel_rfl
@[simp] theorem qQs:zA prog 119=true:=by kernel_rfl
def qHv:K:=G [kMi 6 0] (G [M 10 0,kU 11 10,D 12 11 0,D 13 12 1,L 14 13 1,kN 15 14,M 7 15] (Z (G [kMi 8 0] (K.block 0 (K.loop (Z (G [M 16 8,M 17 7,kB 18 16 17 .lss] (Y 18 ks (K.exit 0))) (Z (K.block 1 (G [M 21 2,M 22 8,kB 23 21 22 .add,M 24 7,kB 25 23 24 .rem,M 9 25] (G [M 26 0,kU 27 26,D 28 27 0,D 29 28 1,L 30 29 1,M 31 9,kX 32 30 31 31,D 33 32 3,L 34 33 1,M 35 1,kQ 36 34 35 false,M 37 36,T 37 true (M 38 0),T 37 true (M 39 9),T 37 true (kC 40 119 [(kt 38),(kt 39)]),kPf 41 37 40] (Y 41 (G [M 42 9,M 6 42] kr) ks)))) (K.ops [M 19 8,kBi 20 19 1 .add,M 8 20])))))) (G [⟨none,.mov (some 6) (kc (-1))⟩] kr)))
theorem qOr:zL prog Tryz.f118.ntmps (Tryz.f118.body.getD .skip)=some qHv.erase:=by kernel_rfl
@[simp] theorem qPx:zA prog 118=true:=by kernel_rfl
def qAY:K:=G [kO 3 1,kZ 4 kz1] (G [M 6 0,D 7 3 3,L 8 7 1,kC 9 80 [(kt 6),(kc 2),(kt 8),(.const kl)],kZ 5 kz1,S 5 9 15] (G [D 10 3 0,J 11 10 3,D 12 5 5,S 12 11 3] (G [J 13 5 15,S 4 13 15] kr)))
theorem qIQ:zL prog Tryz.f78.ntmps (Tryz.f78.body.getD .skip)=some qAY.erase:=by kernel_rfl
@[simp] theorem qMm:zA prog 78=true:=by kernel_rfl
def zO9:K:=G [kO 3 1,kMn 4] (G [kMn 5] (Z (G [kMi 6 0] (K.block 0 (K.loop (Z (G [M 7 6,M 8 0,kN 9 8,kB 10 7 9 .lss] (Y 10 ks (K.exit 0))) (Z (K.block 1 (Z (K.dops [(0,0,M 13 0),(1,0,M 14 6),(2,0,kX 15 13 14 9),(3,0,D 16 15 4),(4,0,J 17 16 5),(5,0,J 18 3 5),(6,0,kC 19 109 [(kt 17),(kt 18)])]) (Y 19 (K.ops [M 20 5,M 21 0,M 22 6,kX 23 21 22 9,J 24 23 9,kd 25 96 9 1 kz7 [(0,9,(kt 24))],kP 26 96 9 88 20 25,M 5 26]) ks))) (K.ops [M 11 6,kBi 12 11 1 .add,M 6 12])))))) (G [M 27 5,M 4 27] kr)))
theorem zV6:zL prog Tryz.f77.ntmps (Tryz.f77.body.getD .skip)=some zO9.erase:=by kernel_rfl
@[simp] theorem qCI:zA prog 77=true:=by kernel_rfl
def zVt:K:=G [kO 3 1,kMn 4] (G [kMn 5] (Z (K.dops [(3,1,J 9 3 9),(4,0,kd 10 96 9 1 kz7 [(0,9,(kt 9))]),(0,0,M 6 5),(1,0,M 7 0),(2,0,kP 8 96 9 88 6 7),(5,0,kP 11 96 9 88 8 10),(6,0,M 4 11)]) kr))
def qDE:Nat→Option (List (Nat×Nat)):=fun r=>match r with | 2=>some [(3,1),(4,0),(0,0),(1,0),(2,0),(5,0),(6,0)] | _=>none
theorem qCE:qD prog Tryz.f82.ntmps qDE (Tryz.f82.body.getD .skip)=some zVt.erase:=by kernel_rfl
@[simp] theorem qJf:zA prog 82=true:=by kernel_rfl
def atV (l:List Int)(i most:Int):Int:=if i<0∨(l.length:Int)≤i then 0 else zA4 (l.getD i.toNat 0) most
theorem zB2 (l:List Int)(i most:Int)(hm:0<most):Ret prog 31 [.sl l.length (yH l),int i,int most] [] (int (atV l i most)) []:=by
 refine zK Tryz.func31 rfl cAt (rs:=[.slot 6]) (by kernel_rfl) ?_;unfold KAt;by_cases h:i<0
 ·simp[h];exact zC 0 (by simp[atV,h])
 by_cases h2:(l.length:Int)≤i
 ·simp[h,h2];exact fun _=>zC 0 (by simp[atV,h2])
 ·obtain⟨j,rfl⟩:∃j:Nat,i=j:=⟨i.toNat,by omega⟩;have hj:j<l.length:=by omega
  have hd:=zE9 hj;simp[h,h2,hj,hd];intro _;refine zT (zG1 l[j] most hm) (by simp) (by simp) ?_;simp;exact zC 0 (by simp[atV,hj,h,show ¬l.length≤j by omega])
theorem yM {l:List Int}{i most:Int}(hl:∀x∈l,w64 x=x)(hm:0<most):0≤atV l i most∧atV l i most<most:=by
 unfold atV;split
 ·omega
 ·rename_i h;have hj:i.toNat<l.length:=by omega
  rw[jC5,jA2 hj];exact zC2 (hl _ (jA0 hj)) hm
def idR (k:Int):Id:=⟨0,IntKind.i64.wrap (1+IntKind.i64.wrap (k.tdiv 32)),k.tmod 32⟩
theorem zF6 (k:Int):Ret prog 32 [int k] [] (.agg (jF (idR k))) []:=by refine zK Tryz.func32 rfl qOz (rs:=[.cell 2 3 true]) (by kernel_rfl) ?_;unfold qH3;simp;exact zC 0 (by simp[jF,idR])
theorem zNy (d:Id):Ret prog 72 [.agg (jF d)] [] (.agg (zB (.mk 3 d []))) []:=by refine zK Tryz.func72 rfl cOf (rs:=[.cell 2 5 true]) (by kernel_rfl) ?_;unfold KOf;simp[jF];exact zC 0 (by simp[zB])
theorem zZ2 (t:Typ):Ret prog 74 [.agg (zB t)] [] (.agg (zB (.mk 2 ⟨0,0,0⟩ [t]))) []:=by refine zK Tryz.func74 rfl qI8 (rs:=[.cell 2 5 true]) (by kernel_rfl) ?_;unfold qAI;simp[zB];exact zC 0 (by simp[zB,qN])
mutual
theorem zDG:∀(a b:Typ),Ret prog 109 [.agg (zB a),.agg (zB b)] [] (bl (yT a b)) []
 | .mk k i l,b=>by
  have ih:=zLP l;generalize ha:Typ.mk k i l=a;have hal:a.kids=l:=by rw[←ha]; rfl
  rw[←hal]at ih;refine zK Tryz.func109 rfl zYv (rs:=[.slot 4]) (by kernel_rfl) ?_;unfold zSi;have hd:=zN6 a b;by_cases h1:a.k=b.k
  ·by_cases h2:a.id=b.id
   ·by_cases h3:a.kids.length=b.kids.length
    ·simp[zB,h1,h2,h3];intro hl;refine qW (S:=Nat) (fun j=>[(2,.ptr 0 0),(3,.ptr 1 0),(5,int j)]) (fun _=>[.box (zB a),.box (zB b)]) (fun j=>j≤a.kids.length∧∀(m:Nat) (hm:m<j) (hma:m<a.kids.length) (hmb:m<b.kids.length),yT a.kids[m] b.kids[m]=true) (fun j=>a.kids.length-j) 0 (by simp)
      (zR [0,1] 0 (by decide) (by simp) (by simp[zB,h1,h2,h3]) (by simp)) ?_
     rintro j ⟨hj,hs⟩;by_cases h:j<a.kids.length
     ·have hb:j<b.kids.length:=by omega
      simp[zB,h,zCt h,zCt hb,hb];intro hl';refine qK (ih a.kids[j] (jA0 h) b.kids[j]) (by simp[zB]) (by simp) ?_;cases hab:yT a.kids[j] b.kids[j]
      ·have:zCf yT a.kids b.kids=false:=by rw[←jAu,zC0 h3];intro hh;have:=hh j h;rw[hab]at this;cases this
       simp;exact zC 0 (by simp[hd,this])
      ·simp;exact zU (j+1) ⟨h,fun m hm hma hmb=>by
        by_cases e:m=j
        ·subst e; exact hab
        ·exact hs m (by omega) hma hmb⟩ (by omega) (zR [0,1] 0 (by decide) (by simp) (by simp[zB]) (by simp[qA h (show a.kids.length≤maxLen by omega)]))
     ·have hj':j=a.kids.length:=by omega
      have:zCf yT a.kids b.kids=true:=(zC0 h3).2 fun m hm=>hs m (by omega) hm (by omega)
      simp[zB,h]
      first | exact fun _=>zC 0 (by simp[hd,h1,h2,this]) | exact zC 0 (by simp[hd,h1,h2,this])
    ·have h4:=zFH (same:=yT) h3;have h5:¬((a.kids.length:Int)=b.kids.length):=by omega
     simp[zB,h1,h2,h3,h5]
     first | exact fun _ _=>zC 0 (by simp[hd,h4]) | exact fun _=>zC 0 (by simp[hd,h4]) | exact zC 0 (by simp[hd,h4])
   ·have h3:zCx a.id.a a.id.b a.id.c b.id.a b.id.b b.id.c=false:=by rw[zBu]; exact decide_eq_false h2
    simp[zB,h1,h3];exact zC 0 (by simp[hd,h2])
  ·simp[zB,h1];exact zC 0 (by simp[hd,h1])
theorem zLP:∀(l:List Typ),∀x∈l,∀y:Typ,Ret prog 109 [.agg (zB x),.agg (zB y)] [] (bl (yT x y)) []
 | [],x,hx,_=>by simp at hx
 | z::l,x,hx,y=>by
  rcases jA3.1 hx with e | hx
  ·rw[e]; exact zDG z y
  ·exact zLP l x hx y
end
structure Mk where
 mods:List Md
 defs:List Dfn
 l:List Int
 at_:Int
 temp:Int
 left:Int
 own:Int
 home:Id
 name:Int
def mkB (m:Mk):List A:=[.sl m.mods.length (qM m.mods),.row 1 m.defs.length,.sl m.l.length (yH m.l),int m.at_,int m.temp,int m.left,int m.own,int m.home.a,int m.home.b,int m.home.c,int m.name]
def mkS (m:Mk):St:=[.box (mkB m),.row false 39 31 m.defs.length (zX m.defs)]
theorem zXq (m:Mk)(n:Int)(hn:0<n)(h0:0≤m.at_)(h1:m.at_≤1000000000000000) :
 Ret prog 76 [.ptr 0 0,int n] (mkS m) (int (atV m.l m.at_ n)) (mkS {m with at_:=m.at_+1}):=by
 refine zK Tryz.func76 rfl qOq (rs:=[.slot 4]) (by kernel_rfl) ?_;unfold qHu;have w1:=qF (m.at_+1) (by omega);have w2:=qF m.at_ (by omega);simp[mkS,mkB,w1,w2];refine qK (zB2 m.l m.at_ n hn) (by simp) (by simp) ?_;simp;exact zG [0,1] 0 (by decide) (by simp) (by simp) (by simp)
theorem yQ (m:Mk)(kind n:Int)(kids:List Exp)(h0:0≤m.temp)(h1:m.temp≤1000000000000000)(h2 : -1000000000000000≤m.left)(h3:m.left≤1000000000000000) :
 Ret prog 80 [.ptr 0 0,int kind,int n,.sl kids.length (qL kids)] (mkS m) (.agg (zF (.mk ⟨0,0,m.temp⟩ kind n Id.zero Typ.zero kids []))) (mkS {m with temp:=m.temp+1,left:=m.left-1}):=by
 refine zK Tryz.func80 rfl qBe (rs:=[.cell 8 15 true]) (by kernel_rfl) ?_;unfold zUZ;have w1:=qF (m.temp+1) (by omega);have w2:=qF m.temp (by omega);have w3:=qF (m.left-1) (by omega);simp[mkS,mkB,w1,w2,w3];exact zG [0,1] 0 (by decide) (by simp) (by simp) (by simp[zF,Typ.zero,Id.zero,Typ.kids,Typ.k,Typ.id])
def scA:List EVar→A
 | []=>.lit (.pointer none)
 | b::l=>.rptr (zEi b++[scA l])
@[simp] theorem qNd:scA []=.lit (.pointer none):=rfl
theorem zGo (b:EVar)(l:List EVar):scA (b::l)=.rptr [.lit (.int .i64 b.id.a),.lit (.int .i64 b.id.b),.lit (.int .i64 b.id.c),.lit (.int .i64 b.n),.lit (.int .i64 b.v.k),.lit (.int .i64 b.v.n),.sl b.v.kids.length (zV b.v.kids),scA l]:=rfl
@[simp] theorem zXp:∀l:List EVar,nrm0 (scA l)=scA l
 | []=>rfl
 | b::l=>by simp[zGo,zXp l]
@[simp] theorem qEB {rf:Bool→Nat→Nat→A}{g:Nat→Option Nat}:∀l:List EVar,vw rf g (scA l)=scA l
 | []=>rfl
 | b::l=>by simp[zGo,qEB l]
@[simp] theorem qBr (l:List EVar):cellsOf (scA l)=some [scA l]:=by cases l<;>rfl
abbrev scE (V:List EVar):A:=scA V.reverse
@[simp] theorem qNe:scE []=.lit (.pointer none):=rfl
@[simp] theorem qKY (V:List EVar)(b:EVar):scE (V++[b])=scA (b::V.reverse):=by simp[scE]
@[simp] theorem qFZ (V:List EVar)(a b:EVar):scE (V++[a,b])=scA (b::a::V.reverse):=by simp[scE]
def zJK (l:List EVar)(id:Id)(n:Int):Val:=((l.find? fun b=>decide (b.id=id∧b.n=n)).map EVar.v).getD (.mk 0 0 [])
theorem zRe (b:EVar)(l:List EVar)(id:Id)(n:Int):zJK (b::l) id n=if b.id=id∧b.n=n then b.v else zJK l id n:=by unfold zJK;rw[jBz];by_cases h:b.id=id∧b.n=n<;>simp[h]
def zX6 (a b c n a' b' c' n':Int):Bool:=decide (Id.mk a b c=Id.mk a' b' c'∧n=n')
@[simp] theorem qKX {x y:Id}{n m:Int}:zX6 x.a x.b x.c n y.a y.b y.c m=decide (x=y∧n=m):=rfl
@[simp] theorem qJ4 {a b c n a' b' c' n':Int}:zNV [.i,.i,.i,.i] false (.agg [.lit (.int .i64 a),.lit (.int .i64 b),.lit (.int .i64 c),.lit (.int .i64 n)]) (.agg [.lit (.int .i64 a'),.lit (.int .i64 b'),.lit (.int .i64 c'),.lit (.int .i64 n')]) =
 some (.lit (.bool (zX6 a b c n a' b' c' n'))):=by simp[zNV,zAf,zBT,zBd,and_assoc,zX6]
def qHf:K:=G [kO 3 1,kZ 4 [ki,ki,kl]] (Z (K.block 0 (K.loop (Z (G [M 5 0,⟨none,.isp (some 6) true (kt 5)⟩] (Y 6 ks (K.exit 0))) (Z (K.block 1 (Z (K.dops [(0,0,M 11 0),(1,0,kU 12 11),(2,0,D 13 12 0),(3,0,J 14 13 4),(4,0,J 15 3 4),(5,0,⟨none,.eqs (some 16) false [.i,.i,.i,.i] (kt 14) (kt 15)⟩)]) (Y 16 (G [M 17 0,kU 18 17,D 19 18 4,J 20 19 3,S 4 20 3] kr) ks))) (K.ops [M 7 0,kU 8 7,D 9 8 7,L 10 9 1,M 0 10]))))) (G [kb 21 [ki,ki,kl] [],S 4 21 3] kr))
theorem qOb:zL prog Tryz.f163.ntmps (Tryz.f163.body.getD .skip)=some qHf.erase:=by kernel_rfl
@[simp] theorem qPd:zA prog 163=true:=by kernel_rfl
theorem zWm (l:List EVar)(id:Id)(n:Int):Ret prog 163 [scA l,.agg [int id.a,int id.b,int id.c,int n]] [] (.agg (zJ (zJK l id n))) []:=by
 refine zK Tryz.func163 rfl qOb (rs:=[.cell 4 3 true]) (by kernel_rfl) ?_;unfold qHf;simp;refine qW (S:=List EVar) (fun s=>[(0,scA s),(3,.ptr 0 0),(4,.ptr 1 0)]) (fun _=>[.box [int id.a,int id.b,int id.c,int n],.box [int 0,int 0,.nil]])
  (fun s=>zJK l id n=zJK s id n) (fun s=>s.length) l rfl (zR [0,1] 0 (by decide) (by simp) (by simp) (by simp)) ?_
 intro s hs;cases s with
 | nil =>
  simp;exact zC 0 (by rw[hs]; simp[zJK,zJ,Val.k,Val.n,Val.kids])
 | cons b s =>
  rw[zRe]at hs;by_cases h:b.id=id∧b.n=n
  ·rw[if_pos h]at hs;obtain⟨rfl,rfl⟩:=h;simp[zGo];exact zC 0 (by rw[hs]; simp[zJ])
  ·rw[if_neg h]at hs;have hd:decide (b.id=id∧b.n=n)=false:=by simpa using h
   simp[zGo,hd,-Bool.decide_and];exact zU s hs (by simp) (zR [0,1] 0 (by decide) (by simp) (by simp) (by simp))
def qHm:K:=G [kO 5 1,kO 7 3,⟨none,.mov (some 8) (.const (.pointer none))⟩] (G [J 9 5 3,M 10 2,kb 11 zGW [(0,3,(kt 9)),(3,1,(kt 10))],J 12 7 3,M 13 0,kb 14 [ki,ki,ki,ki,ki,ki,kl,(.pointer none)] [(0,4,(kt 11)),(4,3,(kt 12)),(7,1,(kt 13))],kO 15 14,M 8 15] kr)
theorem qOi:zL prog Tryz.f114.ntmps (Tryz.f114.body.getD .skip)=some qHm.erase:=by kernel_rfl
@[simp] theorem qPl:zA prog 114=true:=by kernel_rfl
theorem zC6 (l:List EVar)(b:EVar):Ret prog 114 [scA l,.agg (jF b.id),int b.n,.agg (zJ b.v)] [] (scA (b::l)) []:=by refine zK Tryz.func114 rfl qOi (rs:=[.slot 8]) (by kernel_rfl) ?_;unfold qHm;simp[jF,zJ];exact zC 1 (by simp[zGo])
def qHd:K:=G [kO 1 0,kMi 2 0] (G [kMi 3 0] (Z (G [D 6 1 2,L 7 6 1,kN 8 7,kMi 9 0] (K.block 0 (K.loop (G [kB 10 9 8 .lss] (Z (Y 10 ks (K.exit 0)) (Z (K.block 1 (G [kX 11 7 9 3,J 12 11 3,kZ 5 [ki,ki,kl],S 5 12 3] (K.ops [M 13 3,J 14 5 3,kC 15 141 [(kt 14)],⟨none,.mm (some 16) true [(kt 13),(kt 15)]⟩,M 3 16]))) (K.ops [kBi 17 9 1 .add,M 9 17]))))))) (G [M 18 3,kBi 19 18 1 .add,M 2 19] kr)))
theorem qNZ:zL prog Tryz.f141.ntmps (Tryz.f141.body.getD .skip)=some qHd.erase:=by kernel_rfl
@[simp] theorem qPa:zA prog 141=true:=by kernel_rfl
theorem zIM (v:Val):Ret prog 141 [.agg (zJ v)] [] (int (zBS v)) []:=by
 refine zK Tryz.func141 rfl qNZ (rs:=[.slot 2]) (by kernel_rfl) ?_;unfold qHd;simp[zJ];intro hl;refine qW (S:=Nat) (fun i=>[(3,int (zIZ (v.kids.take i))),(7,.sl v.kids.length (zV v.kids)),(8,int v.kids.length),(9,int i)]) (fun s=>[]) (fun i=>i≤v.kids.length) (fun i=>v.kids.length-i) 0 (by simp)
  (zR [] 0 (by simp) (by simp) (by simp) (by simp[zIZ])) ?_
 intro i hi;simp;by_cases h:i<v.kids.length
 ·simp[h,jN h];refine zT (zIM v.kids[i]) (by simp[zJ]) (by simp) ?_;simp;exact zU (i+1) h (by omega) (zR [] 0 (by simp) (by simp) (by simp) (by simp[qA h hl,zGH h,zP8]))
 ·have:i=v.kids.length:=by omega
  subst this;simp;exact zC 0 (by simp[zG6 v,w64])
termination_by qI v
decreasing_by exact zAC (jA0 _)
def qA5:K:=G [kO 4 0,kO 5 1,kZ 8 [ki,ki,kl],kZ 9 [kl,kl],kMi 10 0] (G [J 22 4 2,J 23 5 3,kC 24 42 [(kt 22),(kt 23)],M 21 24,kE 25 21 0,kE 26 21 1,kZ 11 kz0,S 11 25 31,M 12 26] (Z (G [M 27 12,kR 28 27,M 29 28,T 29 false (J 30 11 31),T 29 false (kC 31 43 [(kt 30)]),T 29 false (kR 32 31),kPt 33 29 32] (Y 33 (G [kb 34 [ki,ki,kl] [],kb 35 [kl,kl] [],S 8 34 3,S 9 35 2,kMi 10 6] kr) ks)) (Z (G [M 36 2,kN 37 36,D 38 11 8,L 39 38 1,kN 40 39,kQ 41 37 40 true] (Y 41 (G [kb 42 [ki,ki,kl] [],kb 43 [kl,kl] [],S 8 42 3,S 9 43 2,kMi 10 1] kr) ks)) (G [kZ 13 [kl,kl]] (G [⟨none,.mop (some 44) (.mk 3) []⟩,kZ 14 [(.map none)],S 14 44 1] (G [⟨none,.clo (some 45) 44 [] [(kt 13),(kt 14)]⟩,M 15 45] (G [J 46 4 2,M 47 3,M 48 15,kb 49 [kl,kl,ki,ki,.nilFunc] [(0,2,(kt 46)),(2,1,(kt 47)),(4,1,(kt 48))],kO 50 49,M 16 50] (G [⟨none,.mop (some 51) (.mk 3) []⟩,M 17 51] (Z (G [D 52 11 8,L 53 52 1,kN 54 53,kMi 55 0] (K.block 0 (K.loop (G [kB 56 55 54 .lss] (Z (Y 56 ks (K.exit 0)) (Z (K.block 1 (G [M 57 55,kX 58 53 55 11,J 59 58 11,kZ 19 kz5,M 18 57,S 19 59 11] (Z (Z (K.dops [(0,0,J 60 4 2),(1,0,D 61 19 4),(2,0,J 62 61 5),(3,0,M 63 2),(4,0,M 64 18),(5,0,kX 65 63 64 3),(6,0,J 66 65 3),(7,0,kC 67 45 [(kt 60),(kt 62),(kt 66)]),(8,0,kR 68 67)]) (Y 68 (G [kb 69 [ki,ki,kl] [],kb 70 [kl,kl] [],S 8 69 3,S 9 70 2,kMi 10 1] kr) ks)) (K.ops [M 71 16,D 72 19 4,J 73 72 5,M 74 17,kC 75 46 [(kt 71),(kt 73),(kt 74)]])))) (K.ops [kBi 76 55 1 .add,M 55 76]))))))) (G [M 77 16,J 78 11 31,
 M 79 2,kC 80 47 [(kt 77),(kt 78),(kt 79)],kZ 20 [ki,ki,kl],S 20 80 3] (Z (G [M 81 16,kU 82 81,D 83 82 3,L 84 83 1,kQi 85 84 0 true] (Y 85 (K.ops [kb 86 [ki,ki,kl] [],S 20 86 3]) ks)) (Z (K.wk (K.wk (K.dops [(0,0,J 87 20 3),(1,0,D 88 13 0),(2,0,L 89 88 1),(3,1,kC 90 48 [(kt 89)]),(4,0,D 91 13 1),(5,0,L 92 91 1),(6,1,kC 93 48 [(kt 92)]),(7,0,kb 94 [kl,kl] [(0,1,(kt 90)),(1,1,(kt 93))]),(8,0,M 95 16),(9,0,kU 96 95),(10,2,D 97 96 3),(11,2004,L 98 97 1),(12,1004,S 8 87 3),(13,1004,S 9 94 2),(14,0,M 10 98)]))) kr))))))))))))
def qB4:Nat→Option (List (Nat×Nat)):=fun r=>match r with | 21=>some [(0,0),(1,0),(2,0),(3,1),(4,0),(5,0),(6,1),(7,0),(8,0),(9,0),(10,2),(11,2004),(12,1004),(13,1004),(14,0)] | _=>none
theorem qIs:qD prog Tryz.f13.ntmps qB4 (Tryz.f13.body.getD .skip)=some qA5.erase:=by kernel_rfl
@[simp] theorem zYy:zA prog 13=true:=by kernel_rfl
def qAr:Entry:=⟨qA5,[.cell 8 3 true,.cell 9 2 true,.slot 10],false⟩
theorem zYP:jW prog 13 qAr:=⟨zYy,_,_,qB4,Tryz.func13,rfl,qIs,by kernel_rfl⟩
def qAL:K:=G [kO 5 1] (G [M 6 0] (Y 6 (K.ops [D 7 2 0,L 8 7 1,J 9 5 3,kd 10 29 3 1 [ki,ki,ki] [(0,3,(kt 9))],kP 11 29 3 24 8 10,D 12 2 0,S 12 11 1]) (G [L 13 3 1,J 14 5 3,⟨none,.mop (some 15) (.get 3 (.bool false) false) [(kt 13),(kt 14)]⟩,kR 16 15] (Y 16 (G [L 17 3 1,J 18 5 3,⟨none,.mop none (.set 3) [(kt 17),(kt 18),(.const (.bool true))]⟩] (K.ops [D 19 2 1,L 20 19 1,J 21 5 3,kd 22 29 3 1 [ki,ki,ki] [(0,3,(kt 21))],kP 23 29 3 24 20 22,D 24 2 1,S 24 23 1])) ks))))
theorem qIC:zL prog Tryz.f44.ntmps (Tryz.f44.body.getD .skip)=some qAL.erase:=by kernel_rfl
@[simp] theorem zY7:zA prog 44=true:=by kernel_rfl
def qAz:Entry:=⟨qAL,[],false⟩
theorem zYX:jW prog 44 qAz:=⟨zY7,_,_,zA1,Tryz.func44,rfl,qIC,by kernel_rfl⟩
def qGY:K:=G [kO 2 0,kO 3 1,kZ 4 kz0,kMb 5 false] (G [D 7 2 1,L 8 7 1,⟨none,.clo (some 9) 90 [] [(kt 3)]⟩,kC 10 89 [(kt 8),(kt 9)],M 6 10] (Z (G [M 11 6,kBi 12 11 0 .lss] (Y 12 (G [kb 13 kz0 [],S 4 13 31,kMb 5 false] kr) ks)) (G [D 14 2 1,L 15 14 1,M 16 6,kX 17 15 16 31,J 18 17 31,S 4 18 31,kMb 5 true] kr)))
theorem qNV:zL prog Tryz.f42.ntmps (Tryz.f42.body.getD .skip)=some qGY.erase:=by kernel_rfl
@[simp] theorem qCH:zA prog 42=true:=by kernel_rfl
def qGP:Entry:=⟨qGY,[.cell 4 31 true,.slot 5],false⟩
theorem qDt:jW prog 42 qGP:=⟨qCH,_,_,zA1,Tryz.func42,rfl,qNV,by kernel_rfl⟩
def qAF:K:=G [kMi 4 0] (Z (G [M 6 0,kN 7 6,kMi 8 0] (K.block 0 (K.loop (G [kB 9 8 7 .lss] (Z (Y 9 ks (K.exit 0)) (Z (K.block 1 (G [M 10 8,M 5 10] (G [M 11 1,M 12 0,M 13 5,kX 14 12 13 31,J 15 14 31,⟨none,.call (some 16) (kt 11) [(kt 15)]⟩] (Y 16 (G [M 17 5,M 4 17] kr) ks)))) (K.ops [kBi 18 8 1 .add,M 8 18]))))))) (G [⟨none,.mov (some 4) (kc (-1))⟩] kr))
theorem qI5:zL prog Tryz.f89.ntmps (Tryz.f89.body.getD .skip)=some qAF.erase:=by kernel_rfl
@[simp] theorem zY5:zA prog 89=true:=by kernel_rfl
def qAx:Entry:=⟨qAF,[.slot 4],false⟩
theorem zYV:jW prog 89 qAx:=⟨zY5,_,_,zA1,Tryz.func89,rfl,qI5,by kernel_rfl⟩
def qA8:K:=G [kO 2 0,kMb 3 false] (G [D 4 2 0,J 5 4 3,J 6 1 3,⟨none,.eqs (some 7) false [.i,.i,.i] (kt 5) (kt 6)⟩,M 3 7] kr)
theorem qIv:zL prog Tryz.f90.ntmps (Tryz.f90.body.getD .skip)=some qA8.erase:=by kernel_rfl
@[simp] theorem zY2:zA prog 90=true:=by kernel_rfl
def qAu:Entry:=⟨qA8,[.slot 3],false⟩
theorem zYS:jW prog 90 qAu:=⟨zY2,_,_,zA1,Tryz.func90,rfl,qIv,by kernel_rfl⟩
def zSc:K:=G [kO 1 0,kMb 2 false] (G [D 3 1 3,L 4 3 1,kQi 5 4 2 false,M 6 5,T 6 false (D 7 1 3),T 6 false (L 8 7 1),T 6 false (kQi 9 8 3 false),kPt 10 6 9,M 11 10,T 11 false (D 12 1 3),T 11 false (L 13 12 1),T 11 false (kQi 14 13 4 false),kPt 15 11 14,M 16 15,T 16 false (D 17 1 3),T 16 false (L 18 17 1),T 16 false (kQi 19 18 5 false),kPt 20 16 19,M 2 20] kr)
theorem zYq:zL prog Tryz.f43.ntmps (Tryz.f43.body.getD .skip)=some zSc.erase:=by kernel_rfl
@[simp] theorem zTv:zA prog 43=true:=by kernel_rfl
def zRZ:Entry:=⟨zSc,[.slot 2],false⟩
theorem zT9:jW prog 43 zRZ:=⟨zTv,_,_,zA1,Tryz.func43,rfl,zYq,by kernel_rfl⟩
def zVq:K:=G [kO 3 0,kO 4 1,kO 5 2,kMb 6 false] (G [J 7 5 3,kC 8 91 [(kt 7)],M 9 8,T 9 true (J 10 3 2),T 9 true (J 11 4 5),T 9 true (J 12 5 3),T 9 true (kC 13 92 [(kt 10),(kt 11),(kt 12)]),kPf 14 9 13,M 6 14] kr)
theorem qCB:zL prog Tryz.f45.ntmps (Tryz.f45.body.getD .skip)=some zVq.erase:=by kernel_rfl
@[simp] theorem zVI:zA prog 45=true:=by kernel_rfl
def zUN:Entry:=⟨zVq,[.slot 6],false⟩
theorem zWx:jW prog 45 zUN:=⟨zVI,_,_,zA1,Tryz.func45,rfl,qCB,by kernel_rfl⟩
def zVn:K:=G [kO 1 0,kMb 2 false] (G [kZ 3 [ki],⟨none,.st none (kt 3) (kc 256) 1⟩] (G [kZ 4 [.nilFunc]] (G [⟨none,.clo (some 5) 124 [] [(kt 3),(kt 4)]⟩,S 4 5 1] (G [L 6 4 1,J 7 1 3,⟨none,.call (some 8) (kt 6) [(kt 7),(kc 1)]⟩,M 2 8] kr))))
theorem qC8:zL prog Tryz.f91.ntmps (Tryz.f91.body.getD .skip)=some zVn.erase:=by kernel_rfl
@[simp] theorem zVG:zA prog 91=true:=by kernel_rfl
def zUL:Entry:=⟨zVn,[.slot 2],false⟩
theorem zWv:jW prog 91 zUL:=⟨zVG,_,_,zA1,Tryz.func91,rfl,qC8,by kernel_rfl⟩
def zSj:K:=G [kO 4 0,kO 5 1,kMb 6 false] (G [L 7 2 1,kBi 8 7 1 .sub,S 2 8 1] (G [L 9 2 1,kBi 10 9 0 .geq,M 11 10,T 11 true (L 12 5 1),T 11 true (kBi 13 12 24 .leq),kPf 14 11 13,M 15 14,T 15 true (D 16 4 2),T 15 true (L 17 16 1),⟨some (15,true),.clo (some 18) 126 [] [(kt 3),(kt 5)]⟩,T 15 true (kC 19 125 [(kt 17),(kt 18)]),T 15 true (kR 20 19),kPf 21 15 20,M 6 21] kr))
theorem zYw:zL prog Tryz.f124.ntmps (Tryz.f124.body.getD .skip)=some zSj.erase:=by kernel_rfl
@[simp] theorem zTx:zA prog 124=true:=by kernel_rfl
def zSb:Entry:=⟨zSj,[.slot 6],false⟩
theorem zTB:jW prog 124 zSb:=⟨zTx,_,_,zA1,Tryz.func124,rfl,zYw,by kernel_rfl⟩
def qA6:K:=G [kMb 4 false] (G [M 5 0,M 6 1,kC 7 143 [(kt 5),(kt 6)],kBi 8 7 0 .geq,M 4 8] kr)
theorem qIt:zL prog Tryz.f125.ntmps (Tryz.f125.body.getD .skip)=some qA6.erase:=by kernel_rfl
@[simp] theorem zY0:zA prog 125=true:=by kernel_rfl
def qAs:Entry:=⟨qA6,[.slot 4],false⟩
theorem zYQ:jW prog 125 qAs:=⟨zY0,_,_,zA1,Tryz.func125,rfl,qIt,by kernel_rfl⟩
def qAG:K:=G [kMi 4 0] (Z (G [M 6 0,kN 7 6,kMi 8 0] (K.block 0 (K.loop (G [kB 9 8 7 .lss] (Z (Y 9 ks (K.exit 0)) (Z (K.block 1 (G [M 10 8,M 5 10] (G [M 11 1,M 12 0,M 13 5,kX 14 12 13 3,J 15 14 3,⟨none,.call (some 16) (kt 11) [(kt 15)]⟩] (Y 16 (G [M 17 5,M 4 17] kr) ks)))) (K.ops [kBi 18 8 1 .add,M 8 18]))))))) (G [⟨none,.mov (some 4) (kc (-1))⟩] kr))
theorem qI6:zL prog Tryz.f143.ntmps (Tryz.f143.body.getD .skip)=some qAG.erase:=by kernel_rfl
@[simp] theorem zY6:zA prog 143=true:=by kernel_rfl
def qAy:Entry:=⟨qAG,[.slot 4],false⟩
theorem zYW:jW prog 143 qAy:=⟨zY6,_,_,zA1,Tryz.func143,rfl,qI6,by kernel_rfl⟩
def zOA:K:=G [kO 3 0,kMb 4 false] (G [L 5 1 1,J 6 3 3,L 7 2 1,kBi 8 7 1 .add,⟨none,.call (some 9) (kt 5) [(kt 6),(kt 8)]⟩,kR 10 9,M 4 10] kr)
theorem zV7:zL prog Tryz.f126.ntmps (Tryz.f126.body.getD .skip)=some zOA.erase:=by kernel_rfl
@[simp] theorem zQK:zA prog 126=true:=by kernel_rfl
def zO7:Entry:=⟨zOA,[.slot 4],false⟩
theorem zRa:jW prog 126 zO7:=⟨zQK,_,_,zA1,Tryz.func126,rfl,zV7,by kernel_rfl⟩
def qAD:K:=G [kO 3 0,kO 4 1,kO 5 2,kMb 6 false] (Z (G [J 11 3 2,J 12 4 5,kC 13 127 [(kt 11),(kt 12)],kR 14 13] (Y 14 (G [kMb 6 false] kr) ks)) (Z (G [D 15 4 0,L 16 15 1] (K.block 0 (G [kQi 18 16 0 false,M 17 18] (Y 17 (G [D 19 5 0,L 20 19 1,kQi 21 20 0 false,M 22 21,T 22 true (D 23 5 2),T 22 true (L 24 23 1),T 22 true (kN 25 24),T 22 true (kQi 26 25 0 false),kPf 27 22 26,M 28 27,T 28 true (D 29 5 1),T 28 true (L 30 29 1),⟨some (28,true),.bin (some 31) .geq (kt 30) (kc (-1099511627776))⟩,kPf 32 28 31,M 33 32,T 33 true (D 34 5 1),T 33 true (L 35 34 1),T 33 true (kBi 36 35 1099511627776 .leq),kPf 37 33 36,M 6 37] kr) (G [kQi 39 16 1 false,M 38 39] (Y 38 (G [D 40 5 0,L 41 40 1,kQi 42 41 1 false,M 43 42,T 43 true (D 44 5 2),T 43 true (L 45 44 1),T 43 true (kN 46 45),T 43 true (kQi 47 46 0 false),kPf 48 43 47,M 49 48,T 49 true (D 50 5 1),T 49 true (L 51 50 1),T 49 true (kQi 52 51 0 false),T 49 true (M 53 52),T 53 false (D 54 5 1),T 53 false (L 55 54 1),T 53 false (kQi 56 55 1 false),T 49 true (kPt 57 53 56),kPf 58 49 57,M 6 58] kr) (G [kQi 60 16 2 false,M 59 60] (Y 59 (G [D 61 5 0,L 62 61 1,kQi 63 62 4 false,M 64 63,T 64 true (D 65 5 1),T 64 true (L 66 65 1),T 64 true (kQi 67 66 0 false),kPf 68 64 67,M 69 68,T 69 true (D 70 5 2),T 69 true (L 71 70 1),⟨some (69,true),.clo (some 72) 128 [] [(kt 3),(kt 4)]⟩,T 69 true (kC 73 125 [(kt 71),(kt 72)]),T 69 true (kR 74 73),kPf 75 69 74,M 6 75] kr) ks)))))))) (G [J 77 3 2,D 78 4 1,J 79 78 3,kC 80 42 [(kt 77),(kt 79)],
 M 76 80,kE 81 76 0,kE 82 76 1,kZ 7 kz0,S 7 81 31,M 8 82] (Z (G [D 83 7 3,L 84 83 1,kQi 85 84 1 false] (Y 85 (Z (K.dops [(0,0,D 86 5 0),(1,0,L 87 86 1),(2,0,kQi 88 87 3 false),(3,0,M 89 88),(4,0,T 89 true (D 90 5 1)),(5,0,T 89 true (L 91 90 1)),(6,0,T 89 true (kBi 92 91 0 .geq)),(7,0,kPf 93 89 92),(8,0,M 94 93),(9,0,T 94 true (D 95 5 1)),(10,0,T 94 true (L 96 95 1)),(11,0,T 94 true (D 97 7 8)),(12,0,T 94 true (L 98 97 1)),(13,0,T 94 true (kN 99 98)),(14,0,T 94 true (kB 100 96 99 .lss)),(15,0,kPf 101 94 100),(16,0,M 102 101),(17,0,T 102 true (D 103 5 2)),(18,0,T 102 true (L 104 103 1)),(19,0,T 102 true (kN 105 104)),(20,0,T 102 true (kQi 106 105 1 false)),(21,0,kPf 107 102 106),(22,0,M 108 107),(23,0,T 108 true (J 109 3 2)),(24,0,T 108 true (D 110 7 8)),(25,0,T 108 true (L 111 110 1)),(26,0,T 108 true (D 112 5 1)),(27,0,T 108 true (L 113 112 1)),(28,0,T 108 true (kX 114 111 113 11)),(29,0,T 108 true (D 115 114 4)),(30,0,T 108 true (J 116 115 5)),(31,0,T 108 true (D 117 5 2)),(32,0,T 108 true (L 118 117 1)),(33,0,T 108 true (kXi 119 118 3 0)),(34,0,T 108 true (J 120 119 3)),(35,0,T 108 true (kC 121 92 [(kt 109),(kt 116),(kt 120)])),(36,0,kPf 122 108 121),(37,0,M 6 122)]) kr) ks)) (Z (G [D 123 5 0,L 124 123 1,kQi 125 124 2 true,M 126 125,T 126 false (D 127 5 1),T 126 false (L 128 127 1),T 126 false (kQi 129 128 0 true),kPt 130 126 129,M 131 130,T 131 false (D 132 5 2),T 131 false (L 133 132 1),T 131 false (kN 134 133),T 131 false (D 135 7 8),T 131 false (L 136 135 1),
 T 131 false (kN 137 136),T 131 false (kQ 138 134 137 true),kPt 139 131 138] (Y 139 (G [kMb 6 false] kr) ks)) (Z (G [D 140 5 2,L 141 140 1,kN 142 141,kMi 143 0] (K.block 1 (K.loop (G [kB 144 143 142 .lss] (Z (Y 144 ks (K.exit 1)) (Z (K.block 2 (G [M 145 143,kX 146 141 143 3,J 147 146 3,kZ 10 [ki,ki,kl],M 9 145,S 10 147 3] (Z (K.dops [(0,0,J 148 3 2),(1,0,D 149 7 8),(2,0,L 150 149 1),(3,0,M 151 9),(4,0,kX 152 150 151 11),(5,0,D 153 152 4),(6,0,J 154 153 5),(7,0,J 155 10 3),(8,0,kC 156 92 [(kt 148),(kt 154),(kt 155)]),(9,0,kR 157 156)]) (Y 157 (G [kMb 6 false] kr) ks)))) (K.ops [kBi 158 143 1 .add,M 143 158]))))))) (G [kMb 6 true] kr)))))))
theorem qI3:zL prog Tryz.f92.ntmps (Tryz.f92.body.getD .skip)=some qAD.erase:=by kernel_rfl
@[simp] theorem zY4:zA prog 92=true:=by kernel_rfl
def qAw:Entry:=⟨qAD,[.slot 6],false⟩
theorem zYU:jW prog 92 qAw:=⟨zY4,_,_,zA1,Tryz.func92,rfl,qI3,by kernel_rfl⟩
def zUT:K:=G [kO 3 0,kMb 4 false] (Z (K.dops [(0,0,J 5 1 2),(1,0,D 6 2 4),(2,0,L 7 6 1),(3,0,kXi 8 7 5 0),(4,0,J 9 8 5),(5,0,J 10 3 3),(6,0,kC 11 92 [(kt 5),(kt 9),(kt 10)]),(7,0,kR 12 11),(8,0,M 4 12)]) kr)
theorem qC2:zL prog Tryz.f128.ntmps (Tryz.f128.body.getD .skip)=some zUT.erase:=by kernel_rfl
@[simp] theorem zVB:zA prog 128=true:=by kernel_rfl
def zUH:Entry:=⟨zUT,[.slot 4],false⟩
theorem zWr:jW prog 128 zUH:=⟨zVB,_,_,zA1,Tryz.func128,rfl,qC2,by kernel_rfl⟩
def qAX:K:=G [kO 2 0,kO 3 1,kMb 4 false] (Z (G [kMi 5 1] (K.block 0 (K.loop (Z (G [M 8 5,kBi 9 8 24 .leq] (Y 9 ks (K.exit 0))) (Z (K.block 1 (G [D 12 3 0,L 13 12 1] (K.block 2 (Z (G [kQi 15 13 0 false,M 14 15] (Y 14 ks (K.ops [kQi 16 13 1 false,M 14 16]))) (Y 14 (G [D 17 3 1,J 18 17 3,kb 19 [ki,ki,ki] [],⟨none,.eqs (some 20) false [.i,.i,.i] (kt 18) (kt 19)⟩,M 21 20,T 21 true (D 22 3 4),T 21 true (L 23 22 1),T 21 true (kN 24 23),T 21 true (kQi 25 24 0 false),kPf 26 21 25,M 4 26] kr) (G [kQi 28 13 3 false,M 27 28] (Y 27 (G [J 30 2 2,D 31 3 1,J 32 31 3,kC 33 42 [(kt 30),(kt 32)],M 29 33,kE 34 29 0,kE 35 29 1,kZ 6 kz0,S 6 34 31,M 7 35] (G [M 36 7,M 37 36,T 37 true (D 38 6 3),T 37 true (L 39 38 1),T 37 true (kQi 40 39 0 false),T 37 true (M 41 40),T 41 false (D 42 6 3),T 41 false (L 43 42 1),T 41 false (kQi 44 43 1 false),T 37 true (kPt 45 41 44),kPf 46 37 45,M 47 46,T 47 true (D 48 3 4),T 47 true (L 49 48 1),T 47 true (kN 50 49),T 47 true (kQi 51 50 0 false),kPf 52 47 51,M 4 52] kr)) (G [kQi 54 13 2 false,M 53 54] (Y 53 (Z (G [D 55 3 1,J 56 55 3,kb 57 [ki,ki,ki] [],⟨none,.eqs (some 58) true [.i,.i,.i] (kt 56) (kt 57)⟩,M 59 58,T 59 false (D 60 3 4),T 59 false (L 61 60 1),T 59 false (kN 62 61),T 59 false (kQi 63 62 1 true),kPt 64 59 63] (Y 64 (G [kMb 4 false] kr) ks)) (K.ops [D 65 3 4,L 66 65 1,kXi 67 66 5 0,J 68 67 5,S 3 68 5])) (G [kMb 4 false] kr)))))))))) (K.ops [M 10 5,kBi 11 10 1 .add,M 5 11])))))) (G [kMb 4 false] kr))
theorem qIP:zL prog Tryz.f127.ntmps (Tryz.f127.body.getD .skip)=some qAX.erase:=by kernel_rfl
@[simp] theorem zYA:zA prog 127=true:=by kernel_rfl
def qA1:Entry:=⟨qAX,[.slot 4],false⟩
theorem zYZ:jW prog 127 qA1:=⟨zYA,_,_,zA1,Tryz.func127,rfl,qIP,by kernel_rfl⟩
def zVk:K:=G [kO 4 1] (Z (G [D 12 4 4,L 13 12 1,kN 14 13,kMi 15 0] (K.block 0 (K.loop (G [kB 16 15 14 .lss] (Z (Y 16 ks (K.exit 0)) (Z (K.block 1 (G [kX 17 13 15 5,J 18 17 5,kZ 7 kz2,S 7 18 5] (K.ops [M 19 0,J 20 7 5,M 21 2,kC 22 46 [(kt 19),(kt 20),(kt 21)]]))) (K.ops [kBi 23 15 1 .add,M 15 23]))))))) (Z (G [D 24 4 0,L 25 24 1,kQi 26 25 3 true,M 27 26,T 27 false (M 28 2),T 27 false (D 29 4 1),T 27 false (J 30 29 3),⟨some (27,false),.mop (some 31) (.get 3 (.bool false) false) [(kt 28),(kt 30)]⟩,kPt 32 27 31] (Y 32 kr ks)) (G [M 33 2,D 34 4 1,J 35 34 3,⟨none,.mop none (.set 3) [(kt 33),(kt 35),(.const (.bool true))]⟩] (Z (K.dops [(0,0,M 37 0),(1,0,kU 38 37),(2,1,D 39 38 0),(3,1,J 40 39 2),(4,1,D 41 4 1),(5,1,J 42 41 3),(6,1,kC 43 42 [(kt 40),(kt 42)]),(7,0,M 36 43),(8,0,kE 44 36 0),(9,0,kE 45 36 1),(10,0,kZ 8 kz0),(11,0,S 8 44 31),(12,0,M 9 45)]) (G [M 46 9] (Y 46 (Z (K.dops [(0,0,M 47 0),(1,0,kU 48 47),(2,0,D 49 48 4),(3,0,L 50 49 1),(4,0,D 51 8 0),(5,0,J 52 51 3),(6,4,⟨none,.call (some 53) (kt 50) [(.const (.bool true)),(kt 52)]⟩)]) (G [D 54 8 8,L 55 54 1,kN 56 55,kMi 57 0] (K.block 2 (K.loop (G [kB 58 57 56 .lss] (Z (Y 58 ks (K.exit 2)) (Z (K.block 3 (G [kX 59 55 57 11,J 60 59 11,kZ 11 kz5,S 11 60 11] (K.ops [M 61 0,D 62 11 4,J 63 62 5,M 64 2,kC 65 46 [(kt 61),(kt 63),(kt 64)]]))) (K.ops [kBi 66 57 1 .add,M 57 66])))))))) ks))))))
def zWM:Nat→Option (List (Nat×Nat)):=fun r=>match r with | 10=>some [(0,0),(1,0),(2,0),(3,0),(4,0),(5,0),(6,4)] | _=>none
theorem qC5:qD prog Tryz.f46.ntmps zWM (Tryz.f46.body.getD .skip)=some zVk.erase:=by kernel_rfl
@[simp] theorem zVD:zA prog 46=true:=by kernel_rfl
def zUJ:Entry:=⟨zVk,[],false⟩
theorem zWt:jW prog 46 zUJ:=⟨zVD,_,_,zWM,Tryz.func46,rfl,qC5,by kernel_rfl⟩
def qA4:K:=G [kO 4 1,kZ 6 [ki,ki,kl]] (Z (G [M 10 0,kU 11 10,D 12 11 3,L 13 12 1,kQi 14 13 0 true] (Y 14 (G [kb 15 [ki,ki,kl] [],S 6 15 3] kr) ks)) (Z (K.dops [(0,0,M 16 0),(1,0,kU 17 16),(2,0,D 18 17 4),(3,0,L 19 18 1),(4,0,D 20 4 0),(5,0,J 21 20 3),(6,4,⟨none,.call (some 22) (kt 19) [(.const (.bool true)),(kt 21)]⟩)]) (G [⟨none,.mop (some 23) (.mk 4) []⟩,M 7 23] (Z (G [D 24 4 8,L 25 24 1,kN 26 25,kMi 27 0] (K.block 0 (K.loop (G [kB 28 27 26 .lss] (Z (Y 28 ks (K.exit 0)) (Z (K.block 1 (G [M 29 27,kX 30 25 27 11,J 31 30 11,kZ 9 kz5,M 8 29,S 9 31 11] (K.dops [(0,0,M 32 7),(1,0,D 33 9 0),(2,0,J 34 33 3),(3,0,kb 35 zGW [(0,3,(kt 34)),(3,1,(kc 0))]),(4,0,M 36 2),(5,0,M 37 8),(6,0,kX 38 36 37 3),(7,0,J 39 38 3),(8,0,⟨none,.mop none (.set 4) [(kt 32),(kt 35),(kt 39)]⟩)]))) (K.ops [kBi 40 27 1 .add,M 27 40]))))))) (G [M 41 0,D 42 4 14,J 43 42 15,M 44 7,kC 45 93 [(kt 41),(kt 43),(kt 44)],S 6 45 3] kr)))))
def qB3:Nat→Option (List (Nat×Nat)):=fun r=>match r with | 3=>some [(0,0),(1,0),(2,0),(3,0),(4,0),(5,0),(6,4)] | _=>none
theorem qIr:qD prog Tryz.f47.ntmps qB3 (Tryz.f47.body.getD .skip)=some qA4.erase:=by kernel_rfl
@[simp] theorem zYx:zA prog 47=true:=by kernel_rfl
def qAq:Entry:=⟨qA4,[.cell 6 3 true],true⟩
theorem zYO:jW prog 47 qAq:=⟨zYx,_,_,qB3,Tryz.func47,rfl,qIr,by kernel_rfl⟩
def qAC:K:=G [kO 4 1,kZ 6 [ki,ki,kl]] (Z (G [M 8 0,kU 9 8,D 10 9 3,L 11 10 1,kQi 12 11 0 true] (Y 12 (G [kb 13 [ki,ki,kl] [],S 6 13 3] kr) ks)) (Z (G [M 14 0,kU 15 14,D 16 15 2,L 17 16 1,kBi 18 17 0 .leq] (Y 18 (G [M 19 0,kU 20 19,D 21 20 3,⟨none,.st none (kt 21) (kc 18) 1⟩] (G [kb 22 [ki,ki,kl] [],S 6 22 3] kr)) ks)) (G [M 23 0,kU 24 23,D 25 24 2,L 26 25 1,kBi 27 26 1 .sub,kU 28 23,D 29 28 2,S 29 27 1] (Z (K.dops [(0,0,M 30 0),(1,0,kU 31 30),(2,0,D 32 31 4),(3,0,L 33 32 1),(4,0,D 34 4 0),(5,0,J 35 34 3),(6,4,⟨none,.call (some 36) (kt 33) [(.const (.bool false)),(kt 35)]⟩)]) (G [M 37 0,J 38 4 15,M 39 2,kC 40 129 [(kt 37),(kt 38),(kt 39)],kZ 7 [ki,ki,kl],S 7 40 3] (Z (G [M 41 0,kU 42 41,D 43 42 3,L 44 43 1,kQi 45 44 0 false,M 46 45,T 46 true (J 47 7 3),T 46 true (kC 48 130 [(kt 47)]),T 46 true (kBi 49 48 256 .gtr),T 46 true (M 50 49),T 50 false (J 51 7 3),T 50 false (kC 52 131 [(kt 51)]),T 50 false (kBi 53 52 24 .gtr),T 46 true (kPt 54 50 53),kPf 55 46 54] (Y 55 (K.ops [M 56 0,kU 57 56,D 58 57 3,⟨none,.st none (kt 58) (kc 4) 1⟩]) ks)) (G [J 59 7 3,S 6 59 3] kr)))))))
def qB5:Nat→Option (List (Nat×Nat)):=fun r=>match r with | 7=>some [(0,0),(1,0),(2,0),(3,0),(4,0),(5,0),(6,4)] | _=>none
theorem qI2:qD prog Tryz.f93.ntmps qB5 (Tryz.f93.body.getD .skip)=some qAC.erase:=by kernel_rfl
@[simp] theorem zY3:zA prog 93=true:=by kernel_rfl
def qAv:Entry:=⟨qAC,[.cell 6 3 true],true⟩
theorem zYT:jW prog 93 qAv:=⟨zY3,_,_,qB5,Tryz.func93,rfl,qI2,by kernel_rfl⟩
def zVr:K:=G [kO 4 1,kZ 6 [ki,ki,kl]] (Z (G [D 12 4 3,L 13 12 1] (K.block 0 (G [kQi 15 13 0 false,M 14 15] (Y 14 (G [D 16 4 4,L 17 16 1,kb 18 [ki,ki,kl] [(0,1,(kc 0)),(1,1,(kt 17))],S 6 18 3] kr) (G [kQi 20 13 1 false,M 19 20] (Y 19 (G [D 21 4 4,L 22 21 1,kb 23 [ki,ki,kl] [(0,1,(kc 1)),(1,1,(kt 22))],S 6 23 3] kr) (G [kQi 25 13 2 false,M 24 25] (Y 24 (G [M 26 2,D 27 4 5,J 28 27 3,D 29 4 4,L 30 29 1,kb 31 zGW [(0,3,(kt 28)),(3,1,(kt 30))],⟨none,.mop (some 32) (.get 4 (.agg #[ki,ki,kl]) false) [(kt 26),(kt 31)]⟩,S 6 32 3] kr) (Z (G [kQi 34 13 5 false,M 33 34] (Y 33 ks (G [kQi 35 13 6 false,M 33 35] (Y 33 ks (G [kQi 36 13 8 false,M 33 36] (Y 33 ks (G [kQi 37 13 10 false,M 33 37] (Y 33 ks (K.ops [kQi 38 13 12 false,M 33 38]))))))))) (Y 33 (G [M 39 0,J 40 4 15,M 41 2,kC 42 144 [(kt 39),(kt 40),(kt 41)],S 6 42 3] kr) ks)))))))))) (G [kMn 7] (Z (G [D 43 4 13,L 44 43 1,kN 45 44,kMi 46 0] (K.block 1 (K.loop (G [kB 47 46 45 .lss] (Z (Y 47 ks (K.exit 1)) (Z (K.block 2 (G [kX 48 44 46 15,J 49 48 15,kZ 9 kz1,S 9 49 15] (K.ops [M 50 7,M 51 0,J 52 9 15,M 53 2,kC 54 93 [(kt 51),(kt 52),(kt 53)],kd 55 47 3 1 [ki,ki,kl] [(0,3,(kt 54))],kP 56 47 3 40 50 55,M 7 56]))) (K.ops [kBi 57 46 1 .add,M 46 57]))))))) (Z (Z (K.wk (K.wk (K.ops [M 58 0,kU 59 58,D 60 59 3,L 61 60 1,kQi 62 61 0 true]))) (Y 62 (G [kb 63 [ki,ki,kl] [],S 6 63 3] kr) ks)) (Z (G [D 64 4 3,L 65 64 1] (K.block 3 (G [kQi 67 65 3 false,M 66 67] (Y 66 (Z (K.dops [(0,0,M 69 0),(1,0,kU 70 69),(2,1,D 71 70 0),(3,1,J 72 71 2),(4,1,D 73 4 5),(5,1,
 J 74 73 3),(6,1,kC 75 42 [(kt 72),(kt 74)]),(7,0,M 68 75),(8,0,kE 76 68 0),(9,0,kE 77 68 1),(10,0,kZ 10 kz0),(11,0,S 10 76 31),(12,0,M 11 77)]) (G [M 78 0,J 79 10 31,M 80 7,kC 81 47 [(kt 78),(kt 79),(kt 80)],S 6 81 3] kr)) (G [kQi 83 65 4 false,M 82 83] (Y 82 (G [D 84 4 4,L 85 84 1,M 86 7,kC 87 145 [(kt 85),(kt 86)],S 6 87 3] kr) (G [kQi 89 65 7 false,M 88 89] (Y 88 (G [M 90 7,kb 91 [ki,ki,kl] [(0,1,(kc 2)),(2,1,(kt 90))],S 6 91 3] kr) (G [kQi 93 65 9 false,M 92 93] (Y 92 (G [D 94 4 4,L 95 94 1,M 96 7,kb 97 [ki,ki,kl] [(0,1,(kc 3)),(1,1,(kt 95)),(2,1,(kt 96))],S 6 97 3] kr) ks)))))))))) (G [M 98 7,kb 99 [ki,ki,kl] [(0,1,(kc 4)),(2,1,(kt 98))],S 6 99 3] kr))))))
theorem qCC:zL prog Tryz.f129.ntmps (Tryz.f129.body.getD .skip)=some zVr.erase:=by kernel_rfl
@[simp] theorem zVJ:zA prog 129=true:=by kernel_rfl
def zUO:Entry:=⟨zVr,[.cell 6 3 true],true⟩
theorem zWy:jW prog 129 zUO:=⟨zVJ,_,_,zA1,Tryz.func129,rfl,qCC,by kernel_rfl⟩
def zSd:K:=G [kO 4 1,kZ 6 [ki,ki,kl]] (G [M 13 0,D 14 4 13,L 15 14 1,kXi 16 15 15 0,J 17 16 15,M 18 2,kC 19 93 [(kt 13),(kt 17),(kt 18)],kZ 7 [ki,ki,kl],S 7 19 3] (Z (G [M 20 0,kU 21 20,D 22 21 3,L 23 22 1,kQi 24 23 0 true] (Y 24 (G [kb 25 [ki,ki,kl] [],S 6 25 3] kr) ks)) (Z (G [D 26 4 3,L 27 26 1] (K.block 0 (G [kQi 29 27 5 false,M 28 29] (Y 28 (Z (G [D 30 7 1,L 31 30 1,kQi 32 31 1 false] (Y 32 (G [M 33 0,D 34 4 13,L 35 34 1,kXi 36 35 15 1,J 37 36 15,M 38 2,kC 39 93 [(kt 33),(kt 37),(kt 38)],S 6 39 3] kr) ks)) (G [M 40 0,D 41 4 13,L 42 41 1,kXi 43 42 15 2,J 44 43 15,M 45 2,kC 46 93 [(kt 40),(kt 44),(kt 45)],S 6 46 3] kr)) (G [kQi 48 27 6 false,M 47 48] (Y 47 (Z (K.dops [(0,0,M 49 0),(1,0,D 50 4 13),(2,0,L 51 50 1),(3,0,kXi 52 51 15 1),(4,0,J 53 52 15),(5,0,M 54 2),(6,0,D 55 4 0),(7,0,J 56 55 3),(8,0,kb 57 zGW [(0,3,(kt 56)),(3,1,(kc 0))]),(9,0,J 58 7 3),(10,4,kC 59 166 [(kt 49),(kt 53),(kt 54),(kt 57),(kt 58)]),(11,0,S 6 59 3)]) kr) (G [kQi 61 27 8 false,M 60 61] (Y 60 (G [D 62 7 2,L 63 62 1,D 64 4 4,L 65 64 1,kX 66 63 65 3,J 67 66 3,S 6 67 3] kr) (G [kQi 69 27 10 false,M 68 69] (Y 68 (Z (K.dops [(0,0,M 70 0),(1,0,D 71 4 13),(2,0,L 72 71 1),(3,0,D 73 7 1),(4,0,L 74 73 1),(5,0,⟨none,.bin (some 75) .add (kc 1) (kt 74)⟩),(6,0,kX 76 72 75 15),(7,0,J 77 76 15),(8,0,M 78 2),(9,0,D 79 4 0),(10,0,J 80 79 3),(11,0,D 81 7 1),(12,0,L 82 81 1),(13,0,kb 83 zGW [(0,3,(kt 80)),(3,1,(kt 82))]),(14,0,D 84 7 2),(15,0,L 85 84 1),(16,0,kXi 86 85 3 0),(17,0,
 J 87 86 3),(18,4,kC 88 166 [(kt 70),(kt 77),(kt 78),(kt 83),(kt 87)]),(19,0,S 6 88 3)]) kr) ks)))))))))) (G [M 89 0,D 90 4 13,L 91 90 1,kXi 92 91 15 1,J 93 92 15,M 94 2,kC 95 93 [(kt 89),(kt 93),(kt 94)],kZ 8 [ki,ki,kl],S 8 95 3] (Z (G [D 96 7 2,L 97 96 1,kN 98 97,kMi 99 0] (K.block 1 (K.loop (G [kB 100 99 98 .lss] (Z (Y 100 ks (K.exit 1)) (Z (K.block 2 (G [kX 101 97 99 3,J 102 101 3,kZ 10 [ki,ki,kl],S 10 102 3] (G [J 103 8 3,kZ 11 [ki,ki,kl],S 11 103 3] (G [D 104 4 0,J 105 104 3,kb 106 zGW [(0,3,(kt 105)),(3,1,(kc 0))],kZ 12 zGW,S 12 106 4] (G [M 107 2,J 108 12 4,J 109 10 3,⟨none,.mop none (.set 4) [(kt 107),(kt 108),(kt 109)]⟩] (Z (K.dops [(0,0,M 110 0),(1,0,D 111 4 13),(2,0,L 112 111 1),(3,0,kXi 113 112 15 2),(4,0,J 114 113 15),(5,0,M 115 2),(6,0,D 116 4 0),(7,0,J 117 116 3),(8,0,kb 118 zGW [(0,3,(kt 117)),(3,1,(kc 1))]),(9,0,J 119 11 3),(10,4,kC 120 166 [(kt 110),(kt 114),(kt 115),(kt 118),(kt 119)]),(11,0,S 8 120 3)]) (K.ops [M 121 2,J 122 12 4,⟨none,.mop none (.del 4) [(kt 121),(kt 122)]⟩]))))))) (K.ops [kBi 123 99 1 .add,M 99 123]))))))) (G [J 124 8 3,S 6 124 3] kr))))))
def zS7:Nat→Option (List (Nat×Nat)):=fun r=>match r with | 10=>some [(0,0),(1,0),(2,0),(3,0),(4,0),(5,0),(6,0),(7,0),(8,0),(9,0),(10,4),(11,0)] | 14=>some [(0,0),(1,0),(2,0),(3,0),(4,0),(5,0),(6,0),(7,0),(8,0),(9,0),(10,0),(11,0),(12,0),(13,0),(14,0),(15,0),(16,0),(17,0),(18,4),(19,0)] | 22=>some [(0,0),(1,0),(2,0),(3,0),(4,0),(5,0),(6,0),(7,0),(8,0),(9,0),(10,4),(11,0)] | _=>none
theorem zYr:qD prog Tryz.f144.ntmps zS7 (Tryz.f144.body.getD .skip)=some zSd.erase:=by kernel_rfl
@[simp] theorem zTw:zA prog 144=true:=by kernel_rfl
def zSa:Entry:=⟨zSd,[.cell 6 3 true],true⟩
theorem zTA:jW prog 144 zSa:=⟨zTw,_,_,zS7,Tryz.func144,rfl,zYr,by kernel_rfl⟩
def qAZ:K:=G [kO 6 1,kO 8 3,kO 9 4,kZ 10 [ki,ki,kl]] (G [M 15 2,J 16 8 4,⟨none,.mop (some 17) (.get 4 (.agg #[ki,ki,kl]) true) [(kt 15),(kt 16)]⟩,M 14 17,kE 18 14 0,kE 19 14 1,kZ 11 [ki,ki,kl],S 11 18 3,M 12 19] (G [M 20 2,J 21 8 4,J 22 9 3,⟨none,.mop none (.set 4) [(kt 20),(kt 21),(kt 22)]⟩] (G [M 23 0,J 24 6 15,M 25 2,kC 26 93 [(kt 23),(kt 24),(kt 25)],kZ 13 [ki,ki,kl],S 13 26 3] (G [M 27 2,J 28 8 4,⟨none,.mop none (.del 4) [(kt 27),(kt 28)]⟩] (Z (G [M 29 12] (Y 29 (K.ops [M 30 2,J 31 8 4,J 32 11 3,⟨none,.mop none (.set 4) [(kt 30),(kt 31),(kt 32)]⟩]) ks)) (G [J 33 13 3,S 10 33 3] kr))))))
theorem qIR:zL prog Tryz.f166.ntmps (Tryz.f166.body.getD .skip)=some qAZ.erase:=by kernel_rfl
@[simp] theorem zYB:zA prog 166=true:=by kernel_rfl
def qA2:Entry:=⟨qAZ,[.cell 10 3 true],true⟩
theorem zZa:jW prog 166 qA2:=⟨zYB,_,_,zA1,Tryz.func166,rfl,qIR,by kernel_rfl⟩
def qAQ:K:=G [kO 1 0,kMi 2 0] (G [kMi 3 1] (Z (G [D 6 1 2,L 7 6 1,kN 8 7,kMi 9 0] (K.block 0 (K.loop (G [kB 10 9 8 .lss] (Z (Y 10 ks (K.exit 0)) (Z (K.block 1 (G [kX 11 7 9 3,J 12 11 3,kZ 5 [ki,ki,kl],S 5 12 3] (K.ops [M 13 3,J 14 5 3,kC 15 130 [(kt 14)],kB 16 13 15 .add,M 3 16]))) (K.ops [kBi 17 9 1 .add,M 9 17]))))))) (G [M 18 3,M 2 18] kr)))
theorem qIG:zL prog Tryz.f130.ntmps (Tryz.f130.body.getD .skip)=some qAQ.erase:=by kernel_rfl
@[simp] theorem zY9:zA prog 130=true:=by kernel_rfl
def qA0:Entry:=⟨qAQ,[.slot 2],false⟩
theorem zYY:jW prog 130 qA0:=⟨zY9,_,_,zA1,Tryz.func130,rfl,qIG,by kernel_rfl⟩
def qA7:K:=G [kO 1 0,kMi 2 0] (G [kMi 3 0] (Z (G [D 6 1 2,L 7 6 1,kN 8 7,kMi 9 0] (K.block 0 (K.loop (G [kB 10 9 8 .lss] (Z (Y 10 ks (K.exit 0)) (Z (K.block 1 (G [kX 11 7 9 3,J 12 11 3,kZ 5 [ki,ki,kl],S 5 12 3] (K.ops [M 13 3,J 14 5 3,kC 15 131 [(kt 14)],⟨none,.mm (some 16) true [(kt 13),(kt 15)]⟩,M 3 16]))) (K.ops [kBi 17 9 1 .add,M 9 17]))))))) (G [M 18 3,kBi 19 18 1 .add,M 2 19] kr)))
theorem qIu:zL prog Tryz.f131.ntmps (Tryz.f131.body.getD .skip)=some qA7.erase:=by kernel_rfl
@[simp] theorem zY1:zA prog 131=true:=by kernel_rfl
def qAt:Entry:=⟨qA7,[.slot 2],false⟩
theorem zYR:jW prog 131 qAt:=⟨zY1,_,_,zA1,Tryz.func131,rfl,qIu,by kernel_rfl⟩
def qHw:K:=G [kZ 4 [ki,ki,kl]] (Z (G [M 7 0,kBi 8 7 0 .geq,M 9 8,T 9 true (M 10 0),T 9 true (kBi 11 10 5 .lss),kPf 12 9 11,M 13 12,T 13 true (M 14 1),T 13 true (kN 15 14),T 13 true (kQi 16 15 2 false),kPf 17 13 16] (Y 17 (Z (K.dops [(0,0,M 18 0),(1,0,⟨none,.idxarr (some 19) (.global 0) (kt 18) 5 1⟩),(2,0,L 20 19 1),(3,0,M 21 1),(4,0,kXi 22 21 3 0),(5,0,D 23 22 1),(6,0,L 24 23 1),(7,0,M 25 1),(8,0,kXi 26 25 3 1),(9,0,D 27 26 1),(10,0,L 28 27 1),(11,0,⟨none,.call (some 29) (kt 20) [(kt 24),(kt 28)]⟩),(12,0,kb 30 [ki,ki,kl] [(1,1,(kt 29))]),(13,0,S 4 30 3)]) kr) ks)) (Z (K.block 0 (G [M 32 0,kQi 33 32 9 false,M 34 33,T 34 true (M 35 1),T 34 true (kN 36 35),T 34 true (kQi 37 36 1 false),kPf 38 34 37,M 31 38] (Y 31 (G [M 39 1,kXi 40 39 3 0,D 41 40 1,L 42 41 1,kQi 43 42 0 false,kC 44 162 [(kt 43)],S 4 44 3] kr) (G [M 46 0,kQi 47 46 11 false,M 48 47,T 48 true (M 49 1),T 48 true (kN 50 49),T 48 true (kQi 51 50 1 false),kPf 52 48 51,M 45 52] (Y 45 (G [M 53 1,kXi 54 53 3 0,D 55 54 2,L 56 55 1,kN 57 56,kb 58 [ki,ki,kl] [(1,1,(kt 57))],S 4 58 3] kr) (G [M 60 1,kN 61 60,kQi 62 61 2 true,M 59 62] (Y 59 (G [kb 63 [ki,ki,kl] [],S 4 63 3] kr) ks))))))) (Z (K.wk (K.dops [(0,0,M 64 1),(1,2,kXi 65 64 3 0),(2,2,J 66 65 3),(3,0,M 67 1),(4,2,kXi 68 67 3 1),(5,2,J 69 68 3),(6,301,⟨none,.alr (some 5) 1 [ki,ki,kl]⟩),(7,302,⟨none,.alr (some 6) 2 [ki,ki,kl]⟩),(8,0,S 5 66 3),(9,0,S 6 69 3)])) (Z (G [M 70 0] (K.block 1 (G [kQi 72 70 5 false,M 71 72] (Y 71 (G [D 73 5 1,L 74 73 1,D 75 6 1,
 L 76 75 1,kB 77 74 76 .lss,kC 78 162 [(kt 77)],S 4 78 3] kr) (G [kQi 80 70 6 false,M 79 80] (Y 79 (G [J 81 5 3,J 82 6 3,kC 83 167 [(kt 81),(kt 82)],kQi 84 83 0 false,kC 85 162 [(kt 84)],S 4 85 3] kr) (G [kQi 87 70 7 false,M 86 87] (Y 86 (G [D 88 5 1,L 89 88 1,kQi 90 89 0 true,M 91 90,T 91 true (D 92 6 1),T 91 true (L 93 92 1),T 91 true (kQi 94 93 0 true),kPf 95 91 94,kC 96 162 [(kt 95)],S 4 96 3] kr) (G [kQi 98 70 8 false,M 97 98] (Y 97 (G [D 99 5 1,L 100 99 1,kQi 101 100 0 true,M 102 101,T 102 false (D 103 6 1),T 102 false (L 104 103 1),T 102 false (kQi 105 104 0 true),kPt 106 102 105,kC 107 162 [(kt 106)],S 4 107 3] kr) (G [kQi 109 70 10 false,M 108 109] (Y 108 (G [D 110 5 2,L 111 110 1,D 112 6 2,L 113 112 1,kd 114 40 1 2 [kl,kl] [(0,1,(kt 111)),(1,1,(kt 113))],kC 115 168 [(kt 114)],kC 116 113 [(kt 115)],kb 117 [ki,ki,kl] [(0,1,(kc 4)),(2,1,(kt 116))],S 4 117 3] kr) ks)))))))))))) (G [kb 118 [ki,ki,kl] [],S 4 118 3] kr)))))
def qJ9:Nat→Option (List (Nat×Nat)):=fun r=>match r with | 9=>some [(0,0),(1,2),(2,2),(3,0),(4,2),(5,2),(6,301),(7,302),(8,0),(9,0)] | _=>none
theorem qOs:qD prog Tryz.f145.ntmps qJ9 (Tryz.f145.body.getD .skip)=some qHw.erase:=by kernel_rfl
@[simp] theorem qCK:zA prog 145=true:=by kernel_rfl
def qGR:Entry:=⟨qHw,[.cell 4 3 true],false⟩
theorem qDv:jW prog 145 qGR:=⟨qCK,_,_,qJ9,Tryz.func145,rfl,qOs,by kernel_rfl⟩
def zVp:K:=G [kZ 2 [ki,ki,kl]] (Z (G [M 3 0] (Y 3 (G [kb 4 [ki,ki,kl] [(0,1,(kc 1)),(1,1,(kc 1))],S 2 4 3] kr) ks)) (G [kb 5 [ki,ki,kl] [(0,1,(kc 1))],S 2 5 3] kr))
theorem qCA:zL prog Tryz.f162.ntmps (Tryz.f162.body.getD .skip)=some zVp.erase:=by kernel_rfl
@[simp] theorem zVH:zA prog 162=true:=by kernel_rfl
def zUM:Entry:=⟨zVp,[.cell 2 3 true],false⟩
theorem zWw:jW prog 162 zUM:=⟨zVH,_,_,zA1,Tryz.func162,rfl,qCA,by kernel_rfl⟩
def qLg:List (Nat×Entry):=[(13,qAr),(44,qAz),(42,qGP),(89,qAx),(90,qAu),
 (43,zRZ),(45,zUN),(91,zUL),(124,zSb),(125,qAs),(143,qAy),
 (126,zO7),(92,qAw),(128,zUH),(127,qA1),(46,zUJ),(47,qAq),(93,qAv),
 (129,zUO),(144,zSa),(166,qA2),(130,qA0),(131,qAt),(145,qGR),(162,zUM)]
theorem qAe:∀f e,zEw f qLg=some e→jW prog f e :=
 yB zYP (yB zYX (yB qDt (yB zYV (yB zYS (yB zT9 (yB zWx (yB zWv (yB zTB (yB zYQ (yB zYW
 (yB zRa (yB zYU (yB zWr (yB zYZ (yB zWt (yB zYO (yB zYT (yB zWy (yB zTA (yB zZa (yB zYY (yB zYR (yB qDv (yB zWw qAg))))))))))))))))))))))))
def zQT:List A→Option (List Id)
 | []=>some []
 | .lit (.int .i64 a)::.lit (.int .i64 b)::.lit (.int .i64 c)::l=>match zQT l with
  | some r=>some (⟨a,b,c⟩::r)
  | none=>none
 | _=>none
theorem zET:∀{cs:List A} {l:List Id},zQT cs=some l→cs=qE l:=by
 intro cs
 fun_induction zQT cs with
 | case1=>intro l h; cases h; rfl
 | case2 a b c cs r hr ih=>intro l h; cases h; rw[ih hr]; rfl
 | case3 a b c cs hr ih=>intro l h; cases h
 | case4=>intro l h; cases h
def qEf:Run:=fun f xs σ=>match Nat.beq f 48,xs,σ with
 | true,[.sl n cs],[]=>(match zQT cs with
  | some l=>if n=l.length∧l.length≤1000000 then some (.sl (l.foldl zFE []).length (qE (l.foldl zFE [])),[]) else none
  | none=>none)
 | _,_,_=>none
@[simp] theorem zY8:zA prog 48=true:=by kernel_rfl
theorem zZS:zA3 prog qEf:=by
 intro f xs σ r σ' h;unfold qEf at h;split at h<;>try (cases h; done)
 rename_i n cs hf;split at h<;>try (cases h; done)
 rename_i l hl;split at h<;>try (cases h; done)
 rename_i hc;cases h;have hf':=jC2 hf;subst hf';refine⟨zY8,?_⟩;rw[zET hl,hc.1,←zO0];exact zJu l hc.2
def qAO:K:=G [kO 1 0,kZ 2 [(.map none),(.map none)]] (G [⟨none,.mop (some 9) (.mk 3) []⟩,⟨none,.mop (some 10) (.mk 3) []⟩,kb 11 [(.map none),(.map none)] [(0,1,(kt 9)),(1,1,(kt 10))],kZ 3 [(.map none),(.map none)],S 3 11 2] (G [kZ 4 [.nilFunc]] (G [⟨none,.clo (some 12) 103 [] [(kt 3),(kt 4)]⟩,S 4 12 1] (Z (G [D 13 1 1,L 14 13 1,kN 15 14,kMi 16 0] (K.block 0 (K.loop (G [kB 17 16 15 .lss] (Z (Y 17 ks (K.exit 0)) (Z (K.block 1 (G [kX 18 14 16 31,J 19 18 31,kZ 6 kz0,S 6 19 31] (Z (G [D 21 3 0,L 22 21 1,D 23 6 0,J 24 23 3,⟨none,.mop (some 25) (.get 3 (.agg #[ki,ki,ki,ki,ki,ki,ki,(.string ⟨#[]⟩),kl,ki,ki,ki,ki,kl,ki,ki,ki,ki,ki,ki,ki,ki,ki,ki,ki,ki,kl,kl,kl,ki,kl]) true) [(kt 22),(kt 24)]⟩,M 20 25,kE 26 20 0,kE 27 20 1,kZ 7 kz0,S 7 26 31,M 8 27] (G [M 28 8,kR 29 28] (Y 29 (K.ops [D 30 3 0,L 31 30 1,D 32 6 0,J 33 32 3,J 34 6 31,⟨none,.mop none (.set 3) [(kt 31),(kt 33),(kt 34)]⟩]) ks))) (G [J 35 6 31,kC 36 43 [(kt 35)]] (Y 36 (K.ops [L 37 4 1,D 38 6 14,J 39 38 15,⟨none,.call (some 40) (kt 37) [(kt 39)]⟩]) ks))))) (K.ops [kBi 41 16 1 .add,M 16 41]))))))) (G [J 42 3 2,S 2 42 2] kr)))))
theorem qIE:zL prog Tryz.f55.ntmps (Tryz.f55.body.getD .skip)=some qAO.erase:=by kernel_rfl
@[simp] theorem qLY:zA prog 55=true:=by kernel_rfl
def zVs:K:=G [kO 3 0] (Z (G [D 9 1 1,L 10 9 1,D 11 3 0,J 12 11 3,⟨none,.mop (some 13) (.get 3 (.agg #[ki,ki,ki,ki,ki,ki,ki,ki,ki,ki,ki,ki,kl,kl,kl]) true) [(kt 10),(kt 12)]⟩,M 8 13,kE 14 8 0,kE 15 8 1,kZ 4 kz1,S 4 14 15,M 5 15] (G [M 16 5,kR 17 16] (Y 17 (K.ops [D 18 1 1,L 19 18 1,D 20 3 0,J 21 20 3,J 22 3 15,⟨none,.mop none (.set 3) [(kt 19),(kt 21),(kt 22)]⟩]) ks))) (G [D 23 3 13,L 24 23 1,kN 25 24,kMi 26 0] (K.block 0 (K.loop (G [kB 27 26 25 .lss] (Z (Y 27 ks (K.exit 0)) (Z (K.block 1 (G [kX 28 24 26 15,J 29 28 15,kZ 7 kz1,S 7 29 15] (K.ops [L 30 2 1,J 31 7 15,⟨none,.call (some 32) (kt 30) [(kt 31)]⟩]))) (K.ops [kBi 33 26 1 .add,M 26 33]))))))))
theorem qCD:zL prog Tryz.f103.ntmps (Tryz.f103.body.getD .skip)=some zVs.erase:=by kernel_rfl
@[simp] theorem qJe:zA prog 103=true:=by kernel_rfl
def zE:List A:=[.lit (.int .i64 0),.lit (.int .i64 0),.lit (.int .i64 0),.lit (.int .i64 0),.lit (.int .i64 0),.lit (.int .i64 0),.lit (.int .i64 0),.lit (.int .i64 0),.lit (.int .i64 0),.lit (.int .i64 0),.lit (.int .i64 0),.lit (.int .i64 0),.nil,.nil,.nil]
def zD:List A:=[.lit (.int .i64 0),.lit (.int .i64 0),.lit (.int .i64 0),.lit (.int .i64 0),.lit (.int .i64 0),.lit (.int .i64 0),.lit (.int .i64 0),.lit (.string ⟨#[]⟩),.nil,.lit (.int .i64 0),.lit (.int .i64 0),.lit (.int .i64 0),.lit (.int .i64 0),.nil,.lit (.int .i64 0),.lit (.int .i64 0),.lit (.int .i64 0),.lit (.int .i64 0),.lit (.int .i64 0),.lit (.int .i64 0),.lit (.int .i64 0),.lit (.int .i64 0),.lit (.int .i64 0),.lit (.int .i64 0),.lit (.int .i64 0),.lit (.int .i64 0),.nil,.nil,.nil,.lit (.int .i64 0),.nil]
@[simp] theorem qFu {z:Value}{a:A}:zFY z true (some a)=.tup [a,.lit (.bool true)]:=rfl
@[simp] theorem qDD:zFY (.agg #[(.int .i64 0),(.int .i64 0),(.int .i64 0),(.int .i64 0),(.int .i64 0),(.int .i64 0),(.int .i64 0),(.int .i64 0),(.int .i64 0),(.int .i64 0),(.int .i64 0),(.int .i64 0),(.slice none 0 0),(.slice none 0 0),(.slice none 0 0)]) true none=.tup [.agg zE,.lit (.bool false)]:=by kernel_rfl
@[simp] theorem qDC:zFY (.agg #[(.int .i64 0),(.int .i64 0),(.int .i64 0),(.int .i64 0),(.int .i64 0),(.int .i64 0),(.int .i64 0),(.string ⟨#[]⟩),(.slice none 0 0),(.int .i64 0),(.int .i64 0),(.int .i64 0),(.int .i64 0),(.slice none 0 0),(.int .i64 0),(.int .i64 0),(.int .i64 0),(.int .i64 0),(.int .i64 0),(.int .i64 0),(.int .i64 0),(.int .i64 0),(.int .i64 0),(.int .i64 0),(.int .i64 0),(.int .i64 0),(.slice none 0 0),(.slice none 0 0),(.slice none 0 0),(.int .i64 0),(.slice none 0 0)]) true none=.tup [.agg zD,.lit (.bool false)]:=by kernel_rfl
@[simp] theorem qR4:zE.length=15:=rfl
@[simp] theorem qR3:zD.length=31:=rfl
def zBI {α : Type}(idf : α→Id)(enc : α→List A)(l:List α):List (List Int×A):=l.map fun x=>(zBz (idf x),.agg (enc x))
def zAD {α : Type}(idf : α→Id)(l:List α)(i:Id):Option α:=l.find? fun x=>decide (idf x=i)
theorem zCo {α : Type}{idf : α→Id}{enc : α→List A}{i:Id}:∀(l:List α),zAL (zBz i) (zBI idf enc l)=(zAD idf l i).map fun x=>.agg (enc x)
 | []=>rfl
 | x::l=>by
  simp only[zBI,jAj,zAL,zAD,jBz];by_cases h:idf x=i
  ·simp[h]
  ·have h':¬zBz (idf x)=zBz i:=fun e=>h (zFZ.1 e)
   simp only[h',if_false,h,decide_false];exact zCo l
theorem zJn {α : Type}{idf : α→Id}{enc : α→List A}{x : α}:∀(l:List α),zAD idf l (idf x)=none→zD7 (zBz (idf x)) (.agg (enc x)) (zBI idf enc l)=zBI idf enc (l++[x])
 | [],_=>rfl
 | y::l,h=>by
  simp only[zAD,jBz]at h;split at h
  ·cases h
  ·rename_i hy;have h':¬zBz (idf y)=zBz (idf x):=fun e=>by have:=zFZ.1 e;simp[this]at hy
   simp only[zBI,jAj,zD7,h',if_false,jBi]
   congr 1
   exact zJn l h
@[simp] theorem zSG {α : Type}{idf : α→Id}{enc : α→List A}{rf:Bool→Nat→Nat→A}{g:Nat→Option Nat}(hp:∀x,jM (enc x))(l:List α):((zBI idf enc l).map fun p=>(p.1,vw rf g p.2))=zBI idf enc l:=by
 simp only[zBI,jCv];refine jCw fun x _=>?_
 simp[(hp x).2]
@[simp] theorem qMJ {rf:Bool→Nat→Nat→A}{g:Nat→Option Nat}(l:List Exp):((zBI Exp.id zF l).map fun p=>(p.1,vw rf g p.2))=zBI Exp.id zF l:=zSG zHs l
@[simp] theorem qMI {rf:Bool→Nat→Nat→A}{g:Nat→Option Nat}(l:List Dfn):((zBI Dfn.id zO l).map fun p=>(p.1,vw rf g p.2))=zBI Dfn.id zO l:=zSG zEV l
def zBy {α : Type}(idf : α→Id)(l:List α)(x : α):List α:=if (zAD idf l (idf x)).isSome then l else l++[x]
mutual
def zMD:Exp→List Exp→List Exp
 | .mk i k n r t l nm,N=>zDy l (zBy Exp.id N (.mk i k n r t l nm))
def zDy:List Exp→List Exp→List Exp
 | [],N=>N
 | e::l,N=>zDy l (zMD e N)
end
theorem zQ4 (e:Exp)(N:List Exp):zMD e N=zDy e.kids (zBy Exp.id N e):=by cases e; simp only[zMD,Exp.kids]
theorem zHB (x:Exp):∀(l:List Exp) (N:List Exp),zDy (l++[x]) N=zMD x (zDy l N)
 | [],N=>by simp only[jC6,zDy]
 | e::l,N=>by simp only[jBi,zDy,zHB x l]
def zCg (D:List Dfn)(N:List Exp):St:=[.box [.map 2,.map 3],.box [.clo 103 [] [.ptr 0 0,.ptr 1 0]],.mp true 3 (zBI Dfn.id zO D),.mp true 3 (zBI Exp.id zF N)]
mutual
theorem zMj:∀(e:Exp) (D:List Dfn) (N:List Exp),Ret prog 103 [.agg (zF e),.ptr 0 0,.ptr 1 0] (zCg D N) (.tup []) (zCg D (zMD e N))
 | .mk i k n r t l nm,D,N=>by
  have ih:=zNH l;generalize ha:Exp.mk i k n r t l nm=e;have hal:e.kids=l:=by rw[←ha]; rfl
  rw[←hal]at ih;refine zK Tryz.func103 rfl qCD (rs:=[]) (by kernel_rfl) ?_;unfold zVs;have hf:=zCo (i:=e.id) (enc:=zF) (idf:=Exp.id) N;simp only[zBz]at hf;cases hh:zAD Exp.id N e.id with
  | some x =>
   rw[hh]at hf;simp only[jBs]at hf;have hins:zBy Exp.id N e=N:=by simp[zBy,hh]
   simp[zCg,zF,hf];intro hl;refine qW (S:=Nat) (fun i=>[(1,.ptr 0 0),(2,.ptr 1 0),(24,.sl e.kids.length (qL e.kids)),(25,int e.kids.length),(26,int i)]) (fun i=>zCg D (zDy (e.kids.take i) (zBy Exp.id N e))) (fun i=>i≤e.kids.length) (fun i=>e.kids.length-i) 0 (by simp)
    (zR [0,1,2,3] 0 (by decide) (by simp) (by simp[zCg,zDy,hins]) (by simp)) ?_
   intro i hi;by_cases h:i<e.kids.length
   ·have hlt:i*15<e.kids.length*15:=by omega
    have hsn:=zHB e.kids[i] (e.kids.take i) (zBy Exp.id N e);rw[←jA9 h]at hsn;simp[zCg,h,yJ h,zF];refine zN (ih e.kids[i] (jA0 h) D (zDy (e.kids.take i) (zBy Exp.id N e))) [0,1,2,3] (by simp) (by simp[zCg]) (by simp[zF]) ?_;simp[zCg];exact zU (i+1) h (by omega) (zR [0,1,2,3] 0 (by decide) (by simp) (by simp[zCg,hsn]) (by simp[qA h hl]))
   ·have hil:i=e.kids.length:=by omega
    subst hil;rw[jAp,←zQ4];simp[zCg];exact zG [0,1,2,3] 0 (by decide) (by simp) (by simp) (by simp)
  | none =>
   rw[hh]at hf;simp only[jCx]at hf;have hp:=zJn (enc:=zF) (idf:=Exp.id) (x:=e) N hh;simp only[zBz]at hp;have hins:zBy Exp.id N e=N++[e]:=by simp[zBy,hh]
   simp only[zF]at hp;simp[zCg,zF,hf,hp];intro hl;refine qW (S:=Nat) (fun i=>[(1,.ptr 0 0),(2,.ptr 1 0),(24,.sl e.kids.length (qL e.kids)),(25,int e.kids.length),(26,int i)]) (fun i=>zCg D (zDy (e.kids.take i) (zBy Exp.id N e))) (fun i=>i≤e.kids.length) (fun i=>e.kids.length-i) 0 (by simp)
    (zR [0,1,2,3] 0 (by decide) (by simp) (by simp[zCg,zDy,hins]) (by simp)) ?_
   intro i hi;by_cases h:i<e.kids.length
   ·have hlt:i*15<e.kids.length*15:=by omega
    have hsn:=zHB e.kids[i] (e.kids.take i) (zBy Exp.id N e);rw[←jA9 h]at hsn;simp[zCg,h,yJ h,zF];refine zN (ih e.kids[i] (jA0 h) D (zDy (e.kids.take i) (zBy Exp.id N e))) [0,1,2,3] (by simp) (by simp[zCg]) (by simp[zF]) ?_;simp[zCg];exact zU (i+1) h (by omega) (zR [0,1,2,3] 0 (by decide) (by simp) (by simp[zCg,hsn]) (by simp[qA h hl]))
   ·have hil:i=e.kids.length:=by omega
    subst hil;rw[jAp,←zQ4];simp[zCg];exact zG [0,1,2,3] 0 (by decide) (by simp) (by simp) (by simp)
theorem zNH:∀(l:List Exp),∀x∈l,∀(D:List Dfn) (N:List Exp),Ret prog 103 [.agg (zF x),.ptr 0 0,.ptr 1 0] (zCg D N) (.tup []) (zCg D (zMD x N))
 | [],x,hx,_,_=>by simp at hx
 | z::l,x,hx,D,N=>by
  rcases jA3.1 hx with e | hx
  ·rw[e]; exact zMj z D N
  ·exact zNH l x hx D N
end
def zEx (l:List Dfn):List Dfn:=l.foldl (zBy Dfn.id) []
def zPG (N:List Exp)(d:Dfn):List Exp:=if zAI d.kind then zMD d.body N else N
def zE1 (l:List Dfn):List Exp:=l.foldl zPG []
theorem zTL {l:List Dfn}{i:Nat}(h:i<l.length):zEx (l.take (i+1))=zBy Dfn.id (zEx (l.take i)) l[i]:=by rw[zEx,jA9 h,jC3]; rfl
theorem zUp {l:List Dfn}{i:Nat}(h:i<l.length):zE1 (l.take (i+1))=zPG (zE1 (l.take i)) l[i]:=by rw[zE1,jA9 h,jC3]; rfl
theorem zSQ (p:Prg):Ret prog 55 [.agg (zS p)] [] (.agg [.map 0,.map 1]) [.mp true 3 (zBI Dfn.id zO (zEx p.defs)),.mp true 3 (zBI Exp.id zF (zE1 p.defs))]:=by
 refine zK Tryz.func55 rfl qIE (rs:=[.cell 2 2 true]) (by kernel_rfl) ?_;unfold qAO;simp[zS];intro hl;generalize p.defs=l at hl ⊢;refine qW (S:=Nat) (fun i=>[(2,.ptr 4 0),(3,.ptr 0 0),(4,.ptr 1 0),(14,.sl l.length (zX l)),(15,int l.length),(16,int i)]) (fun i=>zCg (zEx (l.take i)) (zE1 (l.take i))++[.box [.lit (.map none),.lit (.map none)]]) (fun i=>i≤l.length) (fun i=>l.length-i) 0 (by simp)
  (zR [4,5,2,3,1] 0 (by decide) (by simp) (by simp[zCg,zEx,zE1,zBI]) (by simp)) ?_
 intro i hi;by_cases h:i<l.length
 ·have hlt:i*31<l.length*31:=by omega
  have h1:=zTL h;have h2:=zUp h;generalize zEx (l.take i)=D at h1 ⊢;generalize zE1 (l.take i)=N at h2 ⊢;generalize hd:l[i]=d at h1 h2;have hcd:=yI h;rw[hd]at hcd;have hf:=zCo (i:=d.id) (enc:=zO) (idf:=Dfn.id) D;simp only[zBz]at hf;cases hh:zAD Dfn.id D d.id with
  | some x =>
   rw[hh]at hf;simp only[jBs]at hf;have hins:zBy Dfn.id D d=D:=by simp[zBy,hh]
   rw[hins]at h1;simp[zCg,h,hcd,zO,hf];refine zT (zG2 d) (by simp[zO]) (by simp) ?_;cases hb:zAI d.kind with
   | true =>
    rw[zPG,if_pos hb]at h2;simp;refine zN (zMj d.body D N) [0,1,2,3] (by simp) (by simp[zCg]) (by simp[zF]) ?_;simp[zCg];exact zU (i+1) h (by omega) (zR [0,1,2,3,4] 0 (by decide) (by simp) (by simp[zCg,h1,h2]) (by simp[qA h hl]))
   | false =>
    rw[zPG,if_neg (by simp[hb])]at h2;simp;exact zU (i+1) h (by omega) (zR [0,1,2,3,4] 0 (by decide) (by simp) (by simp[zCg,h1,h2]) (by simp[qA h hl]))
  | none =>
   rw[hh]at hf;simp only[jCx]at hf;have hp:=zJn (enc:=zO) (idf:=Dfn.id) (x:=d) D hh;simp only[zBz,zO]at hp;have hins:zBy Dfn.id D d=D++[d]:=by simp[zBy,hh]
   rw[hins]at h1;simp[zCg,h,hcd,zO,hf,hp];refine zT (zG2 d) (by simp[zO]) (by simp) ?_;cases hb:zAI d.kind with
   | true =>
    rw[zPG,if_pos hb]at h2;simp;refine zN (zMj d.body (D++[d]) N) [0,1,2,3] (by simp) (by simp[zCg]) (by simp[zF]) ?_;simp[zCg];exact zU (i+1) h (by omega) (zR [0,1,2,3,4] 0 (by decide) (by simp) (by simp[zCg,h1,h2]) (by simp[qA h hl]))
   | false =>
    rw[zPG,if_neg (by simp[hb])]at h2;simp;exact zU (i+1) h (by omega) (zR [0,1,2,3,4] 0 (by decide) (by simp) (by simp[zCg,h1,h2]) (by simp[qA h hl]))
 ·have hil:i=l.length:=by omega
  subst hil;simp[zCg];exact zG [2,3] 0 (by decide) (by simp) (by simp) (by simp)
end Go.Proofs.YthglhccibdlccaaGreatDoor
