/-
  The maker of programs: its state, its small functions.
  eval: environments, and the depth of a value.
-/
import Derived.Test.YthglhccibdlccaaGreatDoorX22
import Derived.Test.YthglhccibdlccaaGreatDoorX23
import Derived.Test.YthglhccibdlccaaGreatDoorX20
set_option linter.unusedVariables false
set_option linter.unusedSimpArgs false
namespace Go.Proofs.YthglhccibdlccaaGreatDoor
open Go.Abs
def KAt:K:=G [kMi 6 0] (Z (G [M 7 1,kBi 8 7 0 .lss,M 9 8,T 9 false (M 10 1),T 9 false (M 11 0),T 9 false (kN 12 11),T 9 false (kB 13 10 12 .geq),kPt 14 9 13] (Y 14 (G [kMi 6 0] kr) ks)) (G [M 15 0,M 16 1,kX 17 15 16 1,L 18 17 1,M 19 2,kC 20 12 [(kt 18),(kt 19)],M 6 20] kr))
theorem cAt:zL Tryz.prog Tryz.f31.ntmps (Tryz.f31.body.getD .skip)=some KAt.erase:=by kernel_rfl
@[simp] theorem qPy:zA Tryz.prog 31=true:=by kernel_rfl
def qF6:K:=G [kZ 2 [ki,ki,ki]] (G [M 3 0,kBi 4 3 32 .quo,⟨none,.bin (some 5) .add (kc 1) (kt 4)⟩,M 6 0,kBi 7 6 32 .rem,kb 8 [ki,ki,ki] [(1,1,(kt 5)),(2,1,(kt 7))],S 2 8 3] kr)
theorem qMq:zL Tryz.prog Tryz.f32.ntmps (Tryz.f32.body.getD .skip)=some qF6.erase:=by kernel_rfl
@[simp] theorem qNy:zA Tryz.prog 32=true:=by kernel_rfl
def KOf:K:=G [kO 1 0,kZ 2 kz2] (G [J 3 1 3,kb 4 kz2 [(0,1,(kc 3)),(1,3,(kt 3))],S 2 4 5] kr)
theorem cOf:zL Tryz.prog Tryz.f72.ntmps (Tryz.f72.body.getD .skip)=some KOf.erase:=by kernel_rfl
@[simp] theorem qPz:zA Tryz.prog 72=true:=by kernel_rfl
def zYW:K:=G [kO 1 0,kZ 2 kz2] (G [J 3 1 5,kd 4 33 5 1 kz2 [(0,5,(kt 3))],kb 5 kz2 [(0,1,(kc 2)),(4,1,(kt 4))],S 2 5 5] kr)
theorem qG9:zL Tryz.prog Tryz.f74.ntmps (Tryz.f74.body.getD .skip)=some zYW.erase:=by kernel_rfl
@[simp] theorem qJL:zA Tryz.prog 74=true:=by kernel_rfl
def zQH:K:=G [kO 2 0,kO 3 1,kMb 4 false] (Z (G [D 6 2 0,L 7 6 1,D 8 3 0,L 9 8 1,kQ 10 7 9 true,M 11 10,T 11 false (D 12 2 1),T 11 false (J 13 12 3),T 11 false (D 14 3 1),T 11 false (J 15 14 3),⟨some (11,false),.eqs (some 16) true [.i,.i,.i] (kt 13) (kt 15)⟩,kPt 17 11 16,M 18 17,T 18 false (D 19 2 4),T 18 false (L 20 19 1),T 18 false (kN 21 20),T 18 false (D 22 3 4),T 18 false (L 23 22 1),T 18 false (kN 24 23),T 18 false (kQ 25 21 24 true),kPt 26 18 25] (Y 26 (G [kMb 4 false] kr) ks)) (Z (G [kMi 5 0] (K.block 0 (K.loop (Z (G [M 27 5,D 28 2 4,L 29 28 1,kN 30 29,kB 31 27 30 .lss] (Y 31 ks (K.exit 0))) (Z (K.block 1 (Z (K.dops [(0,0,D 34 2 4),(1,0,L 35 34 1),(2,0,M 36 5),(3,0,kX 37 35 36 5),(4,0,J 38 37 5),(5,0,D 39 3 4),(6,0,L 40 39 1),(7,0,M 41 5),(8,0,kX 42 40 41 5),(9,0,J 43 42 5),(10,0,kC 44 109 [(kt 38),(kt 43)]),(11,0,kR 45 44)]) (Y 45 (G [kMb 4 false] kr) ks))) (K.ops [M 32 5,kBi 33 32 1 .add,M 5 33])))))) (G [kMb 4 true] kr)))
theorem zWD:zL Tryz.prog Tryz.f109.ntmps (Tryz.f109.body.getD .skip)=some zQH.erase:=by kernel_rfl
@[simp] theorem qDk:zA Tryz.prog 109=true:=by kernel_rfl
def qFx:K:=G [kMi 4 0] (G [M 5 0,kU 6 5,D 7 6 3,L 8 7 1,kBi 9 8 1 .add,kU 10 5,D 11 10 3,S 11 9 1] (Z (K.dops [(0,0,M 12 0),(1,0,kU 13 12),(2,0,D 14 13 2),(3,0,L 15 14 1),(4,0,M 16 0),(5,0,kU 17 16),(6,0,D 18 17 3),(7,0,L 19 18 1),(8,0,kBi 20 19 1 .sub),(9,0,M 21 1),(10,0,kC 22 31 [(kt 15),(kt 20),(kt 21)]),(11,0,M 4 22)]) kr))
theorem qMh:zL Tryz.prog Tryz.f76.ntmps (Tryz.f76.body.getD .skip)=some qFx.erase:=by kernel_rfl
@[simp] theorem qNl:zA Tryz.prog 76=true:=by kernel_rfl
def zTr:K:=G [kZ 8 kz1] (G [M 9 0,kU 10 9,D 11 10 4,L 12 11 1,kBi 13 12 1 .add,kU 14 9,D 15 14 4,S 15 13 1] (G [M 16 0,kU 17 16,D 18 17 5,L 19 18 1,kBi 20 19 1 .sub,kU 21 16,D 22 21 5,S 22 20 1] (G [M 23 0,kU 24 23,D 25 24 4,L 26 25 1,kBi 27 26 1 .sub,kb 28 [ki,ki,ki] [(2,1,(kt 27))],M 29 1,M 30 2,M 31 3,kb 32 kz1 [(0,3,(kt 28)),(3,1,(kt 29)),(4,1,(kt 30)),(13,1,(kt 31))],S 8 32 15] kr)))
theorem zZs:zL Tryz.prog Tryz.f80.ntmps (Tryz.f80.body.getD .skip)=some zTr.erase:=by kernel_rfl
@[simp] theorem qJO:zA Tryz.prog 80=true:=by kernel_rfl
def zYX:K:=G [⟨none,.mov (some 2) (.const (.string ⟨#[]⟩))⟩] (G [M 3 0,kU 4 3,D 5 4 10,L 6 5 1,kBi 7 6 1 .add,kU 8 3,D 9 8 10,S 9 7 1] (Z (K.dops [(0,0,⟨none,.bslice (some 10) 9 1 3 zVr [(0,1,(.const (.string ⟨#[117]⟩))),(1,1,(.const (.string ⟨#[118]⟩))),(2,1,(.const (.string ⟨#[119]⟩)))]⟩),(1,0,M 11 0),(2,0,kU 12 11),(3,0,D 13 12 10),(4,0,L 14 13 1),(5,0,kBi 15 14 3 .rem),(6,0,kX 16 10 15 1),(7,0,L 17 16 1),(8,0,⟨none,.bslice (some 18) 9 1 8 [(.string ⟨#[]⟩),(.string ⟨#[]⟩),(.string ⟨#[]⟩),(.string ⟨#[]⟩),(.string ⟨#[]⟩),(.string ⟨#[]⟩),(.string ⟨#[]⟩),(.string ⟨#[]⟩)] [(0,1,(.const (.string ⟨#[]⟩))),(1,1,(.const (.string ⟨#[49]⟩))),(2,1,(.const (.string ⟨#[50]⟩))),(3,1,(.const (.string ⟨#[51]⟩))),(4,1,(.const (.string ⟨#[52]⟩))),(5,1,(.const (.string ⟨#[53]⟩))),(6,1,(.const (.string ⟨#[54]⟩))),(7,1,(.const (.string ⟨#[55]⟩)))]⟩),(9,0,M 19 0),(10,0,kU 20 19),(11,0,D 21 20 10),(12,0,L 22 21 1),(13,0,kBi 23 22 3 .quo),(14,0,kBi 24 23 8 .rem),(15,0,kX 25 18 24 1),(16,0,L 26 25 1),(17,0,kB 27 17 26 .add),(18,0,M 2 27)]) kr))
theorem qGB:zL Tryz.prog Tryz.f81.ntmps (Tryz.f81.body.getD .skip)=some zYX.erase:=by kernel_rfl
@[simp] theorem qJM:zA Tryz.prog 81=true:=by kernel_rfl
def qFU:K:=G [kMb 4 false] (G [M 6 0,kU 7 6,D 8 7 0,D 9 8 1,L 10 9 1,M 11 1,kX 12 10 11 31,J 13 12 31,kZ 5 kz0,S 5 13 31] (Z (K.dops [(0,0,M 14 1),(1,0,M 15 0),(2,0,kU 16 15),(3,0,D 17 16 6),(4,0,L 18 17 1),(5,0,kB 19 14 18 .lss),(6,0,M 20 19),(7,0,T 20 true (D 21 5 4)),(8,0,T 20 true (J 22 21 3)),(9,0,T 20 true (M 23 0)),(10,0,T 20 true (kU 24 23)),(11,0,T 20 true (D 25 24 7)),(12,0,T 20 true (J 26 25 3)),(13,0,⟨some (20,true),.eqs (some 27) false [.i,.i,.i] (kt 22) (kt 26)⟩),(14,0,T 20 true (M 28 27)),(15,0,T 28 false (D 29 5 4)),(16,0,T 28 false (J 30 29 3)),(17,0,T 28 false (M 31 0)),(18,0,T 28 false (kU 32 31)),(19,0,T 28 false (D 33 32 0)),(20,0,T 28 false (D 34 33 0)),(21,0,T 28 false (L 35 34 1)),(22,0,T 28 false (kXi 36 35 6 0)),(23,0,T 28 false (D 37 36 0)),(24,0,T 28 false (J 38 37 3)),(25,0,⟨some (28,false),.eqs (some 39) false [.i,.i,.i] (kt 30) (kt 38)⟩),(26,0,T 20 true (kPt 40 28 39)),(27,0,kPf 41 20 40),(28,0,M 4 41)]) kr))
theorem qME:zL Tryz.prog Tryz.f119.ntmps (Tryz.f119.body.getD .skip)=some qFU.erase:=by kernel_rfl
@[simp] theorem qOf:zA Tryz.prog 119=true:=by kernel_rfl
def qFy:K:=G [kMi 6 0] (G [M 10 0,kU 11 10,D 12 11 0,D 13 12 1,L 14 13 1,kN 15 14,M 7 15] (Z (G [kMi 8 0] (K.block 0 (K.loop (Z (G [M 16 8,M 17 7,kB 18 16 17 .lss] (Y 18 ks (K.exit 0))) (Z (K.block 1 (G [M 21 2,M 22 8,kB 23 21 22 .add,M 24 7,kB 25 23 24 .rem,M 9 25] (G [M 26 0,kU 27 26,D 28 27 0,D 29 28 1,L 30 29 1,M 31 9,kX 32 30 31 31,D 33 32 3,L 34 33 1,M 35 1,kQ 36 34 35 false,M 37 36,T 37 true (M 38 0),T 37 true (M 39 9),T 37 true (kC 40 119 [(kt 38),(kt 39)]),kPf 41 37 40] (Y 41 (G [M 42 9,M 6 42] kr) ks)))) (K.ops [M 19 8,kBi 20 19 1 .add,M 8 20])))))) (G [⟨none,.mov (some 6) (kc (-1))⟩] kr)))
theorem qMi:zL Tryz.prog Tryz.f118.ntmps (Tryz.f118.body.getD .skip)=some qFy.erase:=by kernel_rfl
@[simp] theorem qNm:zA Tryz.prog 118=true:=by kernel_rfl
def zZm:K:=G [kO 3 1,kZ 4 kz1] (G [M 6 0,D 7 3 3,L 8 7 1,kC 9 80 [(kt 6),(kc 2),(kt 8),(.const kl)],kZ 5 kz1,S 5 9 15] (G [D 10 3 0,J 11 10 3,D 12 5 5,S 12 11 3] (G [J 13 5 15,S 4 13 15] kr)))
theorem qGR:zL Tryz.prog Tryz.f78.ntmps (Tryz.f78.body.getD .skip)=some zZm.erase:=by kernel_rfl
@[simp] theorem qKf:zA Tryz.prog 78=true:=by kernel_rfl
def zNr:K:=G [kO 3 1,kMn 4] (G [kMn 5] (Z (G [kMi 6 0] (K.block 0 (K.loop (Z (G [M 7 6,M 8 0,kN 9 8,kB 10 7 9 .lss] (Y 10 ks (K.exit 0))) (Z (K.block 1 (Z (K.dops [(0,0,M 13 0),(1,0,M 14 6),(2,0,kX 15 13 14 9),(3,0,D 16 15 4),(4,0,J 17 16 5),(5,0,J 18 3 5),(6,0,kC 19 109 [(kt 17),(kt 18)])]) (Y 19 (K.ops [M 20 5,M 21 0,M 22 6,kX 23 21 22 9,J 24 23 9,kd 25 96 9 1 kz7 [(0,9,(kt 24))],kP 26 96 9 88 20 25,M 5 26]) ks))) (K.ops [M 11 6,kBi 12 11 1 .add,M 6 12])))))) (G [M 27 5,M 4 27] kr)))
theorem zTO:zL Tryz.prog Tryz.f77.ntmps (Tryz.f77.body.getD .skip)=some zNr.erase:=by kernel_rfl
@[simp] theorem qAU:zA Tryz.prog 77=true:=by kernel_rfl
def zTC:K:=G [kO 3 1,kMn 4] (G [kMn 5] (Z (K.dops [(3,1,J 9 3 9),(4,0,kd 10 96 9 1 kz7 [(0,9,(kt 9))]),(0,0,M 6 5),(1,0,M 7 0),(2,0,kP 8 96 9 88 6 7),(5,0,kP 11 96 9 88 8 10),(6,0,M 4 11)]) kr))
def qBM:Nat→Option (List (Nat×Nat)):=fun r=>match r with | 2=>some [(3,1),(4,0),(0,0),(1,0),(2,0),(5,0),(6,0)] | _=>none
theorem qAQ:qC Tryz.prog Tryz.f82.ntmps qBM (Tryz.f82.body.getD .skip)=some zTC.erase:=by kernel_rfl
@[simp] theorem qHf:zA Tryz.prog 82=true:=by kernel_rfl
def atV (l:List Int)(i most:Int):Int:=if i<0∨(l.length:Int)≤i then 0 else zAq (l.getD i.toNat 0) most
theorem zB2 (l:List Int)(i most:Int)(hm:0<most):Ret Tryz.prog 31 [.sl l.length (yF l),int i,int most] [] (int (atV l i most)) []:=by
 refine zK Tryz.func31 rfl cAt (rs:=[.slot 6]) (by kernel_rfl) ?_;unfold KAt;by_cases h:i<0
 ·simp[h];exact zC 0 (by simp[atV,h])
 by_cases h2:(l.length:Int)≤i
 ·simp[h,h2];exact fun _=>zC 0 (by simp[atV,h2])
 ·obtain⟨j,rfl⟩:∃j:Nat,i=j:=⟨i.toNat,by omega⟩;have hj:j<l.length:=by omega
  have hd:=zGd hj;simp[h,h2,hj,hd];intro _;refine zR (zFR l[j] most hm) (by simp) (by simp) ?_;simp;exact zC 0 (by simp[atV,hj,h,show ¬l.length≤j by omega])
theorem yS {l:List Int}{i most:Int}(hl:∀x∈l,w64 x=x)(hm:0<most):0≤atV l i most∧atV l i most<most:=by
 unfold atV;split
 ·omega
 ·rename_i h;have hj:i.toNat<l.length:=by omega
  rw[List.getD_eq_getElem?_getD,List.getElem?_eq_getElem hj];exact zCl (hl _ (List.getElem_mem hj)) hm
def idR (k:Int):Id:=⟨0,IntKind.i64.wrap (1+IntKind.i64.wrap (k.tdiv 32)),k.tmod 32⟩
theorem zFc (k:Int):Ret Tryz.prog 32 [int k] [] (.agg (qX (idR k))) []:=by refine zK Tryz.func32 rfl qMq (rs:=[.cell 2 3 true]) (by kernel_rfl) ?_;unfold qF6;simp;exact zC 0 (by simp[qX,idR])
theorem zMl (d:Id):Ret Tryz.prog 72 [.agg (qX d)] [] (.agg (zB (.mk 3 d []))) []:=by refine zK Tryz.func72 rfl cOf (rs:=[.cell 2 5 true]) (by kernel_rfl) ?_;unfold KOf;simp[qX];exact zC 0 (by simp[zB])
theorem zXK (t:Typ):Ret Tryz.prog 74 [.agg (zB t)] [] (.agg (zB (.mk 2 ⟨0,0,0⟩ [t]))) []:=by refine zK Tryz.func74 rfl qG9 (rs:=[.cell 2 5 true]) (by kernel_rfl) ?_;unfold zYW;simp[zB];exact zC 0 (by simp[zB,qN])
mutual
theorem zDv:∀(a b:Typ),Ret Tryz.prog 109 [.agg (zB a),.agg (zB b)] [] (bl (yL a b)) []
 | .mk k i l,b=>by
  have ih:=zKP l;generalize ha:Typ.mk k i l=a;have hal:a.kids=l:=by rw[←ha]; rfl
  rw[←hal]at ih;refine zK Tryz.func109 rfl zWD (rs:=[.slot 4]) (by kernel_rfl) ?_;unfold zQH;have hd:=zMr a b;by_cases h1:a.k=b.k
  ·by_cases h2:a.id=b.id
   ·by_cases h3:a.kids.length=b.kids.length
    ·simp[zB,h1,h2,h3];intro hl;refine qZ (S:=Nat) (fun j=>[(2,.ptr 0 0),(3,.ptr 1 0),(5,int j)]) (fun _=>[.box (zB a),.box (zB b)]) (fun j=>j≤a.kids.length∧∀(m:Nat) (hm:m<j) (hma:m<a.kids.length) (hmb:m<b.kids.length),yL a.kids[m] b.kids[m]=true) (fun j=>a.kids.length-j) 0 (by simp)
      (zS [0,1] 0 (by decide) (by simp) (by simp[zB,h1,h2,h3]) (by simp)) ?_
     rintro j ⟨hj,hs⟩;by_cases h:j<a.kids.length
     ·have hb:j<b.kids.length:=by omega
      simp[zB,h,zCb h,zCb hb,hb];intro hl';refine qE (ih a.kids[j] (List.getElem_mem h) b.kids[j]) (by simp[zB]) (by simp) ?_;cases hab:yL a.kids[j] b.kids[j]
      ·have:zCi yL a.kids b.kids=false:=by rw[←Bool.not_eq_true,zCj h3];intro hh;have:=hh j h;rw[hab]at this;cases this
       simp;exact zC 0 (by simp[hd,this])
      ·simp;exact zT (j+1) ⟨h,fun m hm hma hmb=>by
        by_cases e:m=j
        ·subst e; exact hab
        ·exact hs m (by omega) hma hmb⟩ (by omega) (zS [0,1] 0 (by decide) (by simp) (by simp[zB]) (by simp[qB h (show a.kids.length≤maxLen by omega)]))
     ·have hj':j=a.kids.length:=by omega
      have:zCi yL a.kids b.kids=true:=(zCj h3).2 fun m hm=>hs m (by omega) hm (by omega)
      simp[zB,h]
      first | exact fun _=>zC 0 (by simp[hd,h1,h2,this]) | exact zC 0 (by simp[hd,h1,h2,this])
    ·have h4:=zFm (same:=yL) h3;have h5:¬((a.kids.length:Int)=b.kids.length):=by omega
     simp[zB,h1,h2,h3,h5]
     first | exact fun _ _=>zC 0 (by simp[hd,h4]) | exact fun _=>zC 0 (by simp[hd,h4]) | exact zC 0 (by simp[hd,h4])
   ·have h3:zCf a.id.a a.id.b a.id.c b.id.a b.id.b b.id.c=false:=by rw[zAX]; exact decide_eq_false h2
    simp[zB,h1,h3];exact zC 0 (by simp[hd,h2])
  ·simp[zB,h1];exact zC 0 (by simp[hd,h1])
theorem zKP:∀(l:List Typ),∀x∈l,∀y:Typ,Ret Tryz.prog 109 [.agg (zB x),.agg (zB y)] [] (bl (yL x y)) []
 | [],x,hx,_=>by simp at hx
 | z::l,x,hx,y=>by
  rcases List.mem_cons.1 hx with e | hx
  ·rw[e]; exact zDv z y
  ·exact zKP l x hx y
end
structure Mk where
 mods:List Md
 defs:List Dfn
 l:List Int
 at_:Int
 temp:Int
 left:Int
 own:Int
 home:Id
 name:Int
def mkB (m:Mk):List A:=[.sl m.mods.length (qM m.mods),.row 1 m.defs.length,.sl m.l.length (yF m.l),int m.at_,int m.temp,int m.left,int m.own,int m.home.a,int m.home.b,int m.home.c,int m.name]
def mkS (m:Mk):St:=[.box (mkB m),.row false 39 31 m.defs.length (zZ m.defs)]
theorem zVA (m:Mk)(n:Int)(hn:0<n)(h0:0≤m.at_)(h1:m.at_≤1000000000000000) :
 Ret Tryz.prog 76 [.ptr 0 0,int n] (mkS m) (int (atV m.l m.at_ n)) (mkS {m with at_:=m.at_+1}):=by
 refine zK Tryz.func76 rfl qMh (rs:=[.slot 4]) (by kernel_rfl) ?_;unfold qFx;have w1:IntKind.i64.wrap (m.at_+1)=m.at_+1:=IntWalk.i64_in _ (by omega);have w2:IntKind.i64.wrap m.at_=m.at_:=IntWalk.i64_in _ (by omega);simp[mkS,mkB,w1,w2];refine qE (zB2 m.l m.at_ n hn) (by simp) (by simp) ?_;simp;exact zG [0,1] 0 (by decide) (by simp) (by simp) (by simp)
theorem yH (m:Mk)(kind n:Int)(kids:List Exp)(h0:0≤m.temp)(h1:m.temp≤1000000000000000)(h2 : -1000000000000000≤m.left)(h3:m.left≤1000000000000000) :
 Ret Tryz.prog 80 [.ptr 0 0,int kind,int n,.sl kids.length (qL kids)] (mkS m) (.agg (zF (.mk ⟨0,0,m.temp⟩ kind n Id.zero Typ.zero kids []))) (mkS {m with temp:=m.temp+1,left:=m.left-1}):=by
 refine zK Tryz.func80 rfl zZs (rs:=[.cell 8 15 true]) (by kernel_rfl) ?_;unfold zTr;have w1:IntKind.i64.wrap (m.temp+1)=m.temp+1:=IntWalk.i64_in _ (by omega);have w2:IntKind.i64.wrap m.temp=m.temp:=IntWalk.i64_in _ (by omega);have w3:IntKind.i64.wrap (m.left-1)=m.left-1:=IntWalk.i64_in _ (by omega);simp[mkS,mkB,w1,w2,w3];exact zG [0,1] 0 (by decide) (by simp) (by simp) (by simp[zF,Typ.zero,Id.zero,Typ.kids,Typ.k,Typ.id])
def scA:List EVar→A
 | []=>.lit (.pointer none)
 | b::l=>.rptr (zDJ b++[scA l])
@[simp] theorem qKW:scA []=.lit (.pointer none):=rfl
theorem zFH (b:EVar)(l:List EVar):scA (b::l)=.rptr [.lit (.int .i64 b.id.a),.lit (.int .i64 b.id.b),.lit (.int .i64 b.id.c),.lit (.int .i64 b.n),.lit (.int .i64 b.v.k),.lit (.int .i64 b.v.n),.sl b.v.kids.length (zV b.v.kids),scA l]:=rfl
@[simp] theorem zV9:∀l:List EVar,nrm0 (scA l)=scA l
 | []=>rfl
 | b::l=>by simp[zFH,zV9 l]
@[simp] theorem qCJ {rf:Bool→Nat→Nat→A}{g:Nat→Option Nat}:∀l:List EVar,vw rf g (scA l)=scA l
 | []=>rfl
 | b::l=>by simp[zFH,qCJ l]
@[simp] theorem zZ5 (l:List EVar):cellsOf (scA l)=some [scA l]:=by cases l<;>rfl
abbrev scE (V:List EVar):A:=scA V.reverse
@[simp] theorem qKX:scE []=.lit (.pointer none):=rfl
@[simp] theorem qIW (V:List EVar)(b:EVar):scE (V++[b])=scA (b::V.reverse):=by simp[scE]
@[simp] theorem qEf (V:List EVar)(a b:EVar):scE (V++[a,b])=scA (b::a::V.reverse):=by simp[scE]
def zJa (l:List EVar)(id:Id)(n:Int):Val:=((l.find? fun b=>decide (b.id=id∧b.n=n)).map EVar.v).getD (.mk 0 0 [])
theorem zPB (b:EVar)(l:List EVar)(id:Id)(n:Int):zJa (b::l) id n=if b.id=id∧b.n=n then b.v else zJa l id n:=by unfold zJa;rw[List.find?_cons];by_cases h:b.id=id∧b.n=n<;>simp[h]
def zVR (a b c n a' b' c' n':Int):Bool:=decide (Id.mk a b c=Id.mk a' b' c'∧n=n')
@[simp] theorem qIV {x y:Id}{n m:Int}:zVR x.a x.b x.c n y.a y.b y.c m=decide (x=y∧n=m):=rfl
@[simp] theorem qH4 {a b c n a' b' c' n':Int}:zME [.i,.i,.i,.i] false (.agg [.lit (.int .i64 a),.lit (.int .i64 b),.lit (.int .i64 c),.lit (.int .i64 n)]) (.agg [.lit (.int .i64 a'),.lit (.int .i64 b'),.lit (.int .i64 c'),.lit (.int .i64 n')]) =
 some (.lit (.bool (zVR a b c n a' b' c' n'))):=by simp[zME,yT,zB6,zAJ,and_assoc,zVR]
def qFj:K:=G [kO 3 1,kZ 4 [ki,ki,kl]] (Z (K.block 0 (K.loop (Z (G [M 5 0,⟨none,.isp (some 6) true (kt 5)⟩] (Y 6 ks (K.exit 0))) (Z (K.block 1 (Z (K.dops [(0,0,M 11 0),(1,0,kU 12 11),(2,0,D 13 12 0),(3,0,J 14 13 4),(4,0,J 15 3 4),(5,0,⟨none,.eqs (some 16) false [.i,.i,.i,.i] (kt 14) (kt 15)⟩)]) (Y 16 (G [M 17 0,kU 18 17,D 19 18 4,J 20 19 3,S 4 20 3] kr) ks))) (K.ops [M 7 0,kU 8 7,D 9 8 7,L 10 9 1,M 0 10]))))) (G [kb 21 [ki,ki,kl] [],S 4 21 3] kr))
theorem qLT:zL Tryz.prog Tryz.f163.ntmps (Tryz.f163.body.getD .skip)=some qFj.erase:=by kernel_rfl
@[simp] theorem qMT:zA Tryz.prog 163=true:=by kernel_rfl
theorem zU6 (l:List EVar)(id:Id)(n:Int):Ret Tryz.prog 163 [scA l,.agg [int id.a,int id.b,int id.c,int n]] [] (.agg (zI (zJa l id n))) []:=by
 refine zK Tryz.func163 rfl qLT (rs:=[.cell 4 3 true]) (by kernel_rfl) ?_;unfold qFj;simp;refine qZ (S:=List EVar) (fun s=>[(0,scA s),(3,.ptr 0 0),(4,.ptr 1 0)]) (fun _=>[.box [int id.a,int id.b,int id.c,int n],.box [int 0,int 0,.nil]])
  (fun s=>zJa l id n=zJa s id n) (fun s=>s.length) l rfl (zS [0,1] 0 (by decide) (by simp) (by simp) (by simp)) ?_
 intro s hs;cases s with
 | nil =>
  simp;exact zC 0 (by rw[hs]; simp[zJa,zI,Val.k,Val.n,Val.kids])
 | cons b s =>
  rw[zPB]at hs;by_cases h:b.id=id∧b.n=n
  ·rw[if_pos h]at hs;obtain⟨rfl,rfl⟩:=h;simp[zFH];exact zC 0 (by rw[hs]; simp[zI])
  ·rw[if_neg h]at hs;have hd:decide (b.id=id∧b.n=n)=false:=by simpa using h
   simp[zFH,hd,-Bool.decide_and];exact zT s hs (by simp) (zS [0,1] 0 (by decide) (by simp) (by simp) (by simp))
def qFq:K:=G [kO 5 1,kO 7 3,⟨none,.mov (some 8) (.const (.pointer none))⟩] (G [J 9 5 3,M 10 2,kb 11 zGv [(0,3,(kt 9)),(3,1,(kt 10))],J 12 7 3,M 13 0,kb 14 [ki,ki,ki,ki,ki,ki,kl,(.pointer none)] [(0,4,(kt 11)),(4,3,(kt 12)),(7,1,(kt 13))],kO 15 14,M 8 15] kr)
theorem qMa:zL Tryz.prog Tryz.f114.ntmps (Tryz.f114.body.getD .skip)=some qFq.erase:=by kernel_rfl
@[simp] theorem qNb:zA Tryz.prog 114=true:=by kernel_rfl
theorem zCp (l:List EVar)(b:EVar):Ret Tryz.prog 114 [scA l,.agg (qX b.id),int b.n,.agg (zI b.v)] [] (scA (b::l)) []:=by refine zK Tryz.func114 rfl qMa (rs:=[.slot 8]) (by kernel_rfl) ?_;unfold qFq;simp[qX,zI];exact zC 1 (by simp[zFH])
def qFh:K:=G [kO 1 0,kMi 2 0] (G [kMi 3 0] (Z (G [D 6 1 2,L 7 6 1,kN 8 7,kMi 9 0] (K.block 0 (K.loop (G [kB 10 9 8 .lss] (Z (Y 10 ks (K.exit 0)) (Z (K.block 1 (G [kX 11 7 9 3,J 12 11 3,kZ 5 [ki,ki,kl],S 5 12 3] (K.ops [M 13 3,J 14 5 3,kC 15 141 [(kt 14)],⟨none,.mm (some 16) true [(kt 13),(kt 15)]⟩,M 3 16]))) (K.ops [kBi 17 9 1 .add,M 9 17]))))))) (G [M 18 3,kBi 19 18 1 .add,M 2 19] kr)))
theorem qLR:zL Tryz.prog Tryz.f141.ntmps (Tryz.f141.body.getD .skip)=some qFh.erase:=by kernel_rfl
@[simp] theorem qMQ:zA Tryz.prog 141=true:=by kernel_rfl
theorem zIh (v:Val):Ret Tryz.prog 141 [.agg (zI v)] [] (int (zB5 v)) []:=by
 refine zK Tryz.func141 rfl qLR (rs:=[.slot 2]) (by kernel_rfl) ?_;unfold qFh;simp[zI];intro hl;refine qZ (S:=Nat) (fun i=>[(3,int (zIv (v.kids.take i))),(7,.sl v.kids.length (zV v.kids)),(8,int v.kids.length),(9,int i)]) (fun s=>[]) (fun i=>i≤v.kids.length) (fun i=>v.kids.length-i) 0 (by simp)
  (zS [] 0 (by simp) (by simp) (by simp) (by simp[zIv])) ?_
 intro i hi;simp;by_cases h:i<v.kids.length
 ·simp[h,jD h];refine zR (zIh v.kids[i]) (by simp[zI]) (by simp) ?_;simp;exact zT (i+1) h (by omega) (zS [] 0 (by simp) (by simp) (by simp) (by simp[qB h hl,zGi h,zOp]))
 ·have:i=v.kids.length:=by omega
  subst this;simp;exact zC 0 (by simp[zFV v,w64])
termination_by qH v
decreasing_by exact zAu (List.getElem_mem _)
end Go.Proofs.YthglhccibdlccaaGreatDoor
