/-
  The maker of programs: its state, its small functions.
-/
import Derived.Test.YthglhccibdlccaaGreatDoorX24
set_option linter.unusedVariables false
set_option linter.unusedSimpArgs false
namespace Go.Proofs.YthglhccibdlccaaGreatDoor
open Go.Abs
def KAt:K:=G [kMi 6 0] (Z (G [M 7 1,kBi 8 7 0 .lss,M 9 8,T 9 false (M 10 1),T 9 false (M 11 0),T 9 false (kN 12 11),T 9 false (kB 13 10 12 .geq),kPt 14 9 13] (Y 14 (G [kMi 6 0] kr) ks)) (G [M 15 0,M 16 1,kX 17 15 16 1,L 18 17 1,M 19 2,kC 20 12 [(kt 18),(kt 19)],M 6 20] kr))
theorem cAt:zL Tryz.prog Tryz.f31.ntmps (Tryz.f31.body.getD .skip)=some KAt.erase:=by kernel_rfl
@[simp] theorem qOw:zA Tryz.prog 31=true:=by kernel_rfl
def qEO:K:=G [kZ 2 [ki,ki,ki]] (G [M 3 0,kBi 4 3 32 .quo,⟨none,.bin (some 5) .add (kc 1) (kt 4)⟩,M 6 0,kBi 7 6 32 .rem,kb 8 [ki,ki,ki] [(1,1,(kt 5)),(2,1,(kt 7))],S 2 8 3] kr)
theorem qLu:zL Tryz.prog Tryz.f32.ntmps (Tryz.f32.body.getD .skip)=some qEO.erase:=by kernel_rfl
@[simp] theorem qMu:zA Tryz.prog 32=true:=by kernel_rfl
def KOf:K:=G [kO 1 0,kZ 2 kz2] (G [J 3 1 3,kb 4 kz2 [(0,1,(kc 3)),(1,3,(kt 3))],S 2 4 5] kr)
theorem cOf:zL Tryz.prog Tryz.f72.ntmps (Tryz.f72.body.getD .skip)=some KOf.erase:=by kernel_rfl
@[simp] theorem qOx:zA Tryz.prog 72=true:=by kernel_rfl
def zYp:K:=G [kO 1 0,kZ 2 kz2] (G [J 3 1 5,kd 4 33 5 1 kz2 [(0,5,(kt 3))],kb 5 kz2 [(0,1,(kc 2)),(4,1,(kt 4))],S 2 5 5] kr)
theorem qFN:zL Tryz.prog Tryz.f74.ntmps (Tryz.f74.body.getD .skip)=some zYp.erase:=by kernel_rfl
@[simp] theorem qIY:zA Tryz.prog 74=true:=by kernel_rfl
def zQp:K:=G [kO 2 0,kO 3 1,kMb 4 false] (Z (G [D 6 2 0,L 7 6 1,D 8 3 0,L 9 8 1,kQ 10 7 9 true,M 11 10,T 11 false (D 12 2 1),T 11 false (J 13 12 3),T 11 false (D 14 3 1),T 11 false (J 15 14 3),⟨some (11,false),.eqs (some 16) true [.i,.i,.i] (kt 13) (kt 15)⟩,kPt 17 11 16,M 18 17,T 18 false (D 19 2 4),T 18 false (L 20 19 1),T 18 false (kN 21 20),T 18 false (D 22 3 4),T 18 false (L 23 22 1),T 18 false (kN 24 23),T 18 false (kQ 25 21 24 true),kPt 26 18 25] (Y 26 (G [kMb 4 false] kr) ks)) (Z (G [kMi 5 0] (K.block 0 (K.loop (Z (G [M 27 5,D 28 2 4,L 29 28 1,kN 30 29,kB 31 27 30 .lss] (Y 31 ks (K.exit 0))) (Z (K.block 1 (Z (K.dops [(0,0,D 34 2 4),(1,0,L 35 34 1),(2,0,M 36 5),(3,0,kX 37 35 36 5),(4,0,J 38 37 5),(5,0,D 39 3 4),(6,0,L 40 39 1),(7,0,M 41 5),(8,0,kX 42 40 41 5),(9,0,J 43 42 5),(10,0,kC 44 109 [(kt 38),(kt 43)]),(11,0,kR 45 44)]) (Y 45 (G [kMb 4 false] kr) ks))) (K.ops [M 32 5,kBi 33 32 1 .add,M 5 33])))))) (G [kMb 4 true] kr)))
theorem zWe:zL Tryz.prog Tryz.f109.ntmps (Tryz.f109.body.getD .skip)=some zQp.erase:=by kernel_rfl
@[simp] theorem qC5:zA Tryz.prog 109=true:=by kernel_rfl
def qEG:K:=G [kMi 4 0] (G [M 5 0,kU 6 5,D 7 6 3,L 8 7 1,kBi 9 8 1 .add,kU 10 5,D 11 10 3,S 11 9 1] (Z (K.dops [(0,0,M 12 0),(1,0,kU 13 12),(2,0,D 14 13 2),(3,0,L 15 14 1),(4,0,M 16 0),(5,0,kU 17 16),(6,0,D 18 17 3),(7,0,L 19 18 1),(8,0,kBi 20 19 1 .sub),(9,0,M 21 1),(10,0,kC 22 31 [(kt 15),(kt 20),(kt 21)]),(11,0,M 4 22)]) kr))
theorem qLm:zL Tryz.prog Tryz.f76.ntmps (Tryz.f76.body.getD .skip)=some qEG.erase:=by kernel_rfl
@[simp] theorem qMh:zA Tryz.prog 76=true:=by kernel_rfl
def zSY:K:=G [kZ 8 kz1] (G [M 9 0,kU 10 9,D 11 10 4,L 12 11 1,kBi 13 12 1 .add,kU 14 9,D 15 14 4,S 15 13 1] (G [M 16 0,kU 17 16,D 18 17 5,L 19 18 1,kBi 20 19 1 .sub,kU 21 16,D 22 21 5,S 22 20 1] (G [M 23 0,kU 24 23,D 25 24 4,L 26 25 1,kBi 27 26 1 .sub,kb 28 [ki,ki,ki] [(2,1,(kt 27))],M 29 1,M 30 2,M 31 3,kb 32 kz1 [(0,3,(kt 28)),(3,1,(kt 29)),(4,1,(kt 30)),(13,1,(kt 31))],S 8 32 15] kr)))
theorem zYE:zL Tryz.prog Tryz.f80.ntmps (Tryz.f80.body.getD .skip)=some zSY.erase:=by kernel_rfl
@[simp] theorem qJb:zA Tryz.prog 80=true:=by kernel_rfl
def zYq:K:=G [⟨none,.mov (some 2) (.const (.string ⟨#[]⟩))⟩] (G [M 3 0,kU 4 3,D 5 4 10,L 6 5 1,kBi 7 6 1 .add,kU 8 3,D 9 8 10,S 9 7 1] (Z (K.dops [(0,0,⟨none,.bslice (some 10) 9 1 3 zUM [(0,1,(.const (.string ⟨#[117]⟩))),(1,1,(.const (.string ⟨#[118]⟩))),(2,1,(.const (.string ⟨#[119]⟩)))]⟩),(1,0,M 11 0),(2,0,kU 12 11),(3,0,D 13 12 10),(4,0,L 14 13 1),(5,0,kBi 15 14 3 .rem),(6,0,kX 16 10 15 1),(7,0,L 17 16 1),(8,0,⟨none,.bslice (some 18) 9 1 8 [(.string ⟨#[]⟩),(.string ⟨#[]⟩),(.string ⟨#[]⟩),(.string ⟨#[]⟩),(.string ⟨#[]⟩),(.string ⟨#[]⟩),(.string ⟨#[]⟩),(.string ⟨#[]⟩)] [(0,1,(.const (.string ⟨#[]⟩))),(1,1,(.const (.string ⟨#[49]⟩))),(2,1,(.const (.string ⟨#[50]⟩))),(3,1,(.const (.string ⟨#[51]⟩))),(4,1,(.const (.string ⟨#[52]⟩))),(5,1,(.const (.string ⟨#[53]⟩))),(6,1,(.const (.string ⟨#[54]⟩))),(7,1,(.const (.string ⟨#[55]⟩)))]⟩),(9,0,M 19 0),(10,0,kU 20 19),(11,0,D 21 20 10),(12,0,L 22 21 1),(13,0,kBi 23 22 3 .quo),(14,0,kBi 24 23 8 .rem),(15,0,kX 25 18 24 1),(16,0,L 26 25 1),(17,0,kB 27 17 26 .add),(18,0,M 2 27)]) kr))
theorem qFP:zL Tryz.prog Tryz.f81.ntmps (Tryz.f81.body.getD .skip)=some zYq.erase:=by kernel_rfl
@[simp] theorem qIZ:zA Tryz.prog 81=true:=by kernel_rfl
def qFm:K:=G [kMb 4 false] (G [M 6 0,kU 7 6,D 8 7 0,D 9 8 1,L 10 9 1,M 11 1,kX 12 10 11 31,J 13 12 31,kZ 5 kz0,S 5 13 31] (Z (K.dops [(0,0,M 14 1),(1,0,M 15 0),(2,0,kU 16 15),(3,0,D 17 16 6),(4,0,L 18 17 1),(5,0,kB 19 14 18 .lss),(6,0,M 20 19),(7,0,T 20 true (D 21 5 4)),(8,0,T 20 true (J 22 21 3)),(9,0,T 20 true (M 23 0)),(10,0,T 20 true (kU 24 23)),(11,0,T 20 true (D 25 24 7)),(12,0,T 20 true (J 26 25 3)),(13,0,⟨some (20,true),.eqs (some 27) false [.i,.i,.i] (kt 22) (kt 26)⟩),(14,0,T 20 true (M 28 27)),(15,0,T 28 false (D 29 5 4)),(16,0,T 28 false (J 30 29 3)),(17,0,T 28 false (M 31 0)),(18,0,T 28 false (kU 32 31)),(19,0,T 28 false (D 33 32 0)),(20,0,T 28 false (D 34 33 0)),(21,0,T 28 false (L 35 34 1)),(22,0,T 28 false (kXi 36 35 6 0)),(23,0,T 28 false (D 37 36 0)),(24,0,T 28 false (J 38 37 3)),(25,0,⟨some (28,false),.eqs (some 39) false [.i,.i,.i] (kt 30) (kt 38)⟩),(26,0,T 20 true (kPt 40 28 39)),(27,0,kPf 41 20 40),(28,0,M 4 41)]) kr))
theorem qLI:zL Tryz.prog Tryz.f119.ntmps (Tryz.f119.body.getD .skip)=some qFm.erase:=by kernel_rfl
@[simp] theorem qNd:zA Tryz.prog 119=true:=by kernel_rfl
def qEH:K:=G [kMi 6 0] (G [M 10 0,kU 11 10,D 12 11 0,D 13 12 1,L 14 13 1,kN 15 14,M 7 15] (Z (G [kMi 8 0] (K.block 0 (K.loop (Z (G [M 16 8,M 17 7,kB 18 16 17 .lss] (Y 18 ks (K.exit 0))) (Z (K.block 1 (G [M 21 2,M 22 8,kB 23 21 22 .add,M 24 7,kB 25 23 24 .rem,M 9 25] (G [M 26 0,kU 27 26,D 28 27 0,D 29 28 1,L 30 29 1,M 31 9,kX 32 30 31 31,D 33 32 3,L 34 33 1,M 35 1,kQ 36 34 35 false,M 37 36,T 37 true (M 38 0),T 37 true (M 39 9),T 37 true (kC 40 119 [(kt 38),(kt 39)]),kPf 41 37 40] (Y 41 (G [M 42 9,M 6 42] kr) ks)))) (K.ops [M 19 8,kBi 20 19 1 .add,M 8 20])))))) (G [⟨none,.mov (some 6) (kc (-1))⟩] kr)))
theorem qLn:zL Tryz.prog Tryz.f118.ntmps (Tryz.f118.body.getD .skip)=some qEH.erase:=by kernel_rfl
@[simp] theorem qMi:zA Tryz.prog 118=true:=by kernel_rfl
def zY8:K:=G [kO 3 1,kZ 4 kz1] (G [M 6 0,D 7 3 3,L 8 7 1,kC 9 80 [(kt 6),(kc 2),(kt 8),(.const kl)],kZ 5 kz1,S 5 9 15] (G [D 10 3 0,J 11 10 3,D 12 5 5,S 12 11 3] (G [J 13 5 15,S 4 13 15] kr)))
theorem qGf:zL Tryz.prog Tryz.f78.ntmps (Tryz.f78.body.getD .skip)=some zY8.erase:=by kernel_rfl
@[simp] theorem qJs:zA Tryz.prog 78=true:=by kernel_rfl
def zMF:K:=G [kO 3 1,kMn 4] (G [kMn 5] (Z (G [kMi 6 0] (K.block 0 (K.loop (Z (G [M 7 6,M 8 0,kN 9 8,kB 10 7 9 .lss] (Y 10 ks (K.exit 0))) (Z (K.block 1 (Z (K.dops [(0,0,M 13 0),(1,0,M 14 6),(2,0,kX 15 13 14 9),(3,0,D 16 15 4),(4,0,J 17 16 5),(5,0,J 18 3 5),(6,0,kC 19 109 [(kt 17),(kt 18)])]) (Y 19 (K.ops [M 20 5,M 21 0,M 22 6,kX 23 21 22 9,J 24 23 9,kd 25 96 9 1 kz7 [(0,9,(kt 24))],kP 26 96 9 88 20 25,M 5 26]) ks))) (K.ops [M 11 6,kBi 12 11 1 .add,M 6 12])))))) (G [M 27 5,M 4 27] kr)))
theorem zT5:zL Tryz.prog Tryz.f77.ntmps (Tryz.f77.body.getD .skip)=some zMF.erase:=by kernel_rfl
@[simp] theorem qAp:zA Tryz.prog 77=true:=by kernel_rfl
def zTs:K:=G [kO 3 1,kMn 4] (G [kMn 5] (Z (K.dops [(3,1,J 9 3 9),(4,0,kd 10 96 9 1 kz7 [(0,9,(kt 9))]),(0,0,M 6 5),(1,0,M 7 0),(2,0,kP 8 96 9 88 6 7),(5,0,kP 11 96 9 88 8 10),(6,0,M 4 11)]) kr))
def qBi:Nat→Option (List (Nat×Nat)):=fun r=>match r with | 2=>some [(3,1),(4,0),(0,0),(1,0),(2,0),(5,0),(6,0)] | _=>none
theorem qAl:qC Tryz.prog Tryz.f82.ntmps qBi (Tryz.f82.body.getD .skip)=some zTs.erase:=by kernel_rfl
@[simp] theorem qGu:zA Tryz.prog 82=true:=by kernel_rfl
def atV (l:List Int)(i most:Int):Int:=if i<0∨(l.length:Int)≤i then 0 else zAq (l.getD i.toNat 0) most
theorem zBw (l:List Int)(i most:Int)(hm:0<most):Ret Tryz.prog 31 [.sl l.length (yA l),int i,int most] [] (int (atV l i most)) []:=by
 refine zI Tryz.func31 rfl cAt (rs:=[.slot 6]) (by kernel_rfl) ?_;unfold KAt;by_cases h:i<0
 ·simp[h];exact zC 0 (by simp[atV,h])
 by_cases h2:(l.length:Int)≤i
 ·simp[h,h2];exact fun _=>zC 0 (by simp[atV,h2])
 ·obtain⟨j,rfl⟩:∃j:Nat,i=j:=⟨i.toNat,by omega⟩;have hj:j<l.length:=by omega
  have hd:=zF0 hj;simp[h,h2,hj,hd];intro _;refine zQ (zH0 l[j] most hm) (by simp) (by simp) ?_;simp;exact zC 0 (by simp[atV,hj,h,show ¬l.length≤j by omega])
theorem jY {l:List Int}{i most:Int}(hl:∀x∈l,w64 x=x)(hm:0<most):0≤atV l i most∧atV l i most<most:=by
 unfold atV;split
 ·omega
 ·rename_i h;have hj:i.toNat<l.length:=by omega
  rw[List.getD_eq_getElem?_getD,List.getElem?_eq_getElem hj];exact zCR (hl _ (List.getElem_mem hj)) hm
def idR (k:Int):Id:=⟨0,IntKind.i64.wrap (1+IntKind.i64.wrap (k.tdiv 32)),k.tmod 32⟩
theorem zED (k:Int):Ret Tryz.prog 32 [int k] [] (.agg (qF (idR k))) []:=by refine zI Tryz.func32 rfl qLu (rs:=[.cell 2 3 true]) (by kernel_rfl) ?_;unfold qEO;simp;exact zC 0 (by simp[qF,idR])
theorem zL6 (d:Id):Ret Tryz.prog 72 [.agg (qF d)] [] (.agg (zB (.mk 3 d []))) []:=by refine zI Tryz.func72 rfl cOf (rs:=[.cell 2 5 true]) (by kernel_rfl) ?_;unfold KOf;simp[qF];exact zC 0 (by simp[zB])
theorem zXd (t:Typ):Ret Tryz.prog 74 [.agg (zB t)] [] (.agg (zB (.mk 2 ⟨0,0,0⟩ [t]))) []:=by refine zI Tryz.func74 rfl qFN (rs:=[.cell 2 5 true]) (by kernel_rfl) ?_;unfold zYp;simp[zB];exact zC 0 (by simp[zB,qG])
mutual
theorem zDd:∀(a b:Typ),Ret Tryz.prog 109 [.agg (zB a),.agg (zB b)] [] (bl (yG a b)) []
 | .mk k i l,b=>by
  have ih:=zKi l;generalize ha:Typ.mk k i l=a;have hal:a.kids=l:=by rw[←ha]; rfl
  rw[←hal]at ih;refine zI Tryz.func109 rfl zWe (rs:=[.slot 4]) (by kernel_rfl) ?_;unfold zQp;have hd:=zLE a b;by_cases h1:a.k=b.k
  ·by_cases h2:a.id=b.id
   ·by_cases h3:a.kids.length=b.kids.length
    ·simp[zB,h1,h2,h3];intro hl;refine qY (S:=Nat) (fun j=>[(2,.ptr 0 0),(3,.ptr 1 0),(5,int j)]) (fun _=>[.box (zB a),.box (zB b)]) (fun j=>j≤a.kids.length∧∀(m:Nat) (hm:m<j) (hma:m<a.kids.length) (hmb:m<b.kids.length),yG a.kids[m] b.kids[m]=true) (fun j=>a.kids.length-j) 0 (by simp)
      (zR [0,1] 0 (by decide) (by simp) (by simp[zB,h1,h2,h3]) (by simp)) ?_
     rintro j ⟨hj,hs⟩;by_cases h:j<a.kids.length
     ·have hb:j<b.kids.length:=by omega
      simp[zB,h,zBP h,zBP hb,hb];intro hl';refine qO (ih a.kids[j] (List.getElem_mem h) b.kids[j]) (by simp[zB]) (by simp) ?_;cases hab:yG a.kids[j] b.kids[j]
      ·have:zBW yG a.kids b.kids=false:=by rw[←Bool.not_eq_true,zBX h3];intro hh;have:=hh j h;rw[hab]at this;cases this
       simp;exact zC 0 (by simp[hd,this])
      ·simp;exact zT (j+1) ⟨h,fun m hm hma hmb=>by
        by_cases e:m=j
        ·subst e; exact hab
        ·exact hs m (by omega) hma hmb⟩ (by omega) (zR [0,1] 0 (by decide) (by simp) (by simp[zB]) (by simp[qD h (show a.kids.length≤maxLen by omega)]))
     ·have hj':j=a.kids.length:=by omega
      have:zBW yG a.kids b.kids=true:=(zBX h3).2 fun m hm=>hs m (by omega) hm (by omega)
      simp[zB,h]
      first | exact fun _=>zC 0 (by simp[hd,h1,h2,this]) | exact zC 0 (by simp[hd,h1,h2,this])
    ·have h4:=zEL (same:=yG) h3;have h5:¬((a.kids.length:Int)=b.kids.length):=by omega
     simp[zB,h1,h2,h3,h5]
     first | exact fun _ _=>zC 0 (by simp[hd,h4]) | exact fun _=>zC 0 (by simp[hd,h4]) | exact zC 0 (by simp[hd,h4])
   ·have h3:zBU a.id.a a.id.b a.id.c b.id.a b.id.b b.id.c=false:=by rw[zAR]; exact decide_eq_false h2
    simp[zB,h1,h3];exact zC 0 (by simp[hd,h2])
  ·simp[zB,h1];exact zC 0 (by simp[hd,h1])
theorem zKi:∀(l:List Typ),∀x∈l,∀y:Typ,Ret Tryz.prog 109 [.agg (zB x),.agg (zB y)] [] (bl (yG x y)) []
 | [],x,hx,_=>by simp at hx
 | z::l,x,hx,y=>by
  rcases List.mem_cons.1 hx with e | hx
  ·rw[e]; exact zDd z y
  ·exact zKi l x hx y
end
structure Mk where
 mods:List Md
 defs:List Dfn
 l:List Int
 at_:Int
 temp:Int
 left:Int
 own:Int
 home:Id
 name:Int
def mkB (m:Mk):List A:=[.sl m.mods.length (jF m.mods),.row 1 m.defs.length,.sl m.l.length (yA m.l),int m.at_,int m.temp,int m.left,int m.own,int m.home.a,int m.home.b,int m.home.c,int m.name]
def mkS (m:Mk):St:=[.box (mkB m),.row false 39 31 m.defs.length (qE m.defs)]
theorem zVb (m:Mk)(n:Int)(hn:0<n)(h0:0≤m.at_)(h1:m.at_≤1000000000000000) :
 Ret Tryz.prog 76 [.ptr 0 0,int n] (mkS m) (int (atV m.l m.at_ n)) (mkS {m with at_:=m.at_+1}):=by
 refine zI Tryz.func76 rfl qLm (rs:=[.slot 4]) (by kernel_rfl) ?_;unfold qEG;have w1:IntKind.i64.wrap (m.at_+1)=m.at_+1:=IntWalk.i64_in _ (by omega);have w2:IntKind.i64.wrap m.at_=m.at_:=IntWalk.i64_in _ (by omega);simp[mkS,mkB,w1,w2];refine qO (zBw m.l m.at_ n hn) (by simp) (by simp) ?_;simp;exact zG [0,1] 0 (by decide) (by simp) (by simp) (by simp)
theorem yC (m:Mk)(kind n:Int)(kids:List Exp)(h0:0≤m.temp)(h1:m.temp≤1000000000000000)(h2 : -1000000000000000≤m.left)(h3:m.left≤1000000000000000) :
 Ret Tryz.prog 80 [.ptr 0 0,int kind,int n,.sl kids.length (qU kids)] (mkS m) (.agg (zF (.mk ⟨0,0,m.temp⟩ kind n Id.zero Typ.zero kids []))) (mkS {m with temp:=m.temp+1,left:=m.left-1}):=by
 refine zI Tryz.func80 rfl zYE (rs:=[.cell 8 15 true]) (by kernel_rfl) ?_;unfold zSY;have w1:IntKind.i64.wrap (m.temp+1)=m.temp+1:=IntWalk.i64_in _ (by omega);have w2:IntKind.i64.wrap m.temp=m.temp:=IntWalk.i64_in _ (by omega);have w3:IntKind.i64.wrap (m.left-1)=m.left-1:=IntWalk.i64_in _ (by omega);simp[mkS,mkB,w1,w2,w3];exact zG [0,1] 0 (by decide) (by simp) (by simp) (by simp[zF,Typ.zero,Id.zero,Typ.kids,Typ.k,Typ.id])
end Go.Proofs.YthglhccibdlccaaGreatDoor
