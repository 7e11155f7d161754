/-
  value.fits and value.Valid.
  The law's examples hold.
  The maker's literals, walked.
  value.fits and value.Valid: whether a value has a type.
  Evaluation as data: operations, and a run with its fuel, its failure, and what it has asked.
-/
import Derived.Test.YthglhccibdlccaaGreatDoorX28
import Derived.Test.YthglhccibdlccaaGreatDoorX23
import Derived.Test.YthglhccibdlccaaGreatDoorX25
import Derived.Test.YthglhccibdlccaaGreatDoorX22
set_option linter.unusedVariables false
set_option linter.unusedSimpArgs false
namespace Go.Proofs.YthglhccibdlccaaGreatDoor
open Go.Abs
def dfn (p:Prg)(id:Id):Dfn:=(yC p.defs id).getD .zero
def fSt (p:Prg)(t:Typ):St:=[.box (zU p),.box (zB t)]
def zLv (q:Val→Bool):List Val→Nat→Int
 | [],_=>-1
 | x::l,n=>if q x then n else zLv q l (n+1)
theorem zOc (q:Val→Bool):∀(l:List Val) (n:Nat),(l.any q=true∧0≤zLv q l n)∨(l.any q=false∧zLv q l n = -1)
 | [],n=>.inr ⟨rfl,rfl⟩
 | x::l,n=>by
  simp only[zLv,List.any_cons];cases hx:q x with
  | true=>exact .inl ⟨by simp,by simp⟩
  | false=>simpa using zOc q l (n+1)
mutual
def zB7 (p:Prg):Typ→Val→Bool
 | t,.mk k n l=>validT p t&&(if t.k=0 then decide (k=0)&&decide (l.length=0)&&decide (-1099511627776≤n)&&decide (n≤1099511627776) else if t.k=1 then decide (k=1)&&decide (l.length=0)&&(decide (n=0)||decide (n=1))
  else if t.k=2 then decide (k=4)&&decide (n=0)&&zNM p (t.kids.headD .zero) l
  else if (dfn p t.id).kind=1 then decide (k=3)&&decide (0≤n)&&decide (n<(dfn p t.id).slots.length)&&decide (l.length=1)&&zRa p ((dfn p t.id).slots.map Slt.typ)[n.toNat]? l
  else decide (k=2)&&decide (n=0)&&decide (l.length=(dfn p t.id).slots.length)&&zBK p ((dfn p t.id).slots.map Slt.typ) l)
def zNM (p:Prg)(t:Typ):List Val→Bool
 | []=>true
 | v::l=>zB7 p t v&&zNM p t l
def zRa (p:Prg):Option Typ→List Val→Bool
 | some t,v::_=>zB7 p t v
 | _,_=>false
def zBK (p:Prg):List Typ→List Val→Bool
 | t::ts,v::l=>zB7 p t v&&zBK p ts l
 | _,_=>true
end
theorem zLL (p:Prg)(t:Typ):∀(l:List Val),zNM p t l=l.all (zB7 p t)
 | []=>by rw[zNM]; rfl
 | v::l=>by rw[zNM,zLL p t l]; rfl
theorem zCq (p:Prg)(t:Typ)(v:Val):zB7 p t v=(validT p t&&(if t.k=0 then decide (v.k=0)&&decide (v.kids.length=0)&&decide (-1099511627776≤v.n)&&decide (v.n≤1099511627776) else if t.k=1 then decide (v.k=1)&&decide (v.kids.length=0)&&(decide (v.n=0)||decide (v.n=1))
 else if t.k=2 then decide (v.k=4)&&decide (v.n=0)&&v.kids.all (zB7 p (t.kids.headD .zero))
 else if (dfn p t.id).kind=1 then decide (v.k=3)&&decide (0≤v.n)&&decide (v.n<(dfn p t.id).slots.length)&&decide (v.kids.length=1)&&zRa p ((dfn p t.id).slots.map Slt.typ)[v.n.toNat]? v.kids
 else decide (v.k=2)&&decide (v.n=0)&&decide (v.kids.length=(dfn p t.id).slots.length)&&zBK p ((dfn p t.id).slots.map Slt.typ) v.kids)):=by
 cases v with
 | mk k n l=>rw[zB7,zLL]; rfl
def qFP:K:=G [kO 3 0,kO 4 1,kO 5 2,kMb 6 false] (Z (G [J 11 3 2,J 12 4 5,kC 13 127 [(kt 11),(kt 12)],kR 14 13] (Y 14 (G [kMb 6 false] kr) ks)) (Z (G [D 15 4 0,L 16 15 1] (K.block 0 (G [kQi 18 16 0 false,M 17 18] (Y 17 (G [D 19 5 0,L 20 19 1,kQi 21 20 0 false,M 22 21,T 22 true (D 23 5 2),T 22 true (L 24 23 1),T 22 true (kN 25 24),T 22 true (kQi 26 25 0 false),kPf 27 22 26,M 28 27,T 28 true (D 29 5 1),T 28 true (L 30 29 1),⟨some (28,true),.bin (some 31) .geq (kt 30) (kc (-1099511627776))⟩,kPf 32 28 31,M 33 32,T 33 true (D 34 5 1),T 33 true (L 35 34 1),T 33 true (kBi 36 35 1099511627776 .leq),kPf 37 33 36,M 6 37] kr) (G [kQi 39 16 1 false,M 38 39] (Y 38 (G [D 40 5 0,L 41 40 1,kQi 42 41 1 false,M 43 42,T 43 true (D 44 5 2),T 43 true (L 45 44 1),T 43 true (kN 46 45),T 43 true (kQi 47 46 0 false),kPf 48 43 47,M 49 48,T 49 true (D 50 5 1),T 49 true (L 51 50 1),T 49 true (kQi 52 51 0 false),T 49 true (M 53 52),T 53 false (D 54 5 1),T 53 false (L 55 54 1),T 53 false (kQi 56 55 1 false),T 49 true (kPt 57 53 56),kPf 58 49 57,M 6 58] kr) (G [kQi 60 16 2 false,M 59 60] (Y 59 (G [D 61 5 0,L 62 61 1,kQi 63 62 4 false,M 64 63,T 64 true (D 65 5 1),T 64 true (L 66 65 1),T 64 true (kQi 67 66 0 false),kPf 68 64 67,M 69 68,T 69 true (D 70 5 2),T 69 true (L 71 70 1),⟨some (69,true),.clo (some 72) 128 [] [(kt 3),(kt 4)]⟩,T 69 true (kC 73 125 [(kt 71),(kt 72)]),T 69 true (kR 74 73),kPf 75 69 74,M 6 75] kr) ks)))))))) (G [J 77 3 2,D 78 4 1,J 79 78 3,kC 80 42 [(kt 77),(kt 79)],
 M 76 80,kE 81 76 0,kE 82 76 1,kZ 7 kz0,S 7 81 31,M 8 82] (Z (G [D 83 7 3,L 84 83 1,kQi 85 84 1 false] (Y 85 (Z (K.dops [(0,0,D 86 5 0),(1,0,L 87 86 1),(2,0,kQi 88 87 3 false),(3,0,M 89 88),(4,0,T 89 true (D 90 5 1)),(5,0,T 89 true (L 91 90 1)),(6,0,T 89 true (kBi 92 91 0 .geq)),(7,0,kPf 93 89 92),(8,0,M 94 93),(9,0,T 94 true (D 95 5 1)),(10,0,T 94 true (L 96 95 1)),(11,0,T 94 true (D 97 7 8)),(12,0,T 94 true (L 98 97 1)),(13,0,T 94 true (kN 99 98)),(14,0,T 94 true (kB 100 96 99 .lss)),(15,0,kPf 101 94 100),(16,0,M 102 101),(17,0,T 102 true (D 103 5 2)),(18,0,T 102 true (L 104 103 1)),(19,0,T 102 true (kN 105 104)),(20,0,T 102 true (kQi 106 105 1 false)),(21,0,kPf 107 102 106),(22,0,M 108 107),(23,0,T 108 true (J 109 3 2)),(24,0,T 108 true (D 110 7 8)),(25,0,T 108 true (L 111 110 1)),(26,0,T 108 true (D 112 5 1)),(27,0,T 108 true (L 113 112 1)),(28,0,T 108 true (kX 114 111 113 11)),(29,0,T 108 true (D 115 114 4)),(30,0,T 108 true (J 116 115 5)),(31,0,T 108 true (D 117 5 2)),(32,0,T 108 true (L 118 117 1)),(33,0,T 108 true (kXi 119 118 3 0)),(34,0,T 108 true (J 120 119 3)),(35,0,T 108 true (kC 121 92 [(kt 109),(kt 116),(kt 120)])),(36,0,kPf 122 108 121),(37,0,M 6 122)]) kr) ks)) (Z (G [D 123 5 0,L 124 123 1,kQi 125 124 2 true,M 126 125,T 126 false (D 127 5 1),T 126 false (L 128 127 1),T 126 false (kQi 129 128 0 true),kPt 130 126 129,M 131 130,T 131 false (D 132 5 2),T 131 false (L 133 132 1),T 131 false (kN 134 133),T 131 false (D 135 7 8),T 131 false (L 136 135 1),
 T 131 false (kN 137 136),T 131 false (kQ 138 134 137 true),kPt 139 131 138] (Y 139 (G [kMb 6 false] kr) ks)) (Z (G [D 140 5 2,L 141 140 1,kN 142 141,kMi 143 0] (K.block 1 (K.loop (G [kB 144 143 142 .lss] (Z (Y 144 ks (K.exit 1)) (Z (K.block 2 (G [M 145 143,kX 146 141 143 3,J 147 146 3,kZ 10 [ki,ki,kl],M 9 145,S 10 147 3] (Z (K.dops [(0,0,J 148 3 2),(1,0,D 149 7 8),(2,0,L 150 149 1),(3,0,M 151 9),(4,0,kX 152 150 151 11),(5,0,D 153 152 4),(6,0,J 154 153 5),(7,0,J 155 10 3),(8,0,kC 156 92 [(kt 148),(kt 154),(kt 155)]),(9,0,kR 157 156)]) (Y 157 (G [kMb 6 false] kr) ks)))) (K.ops [kBi 158 143 1 .add,M 143 158]))))))) (G [kMb 6 true] kr)))))))
theorem qM9:zL Tryz.prog Tryz.f92.ntmps (Tryz.f92.body.getD .skip)=some qFP.erase:=by kernel_rfl
@[simp] theorem qNZ:zA Tryz.prog 92=true:=by kernel_rfl
def zZh:K:=G [kO 3 0,kMb 4 false] (Z (K.dops [(0,0,J 5 1 2),(1,0,D 6 2 4),(2,0,L 7 6 1),(3,0,kXi 8 7 5 0),(4,0,J 9 8 5),(5,0,J 10 3 3),(6,0,kC 11 92 [(kt 5),(kt 9),(kt 10)]),(7,0,kR 12 11),(8,0,M 4 12)]) kr)
theorem qGL:zL Tryz.prog Tryz.f128.ntmps (Tryz.f128.body.getD .skip)=some zZh.erase:=by kernel_rfl
@[simp] theorem qKb:zA Tryz.prog 128=true:=by kernel_rfl
def qFS:K:=G [kO 3 0,kO 4 1,kO 5 2,kMb 6 false] (G [J 7 5 3,kC 8 91 [(kt 7)],M 9 8,T 9 true (J 10 3 2),T 9 true (J 11 4 5),T 9 true (J 12 5 3),T 9 true (kC 13 92 [(kt 10),(kt 11),(kt 12)]),kPf 14 9 13,M 6 14] kr)
theorem qMC:zL Tryz.prog Tryz.f45.ntmps (Tryz.f45.body.getD .skip)=some qFS.erase:=by kernel_rfl
@[simp] theorem qOd:zA Tryz.prog 45=true:=by kernel_rfl
theorem zUZ (p:Prg)(t x:Typ)(hx:t.kids=[x])(v:Val)(b:Bool)(h:Ret Tryz.prog 92 [.agg (zU p),.agg (zB x),.agg (zI v)] [] (bl b) []) :
 Ret Tryz.prog 128 [.agg (zI v),.ptr 0 0,.ptr 1 0] (fSt p t) (bl (!b)) (fSt p t):=by
 refine zK Tryz.func128 rfl qGL (rs:=[.slot 4]) (by kernel_rfl) ?_;unfold zZh;simp[fSt,zU,zB,zI,hx];refine qE h (by simp[zU,zB,zI,qN]) (by simp) ?_;simp;exact zG [0,1] 0 (by decide) (by simp) (by simp[zU,zB,hx]) (by simp)
theorem zXA (p:Prg)(t:Typ)(q:Val→Bool)(l:List Val)(h:∀v∈l,Ret Tryz.prog 128 [.agg (zI v),.ptr 0 0,.ptr 1 0] (fSt p t) (bl (q v)) (fSt p t)) :
 Ret Tryz.prog 143 [.sl l.length (zV l),.clo 128 [] [.ptr 0 0,.ptr 1 0]] (fSt p t) (int (zLv q l 0)) (fSt p t):=by
 refine zK Tryz.func143 rfl qGN (rs:=[.slot 4]) (by kernel_rfl) ?_;unfold qA5;simp[fSt,zU,zB];intro hl;refine qZ (S:=Nat) (fun i=>[(0,.sl l.length (zV l)),(1,.clo 128 [] [.ptr 0 0,.ptr 1 0]),(6,.sl l.length (zV l)),(7,int l.length),(8,int i)]) (fun i=>fSt p t) (fun i=>i≤l.length∧zLv q l 0=zLv q (l.drop i) i) (fun i=>l.length-i) 0 (by simp)
  (zS [0,1] 0 (by decide) (by simp) (by simp[fSt,zU,zB]) (by simp)) ?_
 rintro i ⟨hi,ho⟩;by_cases hil:i<l.length
 ·have hd:l.drop i=l[i]::l.drop (i+1):=List.drop_eq_getElem_cons hil;simp[hil,jD hil,fSt,zU,zB];refine zN (h l[i] (List.getElem_mem hil)) [0,1] (by simp) (by simp[fSt,zU,zB]) (by simp[zI]) ?_;cases hq:q l[i]with
  | true =>
   simp[fSt,zU,zB];exact zG [0,1] 0 (by decide) (by simp) (by simp[zU,zB]) (by rw[ho,hd]; simp[zLv,hq])
  | false =>
   simp[fSt,zU,zB];exact zT (i+1) ⟨hil,by rw[ho,hd]; simp[zLv,hq]⟩ (by omega) (zS [0,1] 0 (by decide) (by simp) (by simp[fSt,zU,zB]) (by simp[qB hil hl]))
 ·have:i=l.length:=by omega
  subst this;simp[fSt,zU,zB];exact zG [0,1] 0 (by decide) (by simp) (by simp[zU,zB]) (by rw[ho]; simp[zLv])
theorem zWX (p:Prg)(t:Typ)(q:Val→Bool)(l:List Val)(h:∀v∈l,Ret Tryz.prog 128 [.agg (zI v),.ptr 0 0,.ptr 1 0] (fSt p t) (bl (q v)) (fSt p t)) :
 Ret Tryz.prog 125 [.sl l.length (zV l),.clo 128 [] [.ptr 0 0,.ptr 1 0]] (fSt p t) (bl (l.any q)) (fSt p t):=by
 refine zK Tryz.func125 rfl qGI (rs:=[.slot 4]) (by kernel_rfl) ?_;unfold qA4;simp[fSt,zU,zB];refine zN (zXA p t q l h) [0,1] (by simp) (by simp[fSt,zU,zB]) (by simp) ?_;rcases zOc q l 0 with ⟨h1,h2⟩ | ⟨h1,h2⟩
 ·simp[fSt,zU,zB,h2];exact zG [0,1] 0 (by decide) (by simp) (by simp[zU,zB]) (by simp[h1])
 ·simp[fSt,zU,zB,h2];exact zG [0,1] 0 (by decide) (by simp) (by simp[zU,zB]) (by simp[h1])
def qFv:K:=G [kMn 2] (G [kMn 3] (Z (G [kMi 4 0] (K.block 0 (K.loop (Z (G [M 5 4,M 6 0,kN 7 6,kB 8 5 7 .lss] (Y 8 ks (K.exit 0))) (Z (K.block 1 (K.ops [M 11 3,M 12 0,M 13 4,kX 14 12 13 1,L 15 14 1,kC 16 40 [(kt 15)],kd 17 29 3 1 [ki,ki,ki] [(0,3,(kt 16))],kP 18 29 3 24 11 17,M 3 18])) (K.ops [M 9 4,kBi 10 9 1 .add,M 4 10])))))) (G [M 19 3,M 2 19] kr)))
theorem qMf:zL Tryz.prog Tryz.f41.ntmps (Tryz.f41.body.getD .skip)=some qFv.erase:=by kernel_rfl
@[simp] theorem qAV:zA Tryz.prog 41=true:=by kernel_rfl
def qEU:Entry:=⟨qFv,[.slot 2],true⟩
theorem qB3:jN Tryz.prog 41 qEU:=⟨qAV,_,_,zAk,Tryz.func41,rfl,qMf,by kernel_rfl⟩
def zT3:K:=G [kMb 4 false] (Z (G [M 6 0,kN 7 6,M 8 1,kN 9 8,kQ 10 7 9 true] (Y 10 (G [kMb 4 false] kr) ks)) (Z (G [kMi 5 0] (K.block 0 (K.loop (Z (G [M 11 5,M 12 0,kN 13 12,kB 14 11 13 .lss] (Y 14 ks (K.exit 0))) (Z (K.block 1 (Z (K.dops [(0,0,M 17 0),(1,0,M 18 5),(2,0,kX 19 17 18 3),(3,0,J 20 19 3),(4,0,M 21 1),(5,0,M 22 5),(6,0,kX 23 21 22 3),(7,0,J 24 23 3),(8,0,⟨none,.eqs (some 25) true [.i,.i,.i] (kt 20) (kt 24)⟩)]) (Y 25 (G [kMb 4 false] kr) ks))) (K.ops [M 15 5,kBi 16 15 1 .add,M 5 16])))))) (G [kMb 4 true] kr)))
theorem qAH:zL Tryz.prog Tryz.f20.ntmps (Tryz.f20.body.getD .skip)=some zT3.erase:=by kernel_rfl
@[simp] theorem zTW:zA Tryz.prog 20=true:=by kernel_rfl
def zTe:Entry:=⟨zT3,[.slot 4],false⟩
theorem zUF:jN Tryz.prog 20 zTe:=⟨zTW,_,_,zAk,Tryz.func20,rfl,qAH,by kernel_rfl⟩
def zTq:K:=G [kMb 0 false] (G [kC 12 39 [],kZ 1 [kl,kl],S 1 12 2] (Z (K.wk (K.wk (K.wk (K.dops [(0,1,J 14 1 2),(1,1,kC 15 40 [(kc 1)]),(2,0,kb 16 [ki,ki,kl] [(1,1,(kc 2))]),(3,0,kd 17 47 3 1 [ki,ki,kl] [(0,3,(kt 16))]),(4,1,kC 18 13 [(kt 14),(kt 15),(kt 17),(kc 100)]),(5,0,M 13 18),(6,0,kE 19 13 0),(7,0,kE 20 13 1),(8,0,kE 21 13 2),(9,340,⟨none,.alr (some 2) 40 [ki,ki,kl]⟩),(10,341,⟨none,.alr (some 3) 41 [kl,kl]⟩),(11,0,S 2 19 3),(12,0,S 3 20 2),(13,0,M 4 21)])))) (Z (K.wk (K.dops [(0,1,J 23 1 2),(1,1,kC 24 40 [(kc 1)]),(2,0,kb 25 [ki,ki,kl] [(1,1,(kc 5))]),(3,0,kd 26 47 3 1 [ki,ki,kl] [(0,3,(kt 25))]),(4,1,kC 27 13 [(kt 23),(kt 24),(kt 26),(kc 100)]),(5,0,M 22 27),(6,0,kE 28 22 0),(7,0,kE 29 22 1),(8,0,kE 30 22 2),(9,350,⟨none,.alr (some 5) 50 [ki,ki,kl]⟩),(10,351,⟨none,.alr (some 6) 51 [kl,kl]⟩),(11,0,S 5 28 3),(12,0,S 6 29 2),(13,0,M 7 30)])) (G [kC 31 39 [],kZ 8 [kl,kl],S 8 31 2] (Z (K.dops [(0,0,D 32 8 1),(1,0,L 33 32 1),(2,0,kC 34 40 [(kc 17)]),(3,0,kb 35 kz1 [(0,3,(kt 34)),(4,1,(kc 7))]),(4,0,kXi 36 33 31 1),(5,0,D 37 36 14),(6,0,S 37 35 15)]) (Z (K.wk (K.wk (K.ops [J 38 1 2,J 39 8 2,kC 40 21 [(kt 38),(kt 39)],M 9 40]))) (Z (K.dops [(0,0,D 41 3 0),(1,0,L 42 41 1),(2,0,kd 43 3 1 1 [ki] [(0,1,(kc 1))]),(3,0,kC 44 41 [(kt 43)]),(4,0,kC 45 20 [(kt 42),(kt 44)]),(5,0,M 46 45),(6,0,T 46 true (D 47 3 1)),(7,0,T 46 true (L 48 47 1)),(8,0,⟨some (46,true),.bslice (some 49) 3 1 5 [ki,ki,ki,ki,ki] [(0,1,(kc 10)),(1,1,(kc 11)),(2,1,(kc 12)),(3,1,(kc 13)),(4,1,(kc 14))]⟩),(9,0,
 T 46 true (kC 50 41 [(kt 49)])),(10,0,T 46 true (kC 51 20 [(kt 48),(kt 50)])),(11,0,kPf 52 46 51),(12,0,M 10 52)]) (Z (K.dops [(0,0,D 53 6 0),(1,0,L 54 53 1),(2,0,kd 55 3 1 2 [ki,ki] [(0,1,(kc 1)),(1,1,(kc 3))]),(3,0,kC 56 41 [(kt 55)]),(4,0,kC 57 20 [(kt 54),(kt 56)]),(5,0,M 58 57),(6,0,T 58 true (D 59 6 1)),(7,0,T 58 true (L 60 59 1)),(8,0,⟨some (58,true),.bslice (some 61) 3 1 7 [ki,ki,ki,ki,ki,ki,ki] [(0,1,(kc 10)),(1,1,(kc 11)),(2,1,(kc 12)),(3,1,(kc 13)),(4,1,(kc 15)),(5,1,(kc 16)),(6,1,(kc 17))]⟩),(9,0,T 58 true (kC 62 41 [(kt 61)])),(10,0,T 58 true (kC 63 20 [(kt 60),(kt 62)])),(11,0,kPf 64 58 63),(12,0,M 11 64)]) (G [M 65 4,kQi 66 65 0 false,M 67 66,T 67 true (M 68 7),T 67 true (kQi 69 68 0 false),kPf 70 67 69,M 71 70,T 71 true (D 72 2 1),T 71 true (L 73 72 1),T 71 true (kQi 74 73 2 false),kPf 75 71 74,M 76 75,T 76 true (D 77 5 1),T 76 true (L 78 77 1),T 76 true (kQi 79 78 5 false),kPf 80 76 79,M 81 80,T 81 true (M 82 10),kPf 83 81 82,M 84 83,T 84 true (M 85 11),kPf 86 84 85,M 87 86,T 87 true (M 88 9),⟨some (87,true),.bslice (some 89) 3 1 1 [ki] [(0,1,(kc 17))]⟩,T 87 true (kC 90 41 [(kt 89)]),T 87 true (kC 91 20 [(kt 88),(kt 90)]),kPf 92 87 91,M 93 92,T 93 true (J 94 3 2),T 93 true (M 95 9),T 93 true (kC 96 29 [(kt 94),(kt 95)]),T 93 true (kR 97 96),kPf 98 93 97,M 99 98,T 99 true (J 100 6 2),T 99 true (M 101 9),T 99 true (kC 102 29 [(kt 100),(kt 101)]),kPf 103 99 102,M 0 103] kr)))))))))
def zVg:Nat→Option (List (Nat×Nat)):=fun r=>match r with | 2=>some [(0,1),(1,1),(2,0),(3,0),(4,1),(5,0),(6,0),(7,0),(8,0),(9,340),(10,341),(11,0),(12,0),(13,0)] | 3=>some [(0,1),(1,1),(2,0),(3,0),(4,1),(5,0),(6,0),(7,0),(8,0),(9,350),(10,351),(11,0),(12,0),(13,0)] | _=>none
theorem qAF:qC Tryz.prog Tryz.f11.ntmps zVg (Tryz.f11.body.getD .skip)=some zTq.erase:=by kernel_rfl
@[simp] theorem zTU:zA Tryz.prog 11=true:=by kernel_rfl
def zTc:Entry:=⟨zTq,[.slot 0],false⟩
theorem zUD:jN Tryz.prog 11 zTc:=⟨zTU,_,_,zVg,Tryz.func11,rfl,qAF,by kernel_rfl⟩
def qOK:List (Nat×Entry):=(11,zTc)::(41,qEU)::(20,zTe)::(40,EId)::(88,qEW)::(39,EEx)::qJe
theorem zYv:∀f e,zDW f qOK=some e→jN Tryz.prog f e:=jS zUD (jS qB3 (jS zUF (jS qH0 (jS qB5 (jS qHz zYu)))))
def qCm:Run:=fun f xs σ=>match Nat.beq f 29,xs,σ with
 | true,[.agg [.sl n a,.sl m b],.sl k c],[]=>(match zP1 a,zP1 b,zP1 c with
  | some la,some lb,some lc=>if n=la.length∧m=lb.length∧k=lc.length∧(la++lb).length≤1000000 then some (bl (lc.any fun x=>decide (x∈la++lb)),[]) else none
  | _,_,_=>none)
 | _,_,_=>none
@[simp] theorem zTR:zA Tryz.prog 29=true:=by kernel_rfl
theorem zYg:zAn Tryz.prog qCm:=by
 intro f xs σ r σ' h;unfold qCm at h;split at h<;>try (cases h; done)
 rename_i n a m b k c hf;split at h<;>try (cases h; done)
 rename_i la lb lc h1 h2 h3;split at h<;>try (cases h; done)
 rename_i hc;cases h;have hf':=Nat.eq_of_beq_eq_true hf;subst hf';refine⟨zTR,?_⟩;rw[zE2 h1,zE2 h2,zE2 h3,hc.1,hc.2.1,hc.2.2.1];exact zW5 ⟨la,lb⟩ lc (la++lb) rfl hc.2.2.2
theorem qBB:zUr exP.defs exQ.defs=[⟨0,1,17⟩]:=by rw[zUr,zNi];kernel_rfl
@[simp] theorem zWH:zA Tryz.prog 21=true:=by kernel_rfl
def qI9:Run:=zYk [(21,[.agg (zU exP),.agg (zU exQ)],.sl 1 (qF [⟨0,1,17⟩]))]
theorem zYh:zAn Tryz.prog qI9:=zRq fun p hp=>by rw[List.mem_singleton]at hp;subst hp;refine⟨zWH,?_⟩;have:=zPy exP exQ (by decide) (by decide) (by decide) (by decide);rw[qBB]at this;exact this
def qOG:Run:=orE qCn (orE qCm qI9)
theorem zYi:zAn Tryz.prog qOG:=zVF zYj (zVF zYg zYh)
set_option maxRecDepth 100000 in
theorem zKs:Ret Tryz.prog 11 [] [] (bl true) []:=zVP (lf:=20) (n:=50) zYv zYi (by kernel_rfl)
abbrev zMR:FuncId:=79
theorem zZF {hs:List Hd}{R:Nat}{m:Mk}(hx:Cx hs R m){k:Nat}(hk:k<hs.length)(h1:∀(j:Nat)(hj:j<k),hs[j].id≠hs[k].id):∃h:k<m.defs.length,zGs m.defs hs[k].id=(m.defs[k],true)∧m.defs[k].hd=hs[k]:=by
 have hl:=hx.dlen;have h:k<m.defs.length:=by omega
 have hg:=hx.get h;refine⟨h,?_,hg.symm⟩;unfold zGs;rw[zIm h (fun d hd=>?_) (by rw[hg]; rfl)];rw[List.mem_take_iff_getElem]at hd;obtain⟨j,hj,rfl⟩:=hd;have hjl:j<m.defs.length:=by omega
 have:=h1 j (by omega);rw[hx.get hjl]at this;exact this
set_option maxHeartbeats 1000000 in
theorem zXL {hs:List Hd}{R:Nat}{m:Mk}{env:List Bnd}(hl:Lim m 1)(x depth:Int)(hx0:0≤x)(hx1:x≤65536):zA5 hs m.own zMR m [.ptr 0 0,.agg (zB jK),.sl env.length (zQ env),int x,int depth] env jK 1:=by
 have e9:x.tmod 9=x % 9:=tmN hx0;have e29:x.tmod 29=x % 29:=tmN hx0;have e2:x.tmod 2=x % 2:=tmN hx0;have key:∀n,-1099511627776≤n→n≤1099511627776→(∀(K:Prop),K→K)→Ret Tryz.prog zMR [.ptr 0 0,.agg (zB jK),.sl env.length (zQ env),int x,int depth] (mkS m) (.agg (zF (.mk ⟨0,0,m.temp⟩ 0 n Id.zero Typ.zero [] []))) (mkS {m with temp:=m.temp+1,left:=m.left-1})→zA5 hs m.own zMR m [.ptr 0 0,.agg (zB jK),.sl env.length (zQ env),int x,int depth] env jK 1:=fun n q1 q2 _ h =>
  ⟨_,_,h,yR m,.int _ _ _ q1 q2,by simp only[tmps,jX,List.nil_append]; exact Seg.one _,zGj⟩
 have w1:IntKind.i64.wrap (x.tmod 9-2)=x.tmod 9-2:=IntWalk.i64_in _ (by omega);have w2:IntKind.i64.wrap (1099511627776-x.tmod 2)=1099511627776-x.tmod 2:=IntWalk.i64_in _ (by omega);obtain⟨l1,l2,l3,l4,l5,l6,l7,l8⟩:=hl;by_cases h29:x.tmod 29=3
 ·refine key (1099511627776-x.tmod 2) (by omega) (by omega) (fun _ h=>h) ?_;refine zH Tryz.func79 rfl zRL (rs:=[.cell 10 15 true]) (by kernel_rfl) ?_;unfold zPi;simp[mkS,mkB,zB,jK,w1,w2,h29];refine zN (yH m 0 (1099511627776-x.tmod 2) [] l3 (by omega) (by omega) l6) [0,1] (by decide) (by simp[mkS,mkB]) (by simp) ?_;simp[mkS,mkB];exact zG [0,1] 0 (by decide) (by simp) (by simp) (by simp)
 ·refine key (x.tmod 9-2) (by omega) (by omega) (fun _ h=>h) ?_;refine zH Tryz.func79 rfl zRL (rs:=[.cell 10 15 true]) (by kernel_rfl) ?_;unfold zPi;simp[mkS,mkB,zB,jK,w1,w2,h29];refine zN (yH m 0 (x.tmod 9-2) [] l3 (by omega) (by omega) l6) [0,1] (by decide) (by simp[mkS,mkB]) (by simp) ?_;simp[mkS,mkB];exact zG [0,1] 0 (by decide) (by simp) (by simp) (by simp)
theorem zVu {hs:List Hd}{m:Mk}{env:List Bnd}(hl:Lim m 1)(x depth:Int)(hx0:0≤x):zA5 hs m.own zMR m [.ptr 0 0,.agg (zB jT),.sl env.length (zQ env),int x,int depth] env jT 1:=by have e2:x.tmod 2=x % 2:=tmN hx0;obtain⟨l1,l2,l3,l4,l5,l6,l7,l8⟩:=hl;refine⟨.mk ⟨0,0,m.temp⟩ 1 (x.tmod 2) Id.zero Typ.zero [] [],_,?_,yR m,.bool _ _ _ (by omega),by simp only[tmps,jX,List.nil_append]; exact Seg.one _,zGj⟩;refine zH Tryz.func79 rfl zRL (rs:=[.cell 10 15 true]) (by kernel_rfl) ?_;unfold zPi;simp[mkS,mkB,zB,jT];refine zN (yH m 1 (x.tmod 2) [] l3 (by omega) (by omega) l6) [0,1] (by decide) (by simp[mkS,mkB]) (by simp) ?_;simp[mkS,mkB];exact zG [0,1] 0 (by decide) (by simp) (by simp) (by simp)
set_option maxHeartbeats 1000000 in
theorem zVw {hs:List Hd}{R:Nat}{m:Mk}{env:List Bnd}{c depth:Int}{Q:Nat→Prop}{len:Nat}(hc:0≤c)(hl:Lim m (2*c+1))(x:Int)(hx0:0≤x)(t:Typ){r:Nat}(hr:TyOk hs r t)(hQ:Q r)
 (hk:zBd hs R c (depth-1) Q len)(hx:Cx hs R m)(he:EnvOk hs R m.temp env)(h1:0<env.length)(h2:env.length≤len)(hd1 : -1000≤depth)(hd2:depth≤1000) :
 zA5 hs m.own zMR m [.ptr 0 0,.agg (zB (jM t)),.sl env.length (zQ env),int x,int depth] env (jM t) (2*c+1):=by
 have e3:x.tmod 3=x % 3:=tmN hx0;have wd:IntKind.i64.wrap (depth-1)=depth-1:=IntWalk.i64_in _ (by omega);obtain⟨K,hK,hK2⟩:∃K:Nat,(K:Int)=(if 0≤depth then x.tmod 3 else 0)∧K≤2:=by
  by_cases h:0≤depth
  ·exact⟨(x % 3).toNat,by rw[if_pos h,e3]; omega,by omega⟩
  ·exact⟨0,by rw[if_neg h]; rfl,by omega⟩
 have hKc:(K:Int)*c≤2*c:=Int.mul_le_mul_of_nonneg_right (by omega) hc;obtain⟨es,ms,q0,q2,q3,q4,q6,q7,q5⟩:=zVo hk hc env h1 h2 t hr hQ m hx he K (hl.mono (by omega));have ha:=q3 es.length (Nat.le_refl _);have hec:(es.length:Int)*c≤2*c:=Int.mul_le_mul_of_nonneg_right (by omega) hc;have ha2:=ha.mono hec;have hln:=Lim.adv (c:=2*c) (c':=1) hl ha2;obtain⟨l1,l2,l3,l4,l5,l6,l7,l8⟩:=hln;refine⟨.mk ⟨0,0,(ms es.length).temp⟩ 11 0 Id.zero t es [],{ms es.length with temp:=(ms es.length).temp+1,left:=(ms es.length).left-1},?_,ha2.trans (yR _),.list _ _ _ _ fun j hj=>(q5 j hj).2.1,
  by simp only[tmps]; exact q4.append (Seg.one _) ha.temp1 (by omega),zCt (zH9 rfl fun j hj=>(q5 j hj).2.2)⟩
 refine zH Tryz.func79 rfl zRL (rs:=[.cell 10 15 true]) (by kernel_rfl) ?_;unfold zPi;simp[mkS,mkB,zB,jM];refine qZ (S:=Nat) (fun i=>[(0,.ptr 0 0),(2,.sl env.length (zQ env)),(3,int x),(4,int depth),(6,.ptr 2 0),(10,.ptr 3 0),(12,.row 4 i),(13,int i)])
  (fun i=>mkS (ms i)++[.box (zB (jM t)),.box (zF Exp.zero),.row false 37 15 i (qL (es.take i))]) (fun i=>i≤es.length) (fun i=>es.length-i) 0 (by simp)
  ((yA (t:=12) (by simp) 37 15).trans (zS [0,1,2,3,4] 0 (by decide) (by simp) (by simp[mkS,mkB,zB,jM,q2,zF,Exp.zero,Id.zero,Typ.zero]) (by simp))) ?_
 intro i hi;have hms:=q3 i hi;by_cases hi2:i<es.length
 ·obtain⟨g1,_,_⟩:=q5 i hi2;have c2:0≤depth:=by
   by_cases h:0≤depth
   ·exact h
   ·rw[if_neg h]at hK; omega
  have c1:(i:Int)<x.tmod 3:=by rw[if_pos c2]at hK; omega
  have c3:=q6 i hi2;have hst:qL (es.take (i+1))=qL (es.take i)++zF es[i]:=zAi hi2;have hw:IntKind.i64.wrap ((i:Int)+1)=(i:Int)+1:=IntWalk.i64_in _ (by omega);simp[mkS,mkB,zB,jM,c1,c2,c3,wd,qN];refine zN g1 [0,1] (by decide) (by simp[mkS,mkB]) (by simp[zB]) ?_;simp[mkS,mkB];refine⟨⟨by simp[maxLen]; omega,by omega⟩,?_⟩;exact zT (i+1) hi2 (by omega) (zS [0,1,2,3,4] 0 (by decide) (by simp) (by simp[mkS,mkB,zB,jM,zF,Exp.zero,Id.zero,Typ.zero,hst]) (by simp[hw]))
 ·have hie:i=es.length:=by omega
  subst hie;have hexit:¬((es.length:Int)<x.tmod 3∧0≤depth∧0<(ms es.length).left):=fun hh=>by
   rcases q7 with q7 | q7
   ·rw[if_pos hh.2.1]at hK; omega
   ·omega
  by_cases c1:(es.length:Int)<x.tmod 3
  ·by_cases c2:0≤depth
   ·have c3:¬0<(ms es.length).left:=fun h=>hexit ⟨c1,c2,h⟩
    simp[mkS,mkB,zB,jM,c1,c2,c3,qN];refine⟨qT [(0,.ptr 0 0),(6,.ptr 2 0),(10,.ptr 3 0),(12,.sl es.length (qL es))],mkS (ms es.length)++[.box (zB (jM t)),.box (zF Exp.zero)],zS [0,1,2,3] 1 (by decide) (by simp) (by simp[mkS,mkB,zB,jM,zF,Exp.zero,Id.zero,Typ.zero,qN]) (by simp),?_⟩;simp[mkS,mkB,zB,jM];refine zN (yH (ms es.length) 11 0 es l3 (by omega) (by omega) l6) [0,1] (by decide) (by simp[mkS,mkB]) (by simp) ?_;simp[mkS,mkB,zB,jM,zF,qN];exact zG [0,1] 0 (by decide) (by simp) (by simp) (by simp[zF])
   ·simp[mkS,mkB,zB,jM,c1,c2,qN];refine⟨qT [(0,.ptr 0 0),(6,.ptr 2 0),(10,.ptr 3 0),(12,.sl es.length (qL es))],mkS (ms es.length)++[.box (zB (jM t)),.box (zF Exp.zero)],zS [0,1,2,3] 1 (by decide) (by simp) (by simp[mkS,mkB,zB,jM,zF,Exp.zero,Id.zero,Typ.zero,qN]) (by simp),?_⟩;simp[mkS,mkB,zB,jM];refine zN (yH (ms es.length) 11 0 es l3 (by omega) (by omega) l6) [0,1] (by decide) (by simp[mkS,mkB]) (by simp) ?_;simp[mkS,mkB,zB,jM,zF,qN];exact zG [0,1] 0 (by decide) (by simp) (by simp) (by simp[zF])
  ·simp[mkS,mkB,zB,jM,c1,qN];refine⟨qT [(0,.ptr 0 0),(6,.ptr 2 0),(10,.ptr 3 0),(12,.sl es.length (qL es))],mkS (ms es.length)++[.box (zB (jM t)),.box (zF Exp.zero)],zS [0,1,2,3] 1 (by decide) (by simp) (by simp[mkS,mkB,zB,jM,zF,Exp.zero,Id.zero,Typ.zero,qN]) (by simp),?_⟩;simp[mkS,mkB,zB,jM];refine zN (yH (ms es.length) 11 0 es l3 (by omega) (by omega) l6) [0,1] (by decide) (by simp[mkS,mkB]) (by simp) ?_;simp[mkS,mkB,zB,jM,zF,qN];exact zG [0,1] 0 (by decide) (by simp) (by simp) (by simp[zF])
theorem zQw {p:Prg}{t:Typ}(h:validT p t=true)(h2:t.k=2):∃x,t.kids=[x]:=by
 cases t with
 | mk k id kids =>
  simp only[Typ.k_mk]at h2;subst h2;simp only[validT,jW,Typ.k_mk,Typ.id_mk,Typ.kids_mk,if_true]at h;split at h
  ·exact⟨_,rfl⟩
  ·cases h
theorem zSk {p:Prg}{ts:List Typ}:zBK p ts []=true:=by cases ts<;>simp[zBK]
theorem zVa {p:Prg}{t:Typ}{v:Val}(h:validT p t=false):zB7 p t v=false:=by rw[zCq,h]; rfl
set_option maxHeartbeats 1000000 in
theorem zJ4 (p:Prg)(t:Typ)(v:Val):Ret Tryz.prog 92 [.agg (zU p),.agg (zB t),.agg (zI v)] [] (bl (zB7 p t v)) []:=by
 refine zK Tryz.func92 rfl qM9 (rs:=[.slot 6]) (by kernel_rfl) ?_;unfold qFP;simp[zU,zB,zI];refine zR (zWk p t) (by simp[zU,zB]) (by simp) ?_;cases hv:validT p t with
 | false =>
  simp;exact zC 0 (by simp[zVa hv])
 | true =>
 by_cases h0:t.k=0
 ·have e:zB7 p t v=(decide (v.k=0)&&decide (v.kids.length=0)&&decide (-1099511627776≤v.n)&&decide (v.n≤1099511627776)):=by rw[zCq,hv,if_pos h0,Bool.true_and]
  by_cases c1:v.k=0
  ·by_cases c2:v.kids.length=0
   ·by_cases c3 : -1099511627776≤v.n
    ·simp[hv,h0,c1,c2,c3];exact zC 0 (by rw[e]; simp[c1,c2,c3])
    ·simp[hv,h0,c1,c2,c3];exact zC 0 (by rw[e]; simp[c1,c2,c3])
   ·simp[hv,h0,c1,c2];exact fun _=>zC 0 (by rw[e]; simp[c1,c2])
  ·simp[hv,h0,c1];exact zC 0 (by rw[e]; simp[c1])
 by_cases h1:t.k=1
 ·have e:zB7 p t v=(decide (v.k=1)&&decide (v.kids.length=0)&&(decide (v.n=0)||decide (v.n=1))):=by rw[zCq,hv,if_neg h0,if_pos h1,Bool.true_and]
  by_cases c1:v.k=1
  ·by_cases c2:v.kids.length=0
   ·by_cases c3:v.n=0
    ·simp[hv,h1,c1,c2,c3];exact zC 0 (by rw[e]; simp[c1,c2,c3])
    ·simp[hv,h1,c1,c2,c3];exact zC 0 (by rw[e]; simp[c1,c2,c3])
   ·simp[hv,h1,c1,c2];exact fun _=>zC 0 (by rw[e]; simp[c1,c2])
  ·simp[hv,h1,c1];exact zC 0 (by rw[e]; simp[c1])
 by_cases h2:t.k=2
 ·obtain⟨x,hx⟩:=zQw hv h2;have e:zB7 p t v=(decide (v.k=4)&&decide (v.n=0)&&v.kids.all (zB7 p x)):=by rw[zCq,hv,if_neg h0,if_neg h1,if_pos h2,Bool.true_and,hx]; rfl
  by_cases c1:v.k=4
  ·by_cases c2:v.n=0
   ·simp[hv,h2,c1,c2];refine zN (zWX p t (fun y=>!zB7 p x y) v.kids (fun y hy=>zUZ p t x hx y _ (zJ4 p x y))) [0,1] (by simp) (by simp[fSt,zU,zB,h2]) (by simp) ?_;simp[fSt,zU,zB];exact zC 0 (by rw[e]; simp[c1,c2,List.all_eq_not_any_not])
   ·simp[hv,h2,c1,c2];exact zC 0 (by rw[e]; simp[c1,c2])
  ·simp[hv,h2,c1];exact zC 0 (by rw[e]; simp[c1])
 have e:=zCq p t v;rw[hv,if_neg h0,if_neg h1,if_neg h2,Bool.true_and]at e;simp[hv,h0,h1,h2];refine zR (zE3 p t.id) (by simp[zU,qX]) (by simp[zAL]) ?_;have hD:(yC p.defs t.id).getD .zero=dfn p t.id:=rfl;generalize dfn p t.id=D at hD e;by_cases hk:D.kind=1
 ·rw[if_pos hk]at e;by_cases c1:v.k=3
  ·by_cases c2:0≤v.n
   ·by_cases c3:v.n<D.slots.length
    ·by_cases c4:v.kids.length=1
     ·obtain⟨x,hx⟩:∃x,v.kids=[x]:=List.length_eq_one_iff.1 c4;obtain⟨i,hi⟩:∃i:Nat,v.n=i:=⟨v.n.toNat,by omega⟩;have hil:i<D.slots.length:=by omega
      simp[zAL,hD,zP,hk,c1,hi,hil,hx,jL hil,zAd];refine qE (zJ4 p D.slots[i].typ x) (by simp[zU,zB,zI]) (by simp) ?_;simp;exact zC 0 (by rw[e]; simp[c1,hi,hil,hx,zRa])
     ·have c4':¬(v.kids.length:Int)=1:=by omega
      simp[zAL,hD,zP,hk,c1,c2,c3,c4']
      first | exact zC 0 (by rw[e]; simp[c1,c2,c3,c4]) | exact fun _=>zC 0 (by rw[e]; simp[c1,c2,c3,c4]) | exact fun _ _=>zC 0 (by rw[e]; simp[c1,c2,c3,c4])
    ·simp[zAL,hD,zP,hk,c1,c2,c3];exact zC 0 (by rw[e]; simp[c1,c2,c3])
   ·simp[zAL,hD,zP,hk,c1,c2];exact zC 0 (by rw[e]; simp[c1,c2])
  ·simp[zAL,hD,zP,hk,c1];exact zC 0 (by rw[e]; simp[c1])
 rw[if_neg hk]at e;by_cases c1:v.k=2
 ·by_cases c2:v.n=0
  ·by_cases c3:v.kids.length=D.slots.length
   ·simp[zAL,hD,zP,hk,c1,c2,c3];intro hl;refine qZ (S:=Nat) (fun i=>[(3,.ptr 0 0),(7,.ptr 3 0),(141,.sl v.kids.length (zV v.kids)),(142,int v.kids.length),(143,int i)])
     (fun i=>[.box (zU p),.box (zB t),.box (zI v),.box (zP D)]) (fun i=>i≤v.kids.length∧zBK p (D.slots.map Slt.typ) v.kids=zBK p ((D.slots.map Slt.typ).drop i) (v.kids.drop i)) (fun i=>v.kids.length-i) 0 (by simp)
     (zS [0,1,2,3] 0 (by decide) (by simp) (by simp[zU,zB,zI,zP,hk,c1,c2,c3]) (by simp[c3])) ?_
    rintro i ⟨hi,ho⟩;by_cases hil:i<v.kids.length
    ·have hiD:i<D.slots.length:=by omega
     have d1:v.kids.drop i=v.kids[i]::v.kids.drop (i+1):=List.drop_eq_getElem_cons hil;have d2:(D.slots.map Slt.typ).drop i=D.slots[i].typ::(D.slots.map Slt.typ).drop (i+1):=by rw[List.drop_eq_getElem_cons (by simpa using hiD)]; simp
     simp[hil,hiD,jD hil,jL hiD,zU,zP,zAd];refine qE (zJ4 p D.slots[i].typ v.kids[i]) (by simp[zU,zB,zI]) (by simp) ?_;cases hf:zB7 p D.slots[i].typ v.kids[i]with
     | true =>
      simp;exact zT (i+1) ⟨hil,by rw[ho,d1,d2]; simp[zBK,hf]⟩ (by omega) (zS [0,1,2,3] 0 (by decide) (by simp) (by simp[zU,zB,zI,zP]) (by simp[qB hil (c3▸hl)]))
     | false =>
      simp;exact zC 0 (by rw[e,ho,d1,d2]; simp[zBK,hf])
    ·have:i=v.kids.length:=by omega
     subst this;simp;exact zC 0 (by rw[e,ho,List.drop_eq_nil_of_le (Nat.le_refl v.kids.length),zSk]; simp[c1,c2,c3])
   ·have c3':¬(v.kids.length:Int)=D.slots.length:=by omega
    simp[zAL,hD,zP,hk,c1,c2,c3']
    first | exact zC 0 (by rw[e]; simp[c1,c2,c3]) | exact fun _=>zC 0 (by rw[e]; simp[c1,c2,c3]) | exact fun _ _=>zC 0 (by rw[e]; simp[c1,c2,c3])
  ·simp[zAL,hD,zP,hk,c1,c2];exact zC 0 (by rw[e]; simp[c1,c2])
 ·simp[zAL,hD,zP,hk,c1];exact zC 0 (by rw[e]; simp[c1])
termination_by qH v
decreasing_by
 ·exact zAu hy
 ·exact zAu (by simp[hx])
 ·exact zAu (List.getElem_mem _)
theorem zM0 (p:Prg)(t:Typ)(v:Val)(h1:qH v≤256)(h2:zA0 v≤24) :
 Ret Tryz.prog 45 [.agg (zU p),.agg (zB t),.agg (zI v)] [] (bl (zB7 p t v)) []:=by
 refine zK Tryz.func45 rfl qMC (rs:=[.slot 6]) (by kernel_rfl) ?_;unfold qFS;simp[zU,zB,zI];refine zR (zWa v h1 h2) (by simp[zI]) (by simp) ?_;simp;refine zR (zJ4 p t v) (by simp[zU,zB,zI]) (by simp) ?_;simp;exact zC 0 (by simp)
abbrev vz:Val:=.mk 0 0 []
def zGB (a b:Int):Int:=if b=0 then 0 else if a.tmod b≠0∧¬(a<0↔b<0) then a.tdiv b-1 else a.tdiv b
def zNd (a b:Int):Int:=if b=0 then 0 else a-b*zGB a b
def zLz (n a b:Int):Int:=if n=0 then zB3 (a+b) else if n=1 then zB3 (a-b) else if n=2 then zB3 (a*b) else if n=3 then zGB a b else zNd a b
def opV (n:Int):List Val→Val
 | [a]=>if n=9 then zBB (decide (a.n=0)) else .mk 0 a.kids.length []
 | [a,b]=>if n≤4 then .mk 0 (zLz n a.n b.n) [] else if n=5 then zBB (decide (a.n<b.n)) else if n=6 then zBB (decide (zJv a b=0))
  else if n=7 then zBB (decide (a.n=1∧b.n=1)) else if n=8 then zBB (decide (a.n=1∨b.n=1)) else .mk 4 0 (a.kids++b.kids)
 | _=>vz
structure XS where
 fuel:Int
 fail:Int
 ds:List Id
 ns:List Id
abbrev Evl:=Exp→List EVar→XS→Val×XS
def qK (ev:Evl)(env:List EVar):List Exp→XS→List Val×XS
 | [],s=>([],s)
 | e::l,s=>((ev e env s).1::(qK ev env l (ev e env s).2).1,(qK ev env l (ev e env s).2).2)
theorem zFQ (ev:Evl)(env:List EVar)(e:Exp):∀(l:List Exp) (s:XS),qK ev env (l++[e]) s=((qK ev env l s).1++[(ev e env (qK ev env l s).2).1],(ev e env (qK ev env l s).2).2)
 | [],s=>rfl
 | x::l,s=>by simp only[List.cons_append,qK,zFQ ev env e l]
theorem zBN (ev:Evl)(env:List EVar):∀(l:List Exp) (s:XS),(qK ev env l s).1.length=l.length
 | [],s=>rfl
 | x::l,s=>by simp only[qK,List.length_cons,zBN ev env l]
def jR (ev:Evl)(env:List EVar)(i:Id)(b:Exp):List Val→Val×XS→Val×XS
 | [],r=>r
 | x::l,r=>jR ev env i b l (ev b (env++[⟨i,0,x⟩]++[⟨i,1,r.1⟩]) r.2)
theorem zE9 (ev:Evl)(env:List EVar)(i:Id)(b:Exp)(x:Val):∀(l:List Val) (r:Val×XS),jR ev env i b (l++[x]) r=ev b (env++[⟨i,0,x⟩]++[⟨i,1,(jR ev env i b l r).1⟩]) (jR ev env i b l r).2
 | [],r=>rfl
 | y::l,r=>by simp only[List.cons_append,jR,zE9 ev env i b x l]
def zBF (ss:List Slt)(vs:List Val):List EVar:=List.zipWith (fun s v=>⟨s.id,0,v⟩) ss vs
theorem zFy (ss:List Slt)(vs:List Val)(h:vs.length=ss.length):(zBF ss vs).length=ss.length:=by simp[zBF,h]
theorem zIj {ss:List Slt}{vs:List Val}(h:vs.length=ss.length){i:Nat}(hi:i<ss.length):(zBF ss vs).take (i+1)=(zBF ss vs).take i++[⟨ss[i].id,0,vs[i]⟩]:=by rw[List.take_succ_eq_append_getElem (by rw[zFy ss vs h]; exact hi)];simp[zBF]
def zA6 (ev:Evl)(d:Dfn)(vs:List Val)(s:XS):Val×XS:=if s.fail≠0 then (vz,s) else ev d.body (zBF d.slots vs) {s with ds:=s.ds++[d.id]}
def jA (ev:Evl)(e:Exp)(env:List EVar)(s:XS):Val×XS :=
 if (ev (e.kids.headD .zero) env s).2.fail≠0 then (vz,(ev (e.kids.headD .zero) env s).2)
 else if e.k=5 then ev (e.kids.getD (if (ev (e.kids.headD .zero) env s).1.n=1 then 1 else 2) .zero) env (ev (e.kids.headD .zero) env s).2
 else if e.k=6 then ev (e.kids.getD 1 .zero) (env++[⟨e.id,0,(ev (e.kids.headD .zero) env s).1⟩]) (ev (e.kids.headD .zero) env s).2
 else if e.k=8 then ((ev (e.kids.headD .zero) env s).1.kids.getD e.n.toNat vz,(ev (e.kids.headD .zero) env s).2)
 else if e.k=10 then ev (e.kids.getD (1+(ev (e.kids.headD .zero) env s).1.n).toNat .zero) (env++[⟨e.id,(ev (e.kids.headD .zero) env s).1.n,(ev (e.kids.headD .zero) env s).1.kids.headD vz⟩]) (ev (e.kids.headD .zero) env s).2
 else jR ev env e.id (e.kids.getD 2 .zero) (ev (e.kids.headD .zero) env s).1.kids (ev (e.kids.getD 1 .zero) env (ev (e.kids.headD .zero) env s).2)
def zf (c:Bool)(s:XS)(v:Val):Val:=if c=true∧s.fail≠0 then vz else v
def qJ (p:Prg)(fl:Nat)(ev:Evl)(e:Exp)(env:List EVar)(s:XS):Val×XS :=
 if e.k=0 then (.mk 0 e.n [],s)
 else if e.k=1 then (.mk 1 e.n [],s)
 else if e.k=2 then (zEf env e.ref e.n,s)
 else if e.k=5∨e.k=6∨e.k=8∨e.k=10∨e.k=12 then jA ev e env s
 else if e.k=3 then zA6 ev (dfn p e.ref) (qK ev env e.kids s).1 (qK ev env e.kids s).2
 else if e.k=4 then (zf true (qK ev env e.kids s).2 (opV e.n (qK ev env e.kids s).1),(qK ev env e.kids s).2)
 else if e.k=7 then (zf (fl==1) (qK ev env e.kids s).2 (.mk 2 0 (qK ev env e.kids s).1),(qK ev env e.kids s).2)
 else if e.k=9 then (zf (fl==1) (qK ev env e.kids s).2 (.mk 3 e.n (qK ev env e.kids s).1),(qK ev env e.kids s).2)
 else (zf (fl==1) (qK ev env e.kids s).2 (.mk 4 0 (qK ev env e.kids s).1),(qK ev env e.kids s).2)
def zPm (v:Val):Prop:=256<zDc v∨24<zB5 v
instance (v:Val):Decidable (zPm v):=by unfold zPm; infer_instance
abbrev zFv:Int:=18
abbrev zFw:Int:=4
def zB8 (r:Val×XS):XS:=if r.2.fail=0∧zPm r.1 then {r.2 with fail:=zFw} else r.2
def zLs (fl:Nat)(r:Val×XS):Val×XS:=(zf (fl==2) (zB8 r) r.1,zB8 r)
def zD4 (e:Exp)(s:XS):XS:={s with fuel:=s.fuel-1,ns:=s.ns++[e.id]}
def zAs (p:Prg)(fl:Nat):Nat→Evl
 | 0,_,_,s=>if s.fail≠0 then (vz,s) else (vz,{s with fail:=zFv})
 | m+1,e,env,s =>
  if s.fail≠0 then (vz,s) else if s.fuel≤0 then (vz,{s with fail:=zFv})
  else zLs fl (qJ p fl (zAs p fl m) e env (zD4 e s))
end Go.Proofs.YthglhccibdlccaaGreatDoor
