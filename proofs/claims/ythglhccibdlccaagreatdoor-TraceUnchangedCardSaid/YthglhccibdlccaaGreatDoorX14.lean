/-
  value.fits and value.Valid.
  The law's examples hold.
  The maker's literals, walked.
  value.fits and value.Valid: whether a value has a type.
  Evaluation as data: operations, and a run with its fuel, its failure, and what it has asked.
  The maker's literals of variants and records; all literals.
  fits and Valid of the reference.
  The maker's operations.
  Size and depth in plain numbers; Valid of the reference.
  The maker's matches.
-/
import Derived.Test.YthglhccibdlccaaGreatDoorX13
import Derived.Test.YthglhccibdlccaaGreatDoorX11
import Derived.Test.YthglhccibdlccaaGreatDoorX12
set_option linter.unusedVariables false
set_option maxHeartbeats 8000000
set_option maxRecDepth 100000
set_option linter.unusedSimpArgs false
open Go.Proofs.Tryz (prog)
namespace Go.Proofs.YthglhccibdlccaaGreatDoor
open Go.Abs
def dfn (p:Prg)(id:Id):Dfn:=(jO p.defs id).getD .zero
def fSt (p:Prg)(t:Typ):St:=[.box (zS p),.box (zB t)]
def zM5 (q:Val→Bool):List Val→Nat→Int
 | [],_=>-1
 | x::l,n=>if q x then n else zM5 q l (n+1)
theorem zPu (q:Val→Bool):∀(l:List Val) (n:Nat),(l.any q=true∧0≤zM5 q l n)∨(l.any q=false∧zM5 q l n = -1)
 | [],n=>.inr ⟨rfl,rfl⟩
 | x::l,n=>by
  simp only[zM5,List.any_cons];cases hx:q x with
  | true=>exact .inl ⟨by simp,by simp⟩
  | false=>simpa using zPu q l (n+1)
mutual
def zBq (p:Prg):Typ→Val→Bool
 | t,.mk k n l=>validT p t&&(if t.k=0 then decide (k=0)&&decide (l.length=0)&&decide (-1099511627776≤n)&&decide (n≤1099511627776) else if t.k=1 then decide (k=1)&&decide (l.length=0)&&(decide (n=0)||decide (n=1))
  else if t.k=2 then decide (k=4)&&decide (n=0)&&zFX p (t.kids.headD .zero) l
  else if (dfn p t.id).kind=1 then decide (k=3)&&decide (0≤n)&&decide (n<(dfn p t.id).slots.length)&&decide (l.length=1)&&zEj p ((dfn p t.id).slots.map Slt.typ)[n.toNat]? l
  else decide (k=2)&&decide (n=0)&&decide (l.length=(dfn p t.id).slots.length)&&zAG p ((dfn p t.id).slots.map Slt.typ) l)
def zFX (p:Prg)(t:Typ):List Val→Bool
 | []=>true
 | v::l=>zBq p t v&&zFX p t l
def zEj (p:Prg):Option Typ→List Val→Bool
 | some t,v::_=>zBq p t v
 | _,_=>false
def zAG (p:Prg):List Typ→List Val→Bool
 | t::ts,v::l=>zBq p t v&&zAG p ts l
 | _,_=>true
end
theorem zMX (p:Prg)(t:Typ):∀(l:List Val),zFX p t l=l.all (zBq p t)
 | []=>by rw[zFX]; rfl
 | v::l=>by rw[zFX,zMX p t l]; rfl
theorem zC7 (p:Prg)(t:Typ)(v:Val):zBq p t v=(validT p t&&(if t.k=0 then decide (v.k=0)&&decide (v.kids.length=0)&&decide (-1099511627776≤v.n)&&decide (v.n≤1099511627776) else if t.k=1 then decide (v.k=1)&&decide (v.kids.length=0)&&(decide (v.n=0)||decide (v.n=1))
 else if t.k=2 then decide (v.k=4)&&decide (v.n=0)&&v.kids.all (zBq p (t.kids.headD .zero))
 else if (dfn p t.id).kind=1 then decide (v.k=3)&&decide (0≤v.n)&&decide (v.n<(dfn p t.id).slots.length)&&decide (v.kids.length=1)&&zEj p ((dfn p t.id).slots.map Slt.typ)[v.n.toNat]? v.kids
 else decide (v.k=2)&&decide (v.n=0)&&decide (v.kids.length=(dfn p t.id).slots.length)&&zAG p ((dfn p t.id).slots.map Slt.typ) v.kids)):=by
 cases v with
 | mk k n l=>rw[zBq,zMX]; rfl
def qHN:K:=G [kO 3 0,kO 4 1,kO 5 2,kMb 6 false] (Z (G [J 11 3 2,J 12 4 5,kC 13 127 [(kt 11),(kt 12)],kR 14 13] (Y 14 (G [kMb 6 false] kr) ks)) (Z (G [D 15 4 0,L 16 15 1] (K.block 0 (G [kQi 18 16 0 false,M 17 18] (Y 17 (G [D 19 5 0,L 20 19 1,kQi 21 20 0 false,M 22 21,T 22 true (D 23 5 2),T 22 true (L 24 23 1),T 22 true (kN 25 24),T 22 true (kQi 26 25 0 false),kPf 27 22 26,M 28 27,T 28 true (D 29 5 1),T 28 true (L 30 29 1),⟨some (28,true),.bin (some 31) .geq (kt 30) (kc (-1099511627776))⟩,kPf 32 28 31,M 33 32,T 33 true (D 34 5 1),T 33 true (L 35 34 1),T 33 true (kBi 36 35 1099511627776 .leq),kPf 37 33 36,M 6 37] kr) (G [kQi 39 16 1 false,M 38 39] (Y 38 (G [D 40 5 0,L 41 40 1,kQi 42 41 1 false,M 43 42,T 43 true (D 44 5 2),T 43 true (L 45 44 1),T 43 true (kN 46 45),T 43 true (kQi 47 46 0 false),kPf 48 43 47,M 49 48,T 49 true (D 50 5 1),T 49 true (L 51 50 1),T 49 true (kQi 52 51 0 false),T 49 true (M 53 52),T 53 false (D 54 5 1),T 53 false (L 55 54 1),T 53 false (kQi 56 55 1 false),T 49 true (kPt 57 53 56),kPf 58 49 57,M 6 58] kr) (G [kQi 60 16 2 false,M 59 60] (Y 59 (G [D 61 5 0,L 62 61 1,kQi 63 62 4 false,M 64 63,T 64 true (D 65 5 1),T 64 true (L 66 65 1),T 64 true (kQi 67 66 0 false),kPf 68 64 67,M 69 68,T 69 true (D 70 5 2),T 69 true (L 71 70 1),⟨some (69,true),.clo (some 72) 128 [] [(kt 3),(kt 4)]⟩,T 69 true (kC 73 125 [(kt 71),(kt 72)]),T 69 true (kR 74 73),kPf 75 69 74,M 6 75] kr) ks)))))))) (G [J 77 3 2,D 78 4 1,J 79 78 3,kC 80 42 [(kt 77),(kt 79)],
 M 76 80,kE 81 76 0,kE 82 76 1,kZ 7 kz0,S 7 81 31,M 8 82] (Z (G [D 83 7 3,L 84 83 1,kQi 85 84 1 false] (Y 85 (Z (K.dops [(0,0,D 86 5 0),(1,0,L 87 86 1),(2,0,kQi 88 87 3 false),(3,0,M 89 88),(4,0,T 89 true (D 90 5 1)),(5,0,T 89 true (L 91 90 1)),(6,0,T 89 true (kBi 92 91 0 .geq)),(7,0,kPf 93 89 92),(8,0,M 94 93),(9,0,T 94 true (D 95 5 1)),(10,0,T 94 true (L 96 95 1)),(11,0,T 94 true (D 97 7 8)),(12,0,T 94 true (L 98 97 1)),(13,0,T 94 true (kN 99 98)),(14,0,T 94 true (kB 100 96 99 .lss)),(15,0,kPf 101 94 100),(16,0,M 102 101),(17,0,T 102 true (D 103 5 2)),(18,0,T 102 true (L 104 103 1)),(19,0,T 102 true (kN 105 104)),(20,0,T 102 true (kQi 106 105 1 false)),(21,0,kPf 107 102 106),(22,0,M 108 107),(23,0,T 108 true (J 109 3 2)),(24,0,T 108 true (D 110 7 8)),(25,0,T 108 true (L 111 110 1)),(26,0,T 108 true (D 112 5 1)),(27,0,T 108 true (L 113 112 1)),(28,0,T 108 true (kX 114 111 113 11)),(29,0,T 108 true (D 115 114 4)),(30,0,T 108 true (J 116 115 5)),(31,0,T 108 true (D 117 5 2)),(32,0,T 108 true (L 118 117 1)),(33,0,T 108 true (kXi 119 118 3 0)),(34,0,T 108 true (J 120 119 3)),(35,0,T 108 true (kC 121 92 [(kt 109),(kt 116),(kt 120)])),(36,0,kPf 122 108 121),(37,0,M 6 122)]) kr) ks)) (Z (G [D 123 5 0,L 124 123 1,kQi 125 124 2 true,M 126 125,T 126 false (D 127 5 1),T 126 false (L 128 127 1),T 126 false (kQi 129 128 0 true),kPt 130 126 129,M 131 130,T 131 false (D 132 5 2),T 131 false (L 133 132 1),T 131 false (kN 134 133),T 131 false (D 135 7 8),T 131 false (L 136 135 1),
 T 131 false (kN 137 136),T 131 false (kQ 138 134 137 true),kPt 139 131 138] (Y 139 (G [kMb 6 false] kr) ks)) (Z (G [D 140 5 2,L 141 140 1,kN 142 141,kMi 143 0] (K.block 1 (K.loop (G [kB 144 143 142 .lss] (Z (Y 144 ks (K.exit 1)) (Z (K.block 2 (G [M 145 143,kX 146 141 143 3,J 147 146 3,kZ 10 [ki,ki,kl],M 9 145,S 10 147 3] (Z (K.dops [(0,0,J 148 3 2),(1,0,D 149 7 8),(2,0,L 150 149 1),(3,0,M 151 9),(4,0,kX 152 150 151 11),(5,0,D 153 152 4),(6,0,J 154 153 5),(7,0,J 155 10 3),(8,0,kC 156 92 [(kt 148),(kt 154),(kt 155)]),(9,0,kR 157 156)]) (Y 157 (G [kMb 6 false] kr) ks)))) (K.ops [kBi 158 143 1 .add,M 143 158]))))))) (G [kMb 6 true] kr)))))))
theorem qOJ:zL prog Tryz.f92.ntmps (Tryz.f92.body.getD .skip)=some qHN.erase:=by kernel_rfl
@[simp] theorem qQm:zA prog 92=true:=by kernel_rfl
def qAT:K:=G [kO 3 0,kMb 4 false] (Z (K.dops [(0,0,J 5 1 2),(1,0,D 6 2 4),(2,0,L 7 6 1),(3,0,kXi 8 7 5 0),(4,0,J 9 8 5),(5,0,J 10 3 3),(6,0,kC 11 92 [(kt 5),(kt 9),(kt 10)]),(7,0,kR 12 11),(8,0,M 4 12)]) kr)
theorem qIK:zL prog Tryz.f128.ntmps (Tryz.f128.body.getD .skip)=some qAT.erase:=by kernel_rfl
@[simp] theorem qMi:zA prog 128=true:=by kernel_rfl
def qHQ:K:=G [kO 3 0,kO 4 1,kO 5 2,kMb 6 false] (G [J 7 5 3,kC 8 91 [(kt 7)],M 9 8,T 9 true (J 10 3 2),T 9 true (J 11 4 5),T 9 true (J 12 5 3),T 9 true (kC 13 92 [(kt 10),(kt 11),(kt 12)]),kPf 14 9 13,M 6 14] kr)
theorem qOM:zL prog Tryz.f45.ntmps (Tryz.f45.body.getD .skip)=some qHQ.erase:=by kernel_rfl
@[simp] theorem qQq:zA prog 45=true:=by kernel_rfl
theorem zWE (p:Prg)(t x:Typ)(hx:t.kids=[x])(v:Val)(b:Bool)(h:Ret prog 92 [.agg (zS p),.agg (zB x),.agg (zJ v)] [] (bl b) []) :
 Ret prog 128 [.agg (zJ v),.ptr 0 0,.ptr 1 0] (fSt p t) (bl (!b)) (fSt p t):=by
 refine zK Tryz.func128 rfl qIK (rs:=[.slot 4]) (by kernel_rfl) ?_;unfold qAT;simp[fSt,zS,zB,zJ,hx];refine qK h (by simp[zS,zB,zJ,qN]) (by simp) ?_;simp;exact zG [0,1] 0 (by decide) (by simp) (by simp[zS,zB,hx]) (by simp)
theorem zZs (p:Prg)(t:Typ)(q:Val→Bool)(l:List Val)(h:∀v∈l,Ret prog 128 [.agg (zJ v),.ptr 0 0,.ptr 1 0] (fSt p t) (bl (q v)) (fSt p t)) :
 Ret prog 143 [.sl l.length (zV l),.clo 128 [] [.ptr 0 0,.ptr 1 0]] (fSt p t) (int (zM5 q l 0)) (fSt p t):=by
 refine zK Tryz.func143 rfl qIM (rs:=[.slot 4]) (by kernel_rfl) ?_;unfold qCs;simp[fSt,zS,zB];intro hl;refine qW (S:=Nat) (fun i=>[(0,.sl l.length (zV l)),(1,.clo 128 [] [.ptr 0 0,.ptr 1 0]),(6,.sl l.length (zV l)),(7,int l.length),(8,int i)]) (fun i=>fSt p t) (fun i=>i≤l.length∧zM5 q l 0=zM5 q (l.drop i) i) (fun i=>l.length-i) 0 (by simp)
  (zR [0,1] 0 (by decide) (by simp) (by simp[fSt,zS,zB]) (by simp)) ?_
 rintro i ⟨hi,ho⟩;by_cases hil:i<l.length
 ·have hd:l.drop i=l[i]::l.drop (i+1):=jB8 hil;simp[hil,jN hil,fSt,zS,zB];refine zN (h l[i] (jA0 hil)) [0,1] (by simp) (by simp[fSt,zS,zB]) (by simp[zJ]) ?_;cases hq:q l[i]with
  | true =>
   simp[fSt,zS,zB];exact zG [0,1] 0 (by decide) (by simp) (by simp[zS,zB]) (by rw[ho,hd]; simp[zM5,hq])
  | false =>
   simp[fSt,zS,zB];exact zU (i+1) ⟨hil,by rw[ho,hd]; simp[zM5,hq]⟩ (by omega) (zR [0,1] 0 (by decide) (by simp) (by simp[fSt,zS,zB]) (by simp[qA hil hl]))
 ·have:i=l.length:=by omega
  subst this;simp[fSt,zS,zB];exact zG [0,1] 0 (by decide) (by simp) (by simp[zS,zB]) (by rw[ho]; simp[zM5])
theorem zYF (p:Prg)(t:Typ)(q:Val→Bool)(l:List Val)(h:∀v∈l,Ret prog 128 [.agg (zJ v),.ptr 0 0,.ptr 1 0] (fSt p t) (bl (q v)) (fSt p t)) :
 Ret prog 125 [.sl l.length (zV l),.clo 128 [] [.ptr 0 0,.ptr 1 0]] (fSt p t) (bl (l.any q)) (fSt p t):=by
 refine zK Tryz.func125 rfl qIH (rs:=[.slot 4]) (by kernel_rfl) ?_;unfold qCr;simp[fSt,zS,zB];refine zN (zZs p t q l h) [0,1] (by simp) (by simp[fSt,zS,zB]) (by simp) ?_;rcases zPu q l 0 with ⟨h1,h2⟩ | ⟨h1,h2⟩
 ·simp[fSt,zS,zB,h2];exact zG [0,1] 0 (by decide) (by simp) (by simp[zS,zB]) (by simp[h1])
 ·simp[fSt,zS,zB,h2];exact zG [0,1] 0 (by decide) (by simp) (by simp[zS,zB]) (by simp[h1])
def qHr:K:=G [kMn 2] (G [kMn 3] (Z (G [kMi 4 0] (K.block 0 (K.loop (Z (G [M 5 4,M 6 0,kN 7 6,kB 8 5 7 .lss] (Y 8 ks (K.exit 0))) (Z (K.block 1 (K.ops [M 11 3,M 12 0,M 13 4,kX 14 12 13 1,L 15 14 1,kC 16 40 [(kt 15)],kd 17 29 3 1 [ki,ki,ki] [(0,3,(kt 16))],kP 18 29 3 24 11 17,M 3 18])) (K.ops [M 9 4,kBi 10 9 1 .add,M 4 10])))))) (G [M 19 3,M 2 19] kr)))
theorem qOn:zL prog Tryz.f41.ntmps (Tryz.f41.body.getD .skip)=some qHr.erase:=by kernel_rfl
@[simp] theorem qCJ:zA prog 41=true:=by kernel_rfl
def qGQ:Entry:=⟨qHr,[.slot 2],true⟩
theorem qDu:jW prog 41 qGQ:=⟨qCJ,_,_,zA1,Tryz.func41,rfl,qOn,by kernel_rfl⟩
def zVl:K:=G [kMb 4 false] (Z (G [M 6 0,kN 7 6,M 8 1,kN 9 8,kQ 10 7 9 true] (Y 10 (G [kMb 4 false] kr) ks)) (Z (G [kMi 5 0] (K.block 0 (K.loop (Z (G [M 11 5,M 12 0,kN 13 12,kB 14 11 13 .lss] (Y 14 ks (K.exit 0))) (Z (K.block 1 (Z (K.dops [(0,0,M 17 0),(1,0,M 18 5),(2,0,kX 19 17 18 3),(3,0,J 20 19 3),(4,0,M 21 1),(5,0,M 22 5),(6,0,kX 23 21 22 3),(7,0,J 24 23 3),(8,0,⟨none,.eqs (some 25) true [.i,.i,.i] (kt 20) (kt 24)⟩)]) (Y 25 (G [kMb 4 false] kr) ks))) (K.ops [M 15 5,kBi 16 15 1 .add,M 5 16])))))) (G [kMb 4 true] kr)))
theorem qC6:zL prog Tryz.f20.ntmps (Tryz.f20.body.getD .skip)=some zVl.erase:=by kernel_rfl
@[simp] theorem zVE:zA prog 20=true:=by kernel_rfl
def zUK:Entry:=⟨zVl,[.slot 4],false⟩
theorem zWu:jW prog 20 zUK:=⟨zVE,_,_,zA1,Tryz.func20,rfl,qC6,by kernel_rfl⟩
def zUX:K:=G [kMb 0 false] (G [kC 12 39 [],kZ 1 [kl,kl],S 1 12 2] (Z (K.wk (K.wk (K.wk (K.dops [(0,1,J 14 1 2),(1,1,kC 15 40 [(kc 1)]),(2,0,kb 16 [ki,ki,kl] [(1,1,(kc 2))]),(3,0,kd 17 47 3 1 [ki,ki,kl] [(0,3,(kt 16))]),(4,1,kC 18 13 [(kt 14),(kt 15),(kt 17),(kc 100)]),(5,0,M 13 18),(6,0,kE 19 13 0),(7,0,kE 20 13 1),(8,0,kE 21 13 2),(9,340,⟨none,.alr (some 2) 40 [ki,ki,kl]⟩),(10,341,⟨none,.alr (some 3) 41 [kl,kl]⟩),(11,0,S 2 19 3),(12,0,S 3 20 2),(13,0,M 4 21)])))) (Z (K.wk (K.dops [(0,1,J 23 1 2),(1,1,kC 24 40 [(kc 1)]),(2,0,kb 25 [ki,ki,kl] [(1,1,(kc 5))]),(3,0,kd 26 47 3 1 [ki,ki,kl] [(0,3,(kt 25))]),(4,1,kC 27 13 [(kt 23),(kt 24),(kt 26),(kc 100)]),(5,0,M 22 27),(6,0,kE 28 22 0),(7,0,kE 29 22 1),(8,0,kE 30 22 2),(9,350,⟨none,.alr (some 5) 50 [ki,ki,kl]⟩),(10,351,⟨none,.alr (some 6) 51 [kl,kl]⟩),(11,0,S 5 28 3),(12,0,S 6 29 2),(13,0,M 7 30)])) (G [kC 31 39 [],kZ 8 [kl,kl],S 8 31 2] (Z (K.dops [(0,0,D 32 8 1),(1,0,L 33 32 1),(2,0,kC 34 40 [(kc 17)]),(3,0,kb 35 kz1 [(0,3,(kt 34)),(4,1,(kc 7))]),(4,0,kXi 36 33 31 1),(5,0,D 37 36 14),(6,0,S 37 35 15)]) (Z (K.wk (K.wk (K.ops [J 38 1 2,J 39 8 2,kC 40 21 [(kt 38),(kt 39)],M 9 40]))) (Z (K.dops [(0,0,D 41 3 0),(1,0,L 42 41 1),(2,0,kd 43 3 1 1 [ki] [(0,1,(kc 1))]),(3,0,kC 44 41 [(kt 43)]),(4,0,kC 45 20 [(kt 42),(kt 44)]),(5,0,M 46 45),(6,0,T 46 true (D 47 3 1)),(7,0,T 46 true (L 48 47 1)),(8,0,⟨some (46,true),.bslice (some 49) 3 1 5 [ki,ki,ki,ki,ki] [(0,1,(kc 10)),(1,1,(kc 11)),(2,1,(kc 12)),(3,1,(kc 13)),(4,1,(kc 14))]⟩),(9,0,
 T 46 true (kC 50 41 [(kt 49)])),(10,0,T 46 true (kC 51 20 [(kt 48),(kt 50)])),(11,0,kPf 52 46 51),(12,0,M 10 52)]) (Z (K.dops [(0,0,D 53 6 0),(1,0,L 54 53 1),(2,0,kd 55 3 1 2 [ki,ki] [(0,1,(kc 1)),(1,1,(kc 3))]),(3,0,kC 56 41 [(kt 55)]),(4,0,kC 57 20 [(kt 54),(kt 56)]),(5,0,M 58 57),(6,0,T 58 true (D 59 6 1)),(7,0,T 58 true (L 60 59 1)),(8,0,⟨some (58,true),.bslice (some 61) 3 1 7 [ki,ki,ki,ki,ki,ki,ki] [(0,1,(kc 10)),(1,1,(kc 11)),(2,1,(kc 12)),(3,1,(kc 13)),(4,1,(kc 15)),(5,1,(kc 16)),(6,1,(kc 17))]⟩),(9,0,T 58 true (kC 62 41 [(kt 61)])),(10,0,T 58 true (kC 63 20 [(kt 60),(kt 62)])),(11,0,kPf 64 58 63),(12,0,M 11 64)]) (G [M 65 4,kQi 66 65 0 false,M 67 66,T 67 true (M 68 7),T 67 true (kQi 69 68 0 false),kPf 70 67 69,M 71 70,T 71 true (D 72 2 1),T 71 true (L 73 72 1),T 71 true (kQi 74 73 2 false),kPf 75 71 74,M 76 75,T 76 true (D 77 5 1),T 76 true (L 78 77 1),T 76 true (kQi 79 78 5 false),kPf 80 76 79,M 81 80,T 81 true (M 82 10),kPf 83 81 82,M 84 83,T 84 true (M 85 11),kPf 86 84 85,M 87 86,T 87 true (M 88 9),⟨some (87,true),.bslice (some 89) 3 1 1 [ki] [(0,1,(kc 17))]⟩,T 87 true (kC 90 41 [(kt 89)]),T 87 true (kC 91 20 [(kt 88),(kt 90)]),kPf 92 87 91,M 93 92,T 93 true (J 94 3 2),T 93 true (M 95 9),T 93 true (kC 96 29 [(kt 94),(kt 95)]),T 93 true (kR 97 96),kPf 98 93 97,M 99 98,T 99 true (J 100 6 2),T 99 true (M 101 9),T 99 true (kC 102 29 [(kt 100),(kt 101)]),kPf 103 99 102,M 0 103] kr)))))))))
def zWL:Nat→Option (List (Nat×Nat)):=fun r=>match r with | 2=>some [(0,1),(1,1),(2,0),(3,0),(4,1),(5,0),(6,0),(7,0),(8,0),(9,340),(10,341),(11,0),(12,0),(13,0)] | 3=>some [(0,1),(1,1),(2,0),(3,0),(4,1),(5,0),(6,0),(7,0),(8,0),(9,350),(10,351),(11,0),(12,0),(13,0)] | _=>none
theorem qC3:qD prog Tryz.f11.ntmps zWL (Tryz.f11.body.getD .skip)=some zUX.erase:=by kernel_rfl
@[simp] theorem zVC:zA prog 11=true:=by kernel_rfl
def zUI:Entry:=⟨zUX,[.slot 0],false⟩
theorem zWs:jW prog 11 zUI:=⟨zVC,_,_,zWL,Tryz.func11,rfl,qC3,by kernel_rfl⟩
def qRa:List (Nat×Entry):=(11,zUI)::(41,qGQ)::(20,zUK)::(40,EId)::(88,qGS)::(39,EEx)::qLg
theorem qAf:∀f e,zEw f qRa=some e→jW prog f e:=yB zWs (yB qDu (yB zWu (yB qJ0 (yB qDw (yB qJz qAe)))))
def qEe:Run:=fun f xs σ=>match Nat.beq f 29,xs,σ with
 | true,[.agg [.sl n a,.sl m b],.sl k c],[]=>(match zQT a,zQT b,zQT c with
  | some la,some lb,some lc=>if n=la.length∧m=lb.length∧k=lc.length∧(la++lb).length≤1000000 then some (bl (lc.any fun x=>decide (x∈la++lb)),[]) else none
  | _,_,_=>none)
 | _,_,_=>none
@[simp] theorem zV9:zA prog 29=true:=by kernel_rfl
theorem zZP:zA3 prog qEe:=by
 intro f xs σ r σ' h;unfold qEe at h;split at h<;>try (cases h; done)
 rename_i n a m b k c hf;split at h<;>try (cases h; done)
 rename_i la lb lc h1 h2 h3;split at h<;>try (cases h; done)
 rename_i hc;cases h;have hf':=jC2 hf;subst hf';refine⟨zV9,?_⟩;rw[zET h1,zET h2,zET h3,hc.1,hc.2.1,hc.2.2.1];exact zSn ⟨la,lb⟩ lc (la++lb) rfl hc.2.2.2
theorem qD2:zFB exP.defs exQ.defs=[⟨0,1,17⟩]:=by rw[zFB,zO0];kernel_rfl
@[simp] theorem zYz:zA prog 21=true:=by kernel_rfl
def qKB:Run:=zZT [(21,[.agg (zS exP),.agg (zS exQ)],.sl 1 (qE [⟨0,1,17⟩]))]
theorem zZQ:zA3 prog qKB:=zSN fun p hp=>by rw[jAg]at hp;subst hp;refine⟨zYz,?_⟩;have:=zKH exP exQ (by decide) (by decide) (by decide) (by decide);rw[qD2]at this;exact this
def qQU:Run:=orE qEf (orE qEe qKB)
theorem zZR:zA3 prog qQU:=zXv zZS (zXv zZP zZQ)
theorem zXe:Ret prog 11 [] [] (bl true) []:=zX5 (lf:=20) (n:=50) qAf zZR (by kernel_rfl)
abbrev zOi:FuncId:=79
theorem qB1 {hs:List Hd}{R:Nat}{m:Mk}(hx:Cx hs R m){k:Nat}(hk:k<hs.length)(h1:∀(j:Nat)(hj:j<k),hs[j].id≠hs[k].id):∃h:k<m.defs.length,zGT m.defs hs[k].id=(m.defs[k],true)∧m.defs[k].hd=hs[k]:=by
 have hl:=hx.dlen;have h:k<m.defs.length:=by omega
 have hg:=hx.get h;refine⟨h,?_,hg.symm⟩;unfold zGT;rw[zIQ h (fun d hd=>?_) (by rw[hg]; rfl)];rw[List.mem_take_iff_getElem]at hd;obtain⟨j,hj,rfl⟩:=hd;have hjl:j<m.defs.length:=by omega
 have:=h1 j (by omega);rw[hx.get hjl]at this;exact this
theorem zZ3 {hs:List Hd}{R:Nat}{m:Mk}{env:List Bnd}(hl:Lim m 1)(x depth:Int)(hx0:0≤x)(hx1:x≤65536):zAP hs m.own zOi m [.ptr 0 0,.agg (zB jT),.sl env.length (zQ env),int x,int depth] env jT 1:=by
 have e9:x.tmod 9=x % 9:=tmN hx0;have e29:x.tmod 29=x % 29:=tmN hx0;have e2:x.tmod 2=x % 2:=tmN hx0;have key:∀n,-1099511627776≤n→n≤1099511627776→(∀(K:Prop),K→K)→Ret prog zOi [.ptr 0 0,.agg (zB jT),.sl env.length (zQ env),int x,int depth] (mkS m) (.agg (zF (.mk ⟨0,0,m.temp⟩ 0 n Id.zero Typ.zero [] []))) (mkS {m with temp:=m.temp+1,left:=m.left-1})→zAP hs m.own zOi m [.ptr 0 0,.agg (zB jT),.sl env.length (zQ env),int x,int depth] env jT 1:=fun n q1 q2 _ h =>
  ⟨_,_,h,zAd m,.int _ _ _ q1 q2,by simp only[tmps,jL,jC6]; exact Seg.one _,zGI⟩
 have w1:=qF (x.tmod 9-2) (by omega);have w2:=qF (1099511627776-x.tmod 2) (by omega);obtain⟨l1,l2,l3,l4,l5,l6,l7,l8⟩:=hl;by_cases h29:x.tmod 29=3
 ·refine key (1099511627776-x.tmod 2) (by omega) (by omega) (fun _ h=>h) ?_;refine zI Tryz.func79 rfl zTt (rs:=[.cell 10 15 true]) (by kernel_rfl) ?_;unfold zQB;simp[mkS,mkB,zB,jT,w1,w2,h29];refine zN (yQ m 0 (1099511627776-x.tmod 2) [] l3 (by omega) (by omega) l6) [0,1] (by decide) (by simp[mkS,mkB]) (by simp) ?_;simp[mkS,mkB];exact zG [0,1] 0 (by decide) (by simp) (by simp) (by simp)
 ·refine key (x.tmod 9-2) (by omega) (by omega) (fun _ h=>h) ?_;refine zI Tryz.func79 rfl zTt (rs:=[.cell 10 15 true]) (by kernel_rfl) ?_;unfold zQB;simp[mkS,mkB,zB,jT,w1,w2,h29];refine zN (yQ m 0 (x.tmod 9-2) [] l3 (by omega) (by omega) l6) [0,1] (by decide) (by simp[mkS,mkB]) (by simp) ?_;simp[mkS,mkB];exact zG [0,1] 0 (by decide) (by simp) (by simp) (by simp)
theorem zXa {hs:List Hd}{m:Mk}{env:List Bnd}(hl:Lim m 1)(x depth:Int)(hx0:0≤x):zAP hs m.own zOi m [.ptr 0 0,.agg (zB yC),.sl env.length (zQ env),int x,int depth] env yC 1:=by have e2:x.tmod 2=x % 2:=tmN hx0;obtain⟨l1,l2,l3,l4,l5,l6,l7,l8⟩:=hl;refine⟨.mk ⟨0,0,m.temp⟩ 1 (x.tmod 2) Id.zero Typ.zero [] [],_,?_,zAd m,.bool _ _ _ (by omega),by simp only[tmps,jL,jC6]; exact Seg.one _,zGI⟩;refine zI Tryz.func79 rfl zTt (rs:=[.cell 10 15 true]) (by kernel_rfl) ?_;unfold zQB;simp[mkS,mkB,zB,yC];refine zN (yQ m 1 (x.tmod 2) [] l3 (by omega) (by omega) l6) [0,1] (by decide) (by simp[mkS,mkB]) (by simp) ?_;simp[mkS,mkB];exact zG [0,1] 0 (by decide) (by simp) (by simp) (by simp)
theorem zXc {hs:List Hd}{R:Nat}{m:Mk}{env:List Bnd}{c depth:Int}{Q:Nat→Prop}{len:Nat}(hc:0≤c)(hl:Lim m (2*c+1))(x:Int)(hx0:0≤x)(t:Typ){r:Nat}(hr:TyOk hs r t)(hQ:Q r)
 (hk:zB1 hs R c (depth-1) Q len)(hx:Cx hs R m)(he:EnvOk hs R m.temp env)(h1:0<env.length)(h2:env.length≤len)(hd1 : -1000≤depth)(hd2:depth≤1000) :
 zAP hs m.own zOi m [.ptr 0 0,.agg (zB (jV t)),.sl env.length (zQ env),int x,int depth] env (jV t) (2*c+1):=by
 have e3:x.tmod 3=x % 3:=tmN hx0;have wd:=qF (depth-1) (by omega);obtain⟨K,hK,hK2⟩:∃K:Nat,(K:Int)=(if 0≤depth then x.tmod 3 else 0)∧K≤2:=by
  by_cases h:0≤depth
  ·exact⟨(x % 3).toNat,by rw[if_pos h,e3]; omega,by omega⟩
  ·exact⟨0,by rw[if_neg h]; rfl,by omega⟩
 have hKc:(K:Int)*c≤2*c:=jDd (by omega) hc;obtain⟨es,ms,q0,q2,q3,q4,q6,q7,q5⟩:=zWU hk hc env h1 h2 t hr hQ m hx he K (hl.mono (by omega));have ha:=q3 es.length (jA _);have hec:(es.length:Int)*c≤2*c:=jDd (by omega) hc;have ha2:=ha.mono hec;have hln:=Lim.adv (c:=2*c) (c':=1) hl ha2;obtain⟨l1,l2,l3,l4,l5,l6,l7,l8⟩:=hln;refine⟨.mk ⟨0,0,(ms es.length).temp⟩ 11 0 Id.zero t es [],{ms es.length with temp:=(ms es.length).temp+1,left:=(ms es.length).left-1},?_,ha2.trans (zAd _),.list _ _ _ _ fun j hj=>(q5 j hj).2.1,
  by simp only[tmps]; exact q4.append (Seg.one _) ha.temp1 (by omega),zCB (zIo rfl fun j hj=>(q5 j hj).2.2)⟩
 refine zI Tryz.func79 rfl zTt (rs:=[.cell 10 15 true]) (by kernel_rfl) ?_;unfold zQB;simp[mkS,mkB,zB,jV];refine qW (S:=Nat) (fun i=>[(0,.ptr 0 0),(2,.sl env.length (zQ env)),(3,int x),(4,int depth),(6,.ptr 2 0),(10,.ptr 3 0),(12,.row 4 i),(13,int i)])
  (fun i=>mkS (ms i)++[.box (zB (jV t)),.box (zF Exp.zero),.row false 37 15 i (qL (es.take i))]) (fun i=>i≤es.length) (fun i=>es.length-i) 0 (by simp)
  ((yG (t:=12) (by simp) 37 15).trans (zR [0,1,2,3,4] 0 (by decide) (by simp) (by simp[mkS,mkB,zB,jV,q2,zF,Exp.zero,Id.zero,Typ.zero]) (by simp))) ?_
 intro i hi;have hms:=q3 i hi;by_cases hi2:i<es.length
 ·obtain⟨g1,_,_⟩:=q5 i hi2;have c2:0≤depth:=by
   by_cases h:0≤depth
   ·exact h
   ·rw[if_neg h]at hK; omega
  have c1:(i:Int)<x.tmod 3:=by rw[if_pos c2]at hK; omega
  have c3:=q6 i hi2;have hst:qL (es.take (i+1))=qL (es.take i)++zF es[i]:=zAz hi2;have hw:=zAk i (by omega);simp[mkS,mkB,zB,jV,c1,c2,c3,wd,qN];refine zN g1 [0,1] (by decide) (by simp[mkS,mkB]) (by simp[zB]) ?_;simp[mkS,mkB];refine⟨⟨by simp[maxLen]; omega,by omega⟩,?_⟩;exact zU (i+1) hi2 (by omega) (zR [0,1,2,3,4] 0 (by decide) (by simp) (by simp[mkS,mkB,zB,jV,zF,Exp.zero,Id.zero,Typ.zero,hst]) (by simp[hw]))
 ·have hie:i=es.length:=by omega
  subst hie;have hexit:¬((es.length:Int)<x.tmod 3∧0≤depth∧0<(ms es.length).left):=fun hh=>by
   rcases q7 with q7 | q7
   ·rw[if_pos hh.2.1]at hK; omega
   ·omega
  by_cases c1:(es.length:Int)<x.tmod 3
  ·by_cases c2:0≤depth
   ·have c3:¬0<(ms es.length).left:=fun h=>hexit ⟨c1,c2,h⟩
    simp[mkS,mkB,zB,jV,c1,c2,c3,qN];refine⟨qT [(0,.ptr 0 0),(6,.ptr 2 0),(10,.ptr 3 0),(12,.sl es.length (qL es))],mkS (ms es.length)++[.box (zB (jV t)),.box (zF Exp.zero)],zR [0,1,2,3] 1 (by decide) (by simp) (by simp[mkS,mkB,zB,jV,zF,Exp.zero,Id.zero,Typ.zero,qN]) (by simp),?_⟩;simp[mkS,mkB,zB,jV];refine zN (yQ (ms es.length) 11 0 es l3 (by omega) (by omega) l6) [0,1] (by decide) (by simp[mkS,mkB]) (by simp) ?_;simp[mkS,mkB,zB,jV,zF,qN];exact zG [0,1] 0 (by decide) (by simp) (by simp) (by simp[zF])
   ·simp[mkS,mkB,zB,jV,c1,c2,qN];refine⟨qT [(0,.ptr 0 0),(6,.ptr 2 0),(10,.ptr 3 0),(12,.sl es.length (qL es))],mkS (ms es.length)++[.box (zB (jV t)),.box (zF Exp.zero)],zR [0,1,2,3] 1 (by decide) (by simp) (by simp[mkS,mkB,zB,jV,zF,Exp.zero,Id.zero,Typ.zero,qN]) (by simp),?_⟩;simp[mkS,mkB,zB,jV];refine zN (yQ (ms es.length) 11 0 es l3 (by omega) (by omega) l6) [0,1] (by decide) (by simp[mkS,mkB]) (by simp) ?_;simp[mkS,mkB,zB,jV,zF,qN];exact zG [0,1] 0 (by decide) (by simp) (by simp) (by simp[zF])
  ·simp[mkS,mkB,zB,jV,c1,qN];refine⟨qT [(0,.ptr 0 0),(6,.ptr 2 0),(10,.ptr 3 0),(12,.sl es.length (qL es))],mkS (ms es.length)++[.box (zB (jV t)),.box (zF Exp.zero)],zR [0,1,2,3] 1 (by decide) (by simp) (by simp[mkS,mkB,zB,jV,zF,Exp.zero,Id.zero,Typ.zero,qN]) (by simp),?_⟩;simp[mkS,mkB,zB,jV];refine zN (yQ (ms es.length) 11 0 es l3 (by omega) (by omega) l6) [0,1] (by decide) (by simp[mkS,mkB]) (by simp) ?_;simp[mkS,mkB,zB,jV,zF,qN];exact zG [0,1] 0 (by decide) (by simp) (by simp) (by simp[zF])
theorem zRR {p:Prg}{t:Typ}(h:validT p t=true)(h2:t.k=2):∃x,t.kids=[x]:=by
 cases t with
 | mk k id kids =>
  simp only[Typ.k_mk]at h2;subst h2;simp only[validT,yD,Typ.k_mk,Typ.id_mk,Typ.kids_mk,if_true]at h;split at h
  ·exact⟨_,rfl⟩
  ·cases h
theorem zTK {p:Prg}{ts:List Typ}:zAG p ts []=true:=by cases ts<;>simp[zAG]
theorem zWF {p:Prg}{t:Typ}{v:Val}(h:validT p t=false):zBq p t v=false:=by rw[zC7,h]; rfl
theorem zKp (p:Prg)(t:Typ)(v:Val):Ret prog 92 [.agg (zS p),.agg (zB t),.agg (zJ v)] [] (bl (zBq p t v)) []:=by
 refine zK Tryz.func92 rfl qOJ (rs:=[.slot 6]) (by kernel_rfl) ?_;unfold qHN;simp[zS,zB,zJ];refine zT (zXS p t) (by simp[zS,zB]) (by simp) ?_;cases hv:validT p t with
 | false =>
  simp;exact zC 0 (by simp[zWF hv])
 | true =>
 by_cases h0:t.k=0
 ·have e:zBq p t v=(decide (v.k=0)&&decide (v.kids.length=0)&&decide (-1099511627776≤v.n)&&decide (v.n≤1099511627776)):=by rw[zC7,hv,if_pos h0,jCn]
  by_cases c1:v.k=0
  ·by_cases c2:v.kids.length=0
   ·by_cases c3 : -1099511627776≤v.n
    ·simp[hv,h0,c1,c2,c3];exact zC 0 (by rw[e]; simp[c1,c2,c3])
    ·simp[hv,h0,c1,c2,c3];exact zC 0 (by rw[e]; simp[c1,c2,c3])
   ·simp[hv,h0,c1,c2];exact fun _=>zC 0 (by rw[e]; simp[c1,c2])
  ·simp[hv,h0,c1];exact zC 0 (by rw[e]; simp[c1])
 by_cases h1:t.k=1
 ·have e:zBq p t v=(decide (v.k=1)&&decide (v.kids.length=0)&&(decide (v.n=0)||decide (v.n=1))):=by rw[zC7,hv,if_neg h0,if_pos h1,jCn]
  by_cases c1:v.k=1
  ·by_cases c2:v.kids.length=0
   ·by_cases c3:v.n=0
    ·simp[hv,h1,c1,c2,c3];exact zC 0 (by rw[e]; simp[c1,c2,c3])
    ·simp[hv,h1,c1,c2,c3];exact zC 0 (by rw[e]; simp[c1,c2,c3])
   ·simp[hv,h1,c1,c2];exact fun _=>zC 0 (by rw[e]; simp[c1,c2])
  ·simp[hv,h1,c1];exact zC 0 (by rw[e]; simp[c1])
 by_cases h2:t.k=2
 ·obtain⟨x,hx⟩:=zRR hv h2;have e:zBq p t v=(decide (v.k=4)&&decide (v.n=0)&&v.kids.all (zBq p x)):=by rw[zC7,hv,if_neg h0,if_neg h1,if_pos h2,jCn,hx]; rfl
  by_cases c1:v.k=4
  ·by_cases c2:v.n=0
   ·simp[hv,h2,c1,c2];refine zN (zYF p t (fun y=>!zBq p x y) v.kids (fun y hy=>zWE p t x hx y _ (zKp p x y))) [0,1] (by simp) (by simp[fSt,zS,zB,h2]) (by simp) ?_;simp[fSt,zS,zB];exact zC 0 (by rw[e]; simp[c1,c2,List.all_eq_not_any_not])
   ·simp[hv,h2,c1,c2];exact zC 0 (by rw[e]; simp[c1,c2])
  ·simp[hv,h2,c1];exact zC 0 (by rw[e]; simp[c1])
 have e:=zC7 p t v;rw[hv,if_neg h0,if_neg h1,if_neg h2,jCn]at e;simp[hv,h0,h1,h2];refine zT (zEU p t.id) (by simp[zS,jF]) (by simp[zBf]) ?_;have hD:(jO p.defs t.id).getD .zero=dfn p t.id:=rfl;generalize dfn p t.id=D at hD e;by_cases hk:D.kind=1
 ·rw[if_pos hk]at e;by_cases c1:v.k=3
  ·by_cases c2:0≤v.n
   ·by_cases c3:v.n<D.slots.length
    ·by_cases c4:v.kids.length=1
     ·obtain⟨x,hx⟩:∃x,v.kids=[x]:=List.length_eq_one_iff.1 c4;obtain⟨i,hi⟩:∃i:Nat,v.n=i:=⟨v.n.toNat,by omega⟩;have hil:i<D.slots.length:=by omega
      simp[zBf,hD,zO,hk,c1,hi,hil,hx,jU hil,zAu];refine qK (zKp p D.slots[i].typ x) (by simp[zS,zB,zJ]) (by simp) ?_;simp;exact zC 0 (by rw[e]; simp[c1,hi,hil,hx,zEj])
     ·have c4':¬(v.kids.length:Int)=1:=by omega
      simp[zBf,hD,zO,hk,c1,c2,c3,c4']
      first | exact zC 0 (by rw[e]; simp[c1,c2,c3,c4]) | exact fun _=>zC 0 (by rw[e]; simp[c1,c2,c3,c4]) | exact fun _ _=>zC 0 (by rw[e]; simp[c1,c2,c3,c4])
    ·simp[zBf,hD,zO,hk,c1,c2,c3];exact zC 0 (by rw[e]; simp[c1,c2,c3])
   ·simp[zBf,hD,zO,hk,c1,c2];exact zC 0 (by rw[e]; simp[c1,c2])
  ·simp[zBf,hD,zO,hk,c1];exact zC 0 (by rw[e]; simp[c1])
 rw[if_neg hk]at e;by_cases c1:v.k=2
 ·by_cases c2:v.n=0
  ·by_cases c3:v.kids.length=D.slots.length
   ·simp[zBf,hD,zO,hk,c1,c2,c3];intro hl;refine qW (S:=Nat) (fun i=>[(3,.ptr 0 0),(7,.ptr 3 0),(141,.sl v.kids.length (zV v.kids)),(142,int v.kids.length),(143,int i)])
     (fun i=>[.box (zS p),.box (zB t),.box (zJ v),.box (zO D)]) (fun i=>i≤v.kids.length∧zAG p (D.slots.map Slt.typ) v.kids=zAG p ((D.slots.map Slt.typ).drop i) (v.kids.drop i)) (fun i=>v.kids.length-i) 0 (by simp)
     (zR [0,1,2,3] 0 (by decide) (by simp) (by simp[zS,zB,zJ,zO,hk,c1,c2,c3]) (by simp[c3])) ?_
    rintro i ⟨hi,ho⟩;by_cases hil:i<v.kids.length
    ·have hiD:i<D.slots.length:=by omega
     have d1:v.kids.drop i=v.kids[i]::v.kids.drop (i+1):=jB8 hil;have d2:(D.slots.map Slt.typ).drop i=D.slots[i].typ::(D.slots.map Slt.typ).drop (i+1):=by rw[jB8 (by simpa using hiD)]; simp
     simp[hil,hiD,jN hil,jU hiD,zS,zO,zAu];refine qK (zKp p D.slots[i].typ v.kids[i]) (by simp[zS,zB,zJ]) (by simp) ?_;cases hf:zBq p D.slots[i].typ v.kids[i]with
     | true =>
      simp;exact zU (i+1) ⟨hil,by rw[ho,d1,d2]; simp[zAG,hf]⟩ (by omega) (zR [0,1,2,3] 0 (by decide) (by simp) (by simp[zS,zB,zJ,zO]) (by simp[qA hil (c3▸hl)]))
     | false =>
      simp;exact zC 0 (by rw[e,ho,d1,d2]; simp[zAG,hf])
    ·have:i=v.kids.length:=by omega
     subst this;simp;exact zC 0 (by rw[e,ho,jD7 (jA v.kids.length),zTK]; simp[c1,c2,c3])
   ·have c3':¬(v.kids.length:Int)=D.slots.length:=by omega
    simp[zBf,hD,zO,hk,c1,c2,c3']
    first | exact zC 0 (by rw[e]; simp[c1,c2,c3]) | exact fun _=>zC 0 (by rw[e]; simp[c1,c2,c3]) | exact fun _ _=>zC 0 (by rw[e]; simp[c1,c2,c3])
  ·simp[zBf,hD,zO,hk,c1,c2];exact zC 0 (by rw[e]; simp[c1,c2])
 ·simp[zBf,hD,zO,hk,c1];exact zC 0 (by rw[e]; simp[c1])
termination_by qI v
decreasing_by
 ·exact zAC hy
 ·exact zAC (by simp[hx])
 ·exact zAC (jA0 _)
theorem zNG (p:Prg)(t:Typ)(v:Val)(h1:qI v≤256)(h2:zAK v≤24) :
 Ret prog 45 [.agg (zS p),.agg (zB t),.agg (zJ v)] [] (bl (zBq p t v)) []:=by
 refine zK Tryz.func45 rfl qOM (rs:=[.slot 6]) (by kernel_rfl) ?_;unfold qHQ;simp[zS,zB,zJ];refine zT (zXF v h1 h2) (by simp[zJ]) (by simp) ?_;simp;refine zT (zKp p t v) (by simp[zS,zB,zJ]) (by simp) ?_;simp;exact zC 0 (by simp)
abbrev vz:Val:=.mk 0 0 []
def zIL (a b:Int):Int:=if b=0 then 0 else if a.tmod b≠0∧¬(a<0↔b<0) then a.tdiv b-1 else a.tdiv b
def zOv (a b:Int):Int:=if b=0 then 0 else a-b*zIL a b
def zM9 (n a b:Int):Int:=if n=0 then zBQ (a+b) else if n=1 then zBQ (a-b) else if n=2 then zBQ (a*b) else if n=3 then zIL a b else zOv a b
def opV (n:Int):List Val→Val
 | [a]=>if n=9 then zBV (decide (a.n=0)) else .mk 0 a.kids.length []
 | [a,b]=>if n≤4 then .mk 0 (zM9 n a.n b.n) [] else if n=5 then zBV (decide (a.n<b.n)) else if n=6 then zBV (decide (zKg a b=0))
  else if n=7 then zBV (decide (a.n=1∧b.n=1)) else if n=8 then zBV (decide (a.n=1∨b.n=1)) else .mk 4 0 (a.kids++b.kids)
 | _=>vz
structure XS where
 fuel:Int
 fail:Int
 ds:List Id
 ns:List Id
abbrev Evl:=Exp→List EVar→XS→Val×XS
def qP (ev:Evl)(env:List EVar):List Exp→XS→List Val×XS
 | [],s=>([],s)
 | e::l,s=>((ev e env s).1::(qP ev env l (ev e env s).2).1,(qP ev env l (ev e env s).2).2)
theorem zGz (ev:Evl)(env:List EVar)(e:Exp):∀(l:List Exp) (s:XS),qP ev env (l++[e]) s=((qP ev env l s).1++[(ev e env (qP ev env l s).2).1],(ev e env (qP ev env l s).2).2)
 | [],s=>rfl
 | x::l,s=>by simp only[jBi,qP,zGz ev env e l]
theorem zCh (ev:Evl)(env:List EVar):∀(l:List Exp) (s:XS),(qP ev env l s).1.length=l.length
 | [],s=>rfl
 | x::l,s=>by simp only[qP,jAd,zCh ev env l]
def jY (ev:Evl)(env:List EVar)(i:Id)(b:Exp):List Val→Val×XS→Val×XS
 | [],r=>r
 | x::l,r=>jY ev env i b l (ev b (env++[⟨i,0,x⟩]++[⟨i,1,r.1⟩]) r.2)
theorem zFa (ev:Evl)(env:List EVar)(i:Id)(b:Exp)(x:Val):∀(l:List Val) (r:Val×XS),jY ev env i b (l++[x]) r=ev b (env++[⟨i,0,x⟩]++[⟨i,1,(jY ev env i b l r).1⟩]) (jY ev env i b l r).2
 | [],r=>rfl
 | y::l,r=>by simp only[jBi,jY,zFa ev env i b x l]
def zCa (ss:List Slt)(vs:List Val):List EVar:=List.zipWith (fun s v=>⟨s.id,0,v⟩) ss vs
theorem zFT (ss:List Slt)(vs:List Val)(h:vs.length=ss.length):(zCa ss vs).length=ss.length:=by simp[zCa,h]
theorem zIO {ss:List Slt}{vs:List Val}(h:vs.length=ss.length){i:Nat}(hi:i<ss.length):(zCa ss vs).take (i+1)=(zCa ss vs).take i++[⟨ss[i].id,0,vs[i]⟩]:=by rw[jA9 (by rw[zFT ss vs h]; exact hi)];simp[zCa]
def zAX (ev:Evl)(d:Dfn)(vs:List Val)(s:XS):Val×XS:=if s.fail≠0 then (vz,s) else ev d.body (zCa d.slots vs) {s with ds:=s.ds++[d.id]}
def jI (ev:Evl)(e:Exp)(env:List EVar)(s:XS):Val×XS :=
 if (ev (e.kids.headD .zero) env s).2.fail≠0 then (vz,(ev (e.kids.headD .zero) env s).2)
 else if e.k=5 then ev (e.kids.getD (if (ev (e.kids.headD .zero) env s).1.n=1 then 1 else 2) .zero) env (ev (e.kids.headD .zero) env s).2
 else if e.k=6 then ev (e.kids.getD 1 .zero) (env++[⟨e.id,0,(ev (e.kids.headD .zero) env s).1⟩]) (ev (e.kids.headD .zero) env s).2
 else if e.k=8 then ((ev (e.kids.headD .zero) env s).1.kids.getD e.n.toNat vz,(ev (e.kids.headD .zero) env s).2)
 else if e.k=10 then ev (e.kids.getD (1+(ev (e.kids.headD .zero) env s).1.n).toNat .zero) (env++[⟨e.id,(ev (e.kids.headD .zero) env s).1.n,(ev (e.kids.headD .zero) env s).1.kids.headD vz⟩]) (ev (e.kids.headD .zero) env s).2
 else jY ev env e.id (e.kids.getD 2 .zero) (ev (e.kids.headD .zero) env s).1.kids (ev (e.kids.getD 1 .zero) env (ev (e.kids.headD .zero) env s).2)
def zf (c:Bool)(s:XS)(v:Val):Val:=if c=true∧s.fail≠0 then vz else v
def qH (p:Prg)(fl:Nat)(ev:Evl)(e:Exp)(env:List EVar)(s:XS):Val×XS :=
 if e.k=0 then (.mk 0 e.n [],s)
 else if e.k=1 then (.mk 1 e.n [],s)
 else if e.k=2 then (zE5 env e.ref e.n,s)
 else if e.k=5∨e.k=6∨e.k=8∨e.k=10∨e.k=12 then jI ev e env s
 else if e.k=3 then zAX ev (dfn p e.ref) (qP ev env e.kids s).1 (qP ev env e.kids s).2
 else if e.k=4 then (zf true (qP ev env e.kids s).2 (opV e.n (qP ev env e.kids s).1),(qP ev env e.kids s).2)
 else if e.k=7 then (zf (fl==1) (qP ev env e.kids s).2 (.mk 2 0 (qP ev env e.kids s).1),(qP ev env e.kids s).2)
 else if e.k=9 then (zf (fl==1) (qP ev env e.kids s).2 (.mk 3 e.n (qP ev env e.kids s).1),(qP ev env e.kids s).2)
 else (zf (fl==1) (qP ev env e.kids s).2 (.mk 4 0 (qP ev env e.kids s).1),(qP ev env e.kids s).2)
def zQF (v:Val):Prop:=256<zDu v∨24<zBS v
instance (v:Val):Decidable (zQF v):=by unfold zQF; infer_instance
abbrev zKR:Int:=18
abbrev zFR:Int:=4
def zCP (r:Val×XS):XS:=if r.2.fail=0∧zQF r.1 then {r.2 with fail:=zFR} else r.2
def zOY (fl:Nat)(r:Val×XS):Val×XS:=(zf (fl==2) (zCP r) r.1,zCP r)
def zCe (e:Exp)(s:XS):XS:={s with fuel:=s.fuel-1,ns:=s.ns++[e.id]}
def zAA (p:Prg)(fl:Nat):Nat→Evl
 | 0,_,_,s=>if s.fail≠0 then (vz,s) else (vz,{s with fail:=zKR})
 | m+1,e,env,s =>
  if s.fail≠0 then (vz,s) else if s.fuel≤0 then (vz,{s with fail:=zKR})
  else zOY fl (qH p fl (zAA p fl m) e env (zCe e s))
theorem zLB {σ τ : St}(hk:zBO σ τ){j:Nat}{o:AObj}(h : σ[j]?=some o)(hn:o≠AObj.rsv):jX τ [j] [o] = τ:=by
 have h1:=hk j o h hn;have hlt:j < τ.length:=by
  by_cases hl:j < τ.length
  ·exact hl
  ·rw[jBj (by omega)]at h1; cases h1
 rw[jA2 hlt]at h1;simp only[jX];injection h1 with h1
 rw[←h1,jAz];exact List.set_getElem_self hlt
theorem zAP.mono {hs:List Hd}{own:Int}{f:FuncId}{m:Mk}{args:List A}{env:List Bnd}{t:Typ}{c c':Int}(h:zAP hs own f m args env t c)(hc:c≤c'):zAP hs own f m args env t c':=by obtain⟨e,m',h1,h2,h3,h4,h5⟩:=h;exact⟨e,m',h1,h2.mono hc,h3,h4,h5⟩
theorem zWV {hs:List Hd}{R:Nat}{c depth:Int}{Q:Nat→Prop}{len:Nat}(hk:zB1 hs R c depth Q len)(hc:0≤c)(envs:Nat→List Bnd)(t:Typ){r:Nat}(hr:TyOk hs r t)(hQ:Q r)
 (m:Mk)(hx:Cx hs R m)(he:∀j,EnvOk hs R m.temp (envs j))(h1:∀j,0<(envs j).length)(h2:∀j,(envs j).length≤len):∀(k:Nat),Lim m (k*(c+1)) →
  ∃(es:List Exp) (ns:List ByteArray) (ms:Nat→Mk),es.length=k∧ns.length=k∧ms 0=m∧(∀j≤k,Adv m (ms j) (j*(c+1)))∧Seg m.temp (ms k).temp (jL es) ∧
   ∀(j:Nat) (hj:j<es.length) (hj':j<ns.length),∃mm:Mk,Ret prog zAg [.ptr 0 0,.agg (zB t),.sl (envs j).length (zQ (envs j)),int depth] (mkS (ms j)) (.agg (zF es[j])) (mkS mm) ∧
    Ret prog 81 [.ptr 0 0] (mkS mm) (.lit (.string ns[j])) (mkS (ms (j+1)))∧WT hs m.own (envs j) es[j] t∧es[j].num0:=by
 intro k;induction k with
 | zero =>
  intro hl;refine⟨[],[],fun _=>m,rfl,rfl,rfl,fun j hj=>?_,Seg.nil,fun j hj=>by simp at hj⟩;have:j=0:=by simpa using hj
  subst this;exact(Adv.zero m).mono (by simp)
 | succ k ih =>
  intro hl;have e1:(((k+1:Nat):Int))*(c+1)=k*(c+1)+(c+1):=by rw[jDk,Int.add_mul]; simp
  rw[e1]at hl;obtain⟨es,ns,ms,q0,q1,q2,q3,q4,q5⟩:=ih (hl.mono (by omega));have a1:=q3 k (jA _);have hl1:=Lim.adv (c:=k*(c+1)) (c':=c+1) hl a1;obtain⟨e,mm,g1,g2,g3,g4,g5⟩:=hk (ms k) r t (envs k) (hx.adv a1) (hl1.mono (by omega)) hr hQ ((he k).mono a1.temp1) (h1 k) (h2 k);have hl2:=Lim.adv (c:=c) (c':=1) hl1 g2;obtain⟨s,hs⟩:=zKv mm hl2.name1 (by have:=hl2.name2; omega);have a2:=g2.trans (zHI mm);refine⟨es++[e],ns++[s],fun j=>if j≤k then ms j else {mm with name:=mm.name+1},by simp[q0],by simp[q1],by simp[q2],fun j hj=>?_,?_,fun j hj hj'=>?_⟩
  ·by_cases hle:j≤k
   ·simp only[hle,if_true]; exact q3 j hle
   ·have:j=k+1:=by omega
    subst this;simp only[show ¬(k+1≤k) by omega,if_false];rw[e1];exact a1.trans a2
  ·rw[zDT];simp only[show ¬(k+1≤k) by omega,if_false];exact q4.append g4 a1.temp1 g2.temp1
  ·simp only[jA5,jAl,q0]at hj;by_cases hlt:j<k
   ·have hjes:j<es.length:=by omega
    have hjns:j<ns.length:=by omega
    rw[jCm hjes,jCm hjns];simp only[show j≤k by omega,if_true,show j+1≤k by omega];exact q5 j hjes hjns
   ·have:j=k:=by omega
    subst this;rw[jCc (by omega),jCc (by omega)];simp only[jA,if_true,show ¬(j+1≤j) by omega,if_false,jBx,q0,q1,jDc];rw[a1.own]at g3;exact⟨mm,g1,hs,g3,g5⟩
theorem zXb {hs:List Hd}{R:Nat}{m:Mk}{env:List Bnd}{c depth:Int}{Q:Nat→Prop}{len:Nat}(hc:0≤c)(hl:Lim m (c+1))(x:Int)(hx0:0≤x)(hx1:x≤65536)(k:Nat)(h:k<hs.length)(h1:∀(j:Nat)(hj:j<k),hs[j].id≠hs[k].id)
 (h2:hs[k].kind=1)(h3:0<hs[k].slots.length)(h3':hs[k].slots.length≤6){r:Nat}(h4:∀s∈hs[k].slots,TyOk hs r s.typ)(hQ:Q r)
 (hk:zB1 hs R c (depth-1) Q len)(hx:Cx hs R m)(he:EnvOk hs R m.temp env)(h5:0<env.length)(h6:env.length≤len)(hd1 : -1000≤depth)(hd2:depth≤1000) :
 zAP hs m.own zOi m [.ptr 0 0,.agg (zB (zBA hs[k].id)),.sl env.length (zQ env),int x,int depth] env (zBA hs[k].id) (c+1):=by
 obtain⟨hm,hdv,hhd⟩:=qB1 hx h h1;generalize hD:m.defs[k]=D at hdv hhd;have eid:D.id=hs[k].id:=by rw[←hhd]; rfl
 have eslots:D.slots=hs[k].slots:=by rw[←hhd]; rfl
 have ekind:D.kind=1:=by rw[←h2,←hhd]; rfl
 have hdl:=hx.dlen;have hd100:=hx.len;have wd:=qF (depth-1) (by omega);obtain⟨j,hj,hj1⟩:∃j:Nat,j<D.slots.length∧(j:Int)=if depth<0 then 0 else x.tmod D.slots.length:=by
  rw[eslots];by_cases hd:depth<0
  ·exact⟨0,h3,by rw[if_pos hd]; rfl⟩
  ·refine⟨(x % hs[k].slots.length).toNat,?_,?_⟩
   ·have:=jCz x (b:=(hs[k].slots.length:Int)) (by omega);have:=jCo x (b:=(hs[k].slots.length:Int)) (by omega);omega
   ·rw[if_neg hd,tmN hx0];have:=jCo x (b:=(hs[k].slots.length:Int)) (by omega);omega
 have hjs:j<hs[k].slots.length:=by rw[←eslots]; exact hj
 have hty:D.slots[j].typ=hs[k].slots[j].typ:=by simp only[eslots]
 obtain⟨e,m',g1,g2,g3,g4,g5⟩:=hk m r D.slots[j].typ env hx (hl.mono (by omega)) (by rw[hty]; exact h4 _ (jA0 hjs)) hQ he h5 h6;have hln:=Lim.adv (c:=c) (c':=1) hl g2;obtain⟨l1,l2,l3,l4,l5,l6,l7,l8⟩:=hln;refine⟨.mk ⟨0,0,m'.temp⟩ 9 j hs[k].id Typ.zero [e] [],{m' with temp:=m'.temp+1,left:=m'.left-1},?_,g2.trans (zAd _),.case _ _ k h j hjs e h2 (hty▸g3),by simp only[tmps,jL,jAz]; exact g4.append (Seg.one _) g2.temp1 (by omega),zCB (by simpa using g5)⟩;refine zI Tryz.func79 rfl zTt (rs:=[.cell 10 15 true]) (by kernel_rfl) ?_;unfold zQB;simp[mkS,mkB,zB];refine⟨_,_,zAj 1,?_⟩;simp[mkS,mkB,zB,List.replicate];refine zSw (zPW m.mods m.defs hs[k].id (by omega)) [1] (by decide) (by simp[zMB]) (by simp[zMB]) (by simp[jF]) (fun τ hτ=>by
  have:=zLB hτ (j:=1) (o:=.row false 39 31 m.defs.length (zX m.defs)) (by simp) (by simp)
  simpa [zMB] using this) ?_
 rw[hdv];have hnil:D.slots≠[]:=fun e=>by rw[e]at hj; simp at hj
 have hdS:List.drop (j*11+4) (yE D.slots)=(zAu D.slots[j]++yE (D.slots.drop (j+1))).drop 4:=by rw[←jAs,jU hj]
 have hbS:j*11+4+5≤D.slots.length*11:=by omega
 by_cases hd:depth<0
 ·have hj0:j=0:=by rw[if_pos hd]at hj1; omega
  subst hj0;simp only[Nat.zero_mul,jB0]at hdS hbS;simp[mkS,mkB,zO,ekind,hnil,hd,hj,hdS,hbS,zAu,wd];intro _;refine zN g1 [0,1] (by decide) (by simp[mkS,mkB]) (by simp[zB]) ?_;simp[mkS,mkB];refine zN (yQ m' 9 0 [e] l3 (by omega) (by omega) l6) [0,1] (by decide) (by simp[mkS,mkB]) (by simp[zH]) ?_;simp[mkS,mkB,zF];exact zG [0,1] 0 (by decide) (by simp) (by simp) (by simp[zF,zH,eid])
 ·rw[if_neg hd]at hj1;simp[mkS,mkB,zO,ekind,hnil,hd,←hj1,hj,hdS,hbS,zAu,wd];intro _;refine zN g1 [0,1] (by decide) (by simp[mkS,mkB]) (by simp[zB]) ?_;simp[mkS,mkB];refine zN (yQ m' 9 j [e] l3 (by omega) (by omega) l6) [0,1] (by decide) (by simp[mkS,mkB]) (by simp[zH]) ?_;simp[mkS,mkB,zF];exact zG [0,1] 0 (by decide) (by simp) (by simp) (by simp[zF,zH,eid])
theorem zZ4 {hs:List Hd}{R:Nat}{m:Mk}{env:List Bnd}{c depth:Int}{Q:Nat→Prop}{len:Nat}(hc:0≤c)(hl:Lim m (6*c+1))(x:Int)(k:Nat)(h:k<hs.length)(h1:∀(j:Nat)(hj:j<k),hs[j].id≠hs[k].id)
 (h2:hs[k].kind=0)(h3':hs[k].slots.length≤6){r:Nat}(h4:∀s∈hs[k].slots,TyOk hs r s.typ)(hQ:Q r)
 (hk:zB1 hs R c (depth-1) Q len)(hx:Cx hs R m)(he:EnvOk hs R m.temp env)(h5:0<env.length)(h6:env.length≤len)(hd1 : -1000≤depth)(hd2:depth≤1000) :
 zAP hs m.own zOi m [.ptr 0 0,.agg (zB (zBA hs[k].id)),.sl env.length (zQ env),int x,int depth] env (zBA hs[k].id) (6*c+1):=by
 obtain⟨hm,hdv,hhd⟩:=qB1 hx h h1;generalize hD:m.defs[k]=D at hdv hhd;have eid:D.id=hs[k].id:=by rw[←hhd]; rfl
 have eslots:D.slots=hs[k].slots:=by rw[←hhd]; rfl
 have ekind:D.kind=0:=by rw[←h2,←hhd]; rfl
 have hdl:=hx.dlen;have hd100:=hx.len;have wd:=qF (depth-1) (by omega);have hS6:D.slots.length≤6:=by rw[eslots]; exact h3'
 have hsc:((D.slots.length:Int))*c≤6*c:=jDd (by omega) hc;obtain⟨es,ms,q1,q2,q3,q4,q5⟩:=zSB hk hc env h5 h6 (D.slots.map (·.typ)) m hx (hl.mono (by rw[jAa]; omega)) (fun t ht=>by obtain⟨s,hs',rfl⟩:=jAi.1 ht;exact⟨r,h4 s (eslots▸hs'),hQ⟩) he
 rw[jAa]at q1 q3 q4;have ha:=(q3 D.slots.length (jA _)).mono hsc;obtain⟨l1,l2,l3,l4,l5,l6,l7,l8⟩:=Lim.adv (c:=6*c) (c':=1) hl ha;refine⟨.mk ⟨0,0,(ms es.length).temp⟩ 7 0 hs[k].id Typ.zero es [],{ms es.length with temp:=(ms es.length).temp+1,left:=(ms es.length).left-1},?_,q1▸ha.trans (zAd _),.record _ _ k h es h2 (by rw[←eslots,q1]) fun j hj=>?_,
  by simp only[tmps]; rw[q1]; exact q4.append (Seg.one _) ha.temp1 (by omega),zCB (zIo rfl fun j hj=>(q5 j hj (by rw[jAa]; omega)).2.2)⟩
 ·rw[←eid]at hdv ⊢;refine zI Tryz.func79 rfl zTt (rs:=[.cell 10 15 true]) (by kernel_rfl) ?_;unfold zQB;simp[mkS,mkB,zB];refine⟨_,_,zAj 1,?_⟩;simp[mkS,mkB,zB,List.replicate];refine zSw (zPW m.mods m.defs D.id (by omega)) [1] (by decide) (by simp[zMB]) (by simp[zMB]) (by simp[jF]) (fun τ hτ=>by
   have:=zLB hτ (j:=1) (o:=.row false 39 31 m.defs.length (zX m.defs)) (by simp) (by simp)
   simpa [zMB] using this) ?_
  rw[hdv];simp[mkS,mkB,zO,ekind];refine qW (S:=Nat) (fun i=>[(0,.ptr 0 0),(2,.sl env.length (zQ env)),(4,int depth),(6,.ptr 2 0),(10,.ptr 3 0),(15,.ptr 4 0),(20,.row 5 i),(21,int i)])
   (fun i=>mkS (ms i)++[.box (zB (zBA D.id)),.box (zF Exp.zero),.box (zO D),.row false 37 15 i (qL (es.take i))]) (fun i=>i≤es.length) (fun i=>es.length-i) 0 (by simp)
   ((yG (t:=20) (by simp) 37 15).trans (zR [0,1,2,3,4,5] 0 (by decide) (by simp) (by simp[mkS,mkB,zB,zBA,q2,zF,Exp.zero,Id.zero,Typ.zero,zO,ekind]) (by simp))) ?_
  intro i hi;have hms:=q3 i (by omega);by_cases hi2:i<es.length
  ·have hid:i<D.slots.length:=by omega
   obtain⟨g1,_,_⟩:=q5 i hi2 (by rw[jAa]; omega);rw[jAr]at g1;have hst:qL (es.take (i+1))=qL (es.take i)++zF es[i]:=zAz hi2;have hw:=zAk i (by omega);have hdS:List.drop (i*11+4) (yE D.slots)=(zAu D.slots[i]++yE (D.slots.drop (i+1))).drop 4:=by rw[←jAs,jU hid]
   have hbS:i*11+4+5≤D.slots.length*11:=by omega
   simp[mkS,mkB,zO,hid,hdS,hbS,zAu,wd];intro _;refine zN g1 [0,1] (by decide) (by simp[mkS,mkB]) (by simp[zB]) ?_;simp[mkS,mkB];refine⟨⟨by simp[maxLen]; omega,by omega⟩,?_⟩;exact zU (i+1) hi2 (by omega) (zR [0,1,2,3,4,5] 0 (by decide) (by simp) (by simp[mkS,mkB,zB,zBA,zF,Exp.zero,Id.zero,Typ.zero,hst,zO]) (by simp[hw]))
  ·have hie:i=es.length:=by omega
   subst hie;have hid:¬es.length<D.slots.length:=by omega
   rw[←q1]at l3 l4 l5 l6;simp[mkS,mkB,zO,hid];intro _;refine⟨qT [(0,.ptr 0 0),(10,.ptr 3 0),(15,.ptr 4 0),(20,.sl es.length (qL es))],mkS (ms es.length)++[.box (zB (zBA D.id)),.box (zF Exp.zero),.box (zO D)],zR [0,1,2,3,4] 1 (by decide) (by simp) (by simp[mkS,mkB,zB,zBA,zF,Exp.zero,Id.zero,Typ.zero,zO]) (by simp),?_⟩;simp[mkS,mkB];refine zN (yQ (ms es.length) 7 0 es l3 (by omega) (by omega) l6) [0,1] (by decide) (by simp[mkS,mkB]) (by simp) ?_;simp[mkS,mkB,zF,zO];exact zG [0,1] 0 (by decide) (by simp) (by simp) (by simp[zF])
 ·have:=(q5 j hj (by rw[jAa]; omega)).2.1;rw[jAr]at this
  simpa only[eslots] using this
theorem zXd {hs:List Hd}{R:Nat}{m:Mk}{env:List Bnd}{c depth:Int}{Q:Nat→Prop}{len:Nat}(hc:0≤c)(hl:Lim m (6*c+1))(x:Int)(hx0:0≤x)(hx1:x≤65536)(t:Typ){r:Nat}(hr:TyOk hs r t)(hQ:∀r'<r,Q r')
 (hk:zB1 hs R c (depth-1) Q len)(hx:Cx hs R m)(he:EnvOk hs R m.temp env)(h5:0<env.length)(h6:env.length≤len)(hd1 : -1000≤depth)(hd2:depth≤1000) :
 zAP hs m.own zOi m [.ptr 0 0,.agg (zB t),.sl env.length (zQ env),int x,int depth] env t (6*c+1):=by
 cases hr with
 | int r=>exact(zZ3 (R:=R) (hl.mono (by omega)) x depth hx0 hx1).mono (by omega)
 | bool r=>exact(zXa (hl.mono (by omega)) x depth hx0).mono (by omega)
 | list r t h=>exact(zXc hc (hl.mono (by omega)) x hx0 t h (hQ r (by omega)) hk hx he h5 h6 hd1 hd2).mono (by omega)
 | dfn r k h h1 h2 h3 h4 =>
  rcases h2 with h2 | ⟨h2,h2'⟩
  ·exact zZ4 hc hl x k h h1 h2 h3 h4 (hQ r (by omega)) hk hx he h5 h6 hd1 hd2
  ·exact(zXb hc (hl.mono (by omega)) x hx0 hx1 k h h1 h2 h2' h3 h4 (hQ r (by omega)) hk hx he h5 h6 hd1 hd2).mono (by omega)
@[simp] theorem qP6:zA prog 136=true:=by kernel_rfl
@[simp] theorem qPH:zA prog 98=true:=by kernel_rfl
def zK1:K:=G [kO 6 1,kZ 10 kz1] (Z (G [D 16 6 0,L 17 16 1,kQi 18 17 0 false] (Y 18 (Z (G [M 19 3,kBi 20 19 6 .rem,kQi 21 20 5 false] (Y 21 (G [M 22 0,M 23 0,kb 24 kz2 [],kC 25 74 [(kt 24)],M 26 2,M 27 4,kBi 28 27 1 .sub,kC 29 34 [(kt 23),(kt 25),(kt 26),(kt 28)],kd 30 37 15 1 kz1 [(0,15,(kt 29))],kC 31 80 [(kt 22),(kc 4),(kc 11),(kt 30)],S 10 31 15] kr) ks)) (G [M 32 0,J 33 6 5,M 34 2,M 35 4,kBi 36 35 1 .sub,kC 37 34 [(kt 32),(kt 33),(kt 34),(kt 36)],kZ 11 kz1,S 11 37 15] (Z (K.dops [(0,0,M 38 0),(1,0,kd 39 3 1 5 [ki,ki,ki,ki,ki] [(0,1,(kc 0)),(1,1,(kc 1)),(2,1,(kc 2)),(3,1,(kc 3)),(4,1,(kc 4))]),(2,0,M 40 3),(3,0,kBi 41 40 5 .rem),(4,2,kX 42 39 41 1),(5,2,L 43 42 1),(6,2002,J 44 11 15),(7,0,M 45 0),(8,0,J 46 6 5),(9,0,M 47 2),(10,0,M 48 4),(11,0,kBi 49 48 1 .sub),(12,1002,kC 50 34 [(kt 45),(kt 46),(kt 47),(kt 49)]),(13,0,kd 51 37 15 2 kz6 [(0,15,(kt 44)),(15,15,(kt 50))]),(14,4,kC 52 80 [(kt 38),(kc 4),(kt 43),(kt 51)]),(15,0,S 10 52 15)]) kr))) ks)) (Z (G [D 53 6 0,L 54 53 1,kQi 55 54 1 false] (Y 55 (Z (G [M 56 3,kBi 57 56 6 .rem,kQi 58 57 0 false] (Y 58 (G [M 59 0,M 60 0,J 61 6 5,M 62 2,M 63 4,kBi 64 63 1 .sub,kC 65 34 [(kt 60),(kt 61),(kt 62),(kt 64)],kd 66 37 15 1 kz1 [(0,15,(kt 65))],kC 67 80 [(kt 59),(kc 4),(kc 9),(kt 66)],S 10 67 15] kr) ks)) (G [kb 68 kz2 [],kZ 12 kz2,S 12 68 5] (G [kMi 13 5] (Z (G [M 69 3,kBi 70 69 6 .rem,kQi 71 70 2 false] (Y 71 (K.ops [kMi 13 6]) ks)) (Z (G [M 72 3,kBi 73 72 6 .rem,kQi 74 73 3 false] (Y 74 (G [kMi 13 6] (K.ops [M 75 2,
 M 76 3,kBi 77 76 6 .quo,M 78 2,kN 79 78,kB 80 77 79 .rem,kX 81 75 80 9,D 82 81 4,J 83 82 5,S 12 83 5])) ks)) (Z (G [M 84 3,kBi 85 84 6 .rem,kBi 86 85 4 .geq] (Y 86 (G [kd 87 3 1 2 [ki,ki] [(0,1,(kc 7)),(1,1,(kc 8))],M 88 3,kBi 89 88 6 .rem,kBi 90 89 4 .sub,kX 91 87 90 1,L 92 91 1,M 13 92] (K.ops [J 93 6 5,S 12 93 5])) ks)) (G [M 94 0,J 95 12 5,M 96 2,M 97 4,kBi 98 97 1 .sub,kC 99 34 [(kt 94),(kt 95),(kt 96),(kt 98)],kZ 14 kz1,S 14 99 15] (Z (K.dops [(0,0,M 100 0),(1,0,M 101 13),(2,2002,J 102 14 15),(3,0,M 103 0),(4,0,J 104 12 5),(5,0,M 105 2),(6,0,M 106 4),(7,0,kBi 107 106 1 .sub),(8,1002,kC 108 34 [(kt 103),(kt 104),(kt 105),(kt 107)]),(9,0,kd 109 37 15 2 kz6 [(0,15,(kt 102)),(15,15,(kt 108))]),(10,4,kC 110 80 [(kt 100),(kc 4),(kt 101),(kt 109)]),(11,0,S 10 110 15)]) kr)))))))) ks)) (Z (G [D 111 6 0,L 112 111 1,kQi 113 112 2 false,M 114 113,T 114 true (M 115 3),T 114 true (kBi 116 115 2 .rem),T 114 true (kQi 117 116 0 false),kPf 118 114 117] (Y 118 (G [M 119 0,J 120 6 5,M 121 2,M 122 4,kBi 123 122 1 .sub,kC 124 34 [(kt 119),(kt 120),(kt 121),(kt 123)],kZ 15 kz1,S 15 124 15] (Z (K.dops [(0,0,M 125 0),(1,2002,J 126 15 15),(2,0,M 127 0),(3,0,J 128 6 5),(4,0,M 129 2),(5,0,M 130 4),(6,0,kBi 131 130 1 .sub),(7,1002,kC 132 34 [(kt 127),(kt 128),(kt 129),(kt 131)]),(8,0,kd 133 37 15 2 kz6 [(0,15,(kt 126)),(15,15,(kt 132))]),(9,4,kC 134 80 [(kt 125),(kc 4),(kc 10),(kt 133)]),(10,0,S 10 134 15)]) kr)) ks)) (G [M 135 0,J 136 6 5,M 137 2,M 138 3,kBi 139 138 2 .quo,
 M 140 4,kC 141 79 [(kt 135),(kt 136),(kt 137),(kt 139),(kt 140)],S 10 141 15] kr))))
def qQG:Nat→Option (List (Nat×Nat)):=fun r=>match r with | 5=>some [(0,0),(1,0),(2,0),(3,0),(4,2),(5,2),(6,2002),(7,0),(8,0),(9,0),(10,0),(11,0),(12,1002),(13,0),(14,4),(15,0)] | 20=>some [(0,0),(1,0),(2,2002),(3,0),(4,0),(5,0),(6,0),(7,0),(8,1002),(9,0),(10,4),(11,0)] | 23=>some [(0,0),(1,2002),(2,0),(3,0),(4,0),(5,0),(6,0),(7,1002),(8,0),(9,4),(10,0)] | _=>none
theorem zMu:qD prog Tryz.f86.ntmps qQG (Tryz.f86.body.getD .skip)=some zK1.erase:=by kernel_rfl
@[simp] theorem qPy:zA prog 86=true:=by kernel_rfl
@[simp] theorem qLi {d:Option Nat}{x:Operand}{n:Nat}{g:Bool}{env:Env}:zBi 2002 (.ld d x n g) env=zCb 2 (ev env x):=propext (zI1 (by omega) (by omega))
@[simp] theorem qE6 {d:Option Nat}{x:Operand}{l:List Operand}{env:Env}:zBi 1002 (.call d x l) env=True:=rfl
@[simp] theorem qB8 {c l o:Nat}:zCb c (.ptr l o)=(c≤l):=rfl
abbrev opF:FuncId:=86
theorem zH8 {hs:List Hd}{R:Nat}{c depth:Int}{Q:Nat→Prop}{len:Nat}(hk:zB1 hs R c depth Q len){m:Mk}{env:List Bnd}(hx:Cx hs R m){c':Int}(hl:Lim m (2*c+c'))(hc:0≤c)(hc':0≤c')(he:EnvOk hs R m.temp env)(h1:0<env.length)(h2:env.length≤len)
 (t u:Typ){r r':Nat}(ht:TyOk hs r t)(hu:TyOk hs r' u)(hQ:Q r)(hQ':Q r') :
 ∃(a b:Exp) (m1 m2:Mk),Ret prog zAg [.ptr 0 0,.agg (zB t),.sl env.length (zQ env),int depth] (mkS m) (.agg (zF a)) (mkS m1) ∧
  Ret prog zAg [.ptr 0 0,.agg (zB u),.sl env.length (zQ env),int depth] (mkS m1) (.agg (zF b)) (mkS m2) ∧
  Adv m m2 (2*c)∧WT hs m.own env a t∧WT hs m.own env b u∧Seg m.temp m2.temp (tmps a++tmps b)∧a.num0∧b.num0∧Lim m2 c':=by
 obtain⟨a,m1,g1,g2,g3,g4,g5⟩:=hk m r t env hx (hl.mono (by omega)) ht hQ he h1 h2;have hl1:Lim m1 (c+c'):=Lim.adv (c:=c) (hl.mono (by omega)) g2;obtain⟨b,m2,k1,k2,k3,k4,k5⟩:=hk m1 r' u env (hx.adv g2) (hl1.mono (by omega)) hu hQ' (he.mono g2.temp1) h1 h2;rw[g2.own]at k3;exact⟨a,b,m1,m2,g1,k1,(g2.trans k2).mono (by omega),g3,k3,g4.append k4 g2.temp1 k2.temp1,g5,k5,Lim.adv hl1 k2⟩
theorem zFw {a b:Exp}{t0 t1:Int}{k n:Int}(h:Seg t0 t1 (tmps a++tmps b))(h1:t0≤t1):Seg t0 (t1+1) (tmps (.mk ⟨0,0,t1⟩ k n Id.zero Typ.zero [a,b] [])):=by simp only[tmps,jL,jAz];exact h.append (Seg.one _) h1 (by omega)
theorem zDO {a b:Exp}{c k n:Int}(h1:a.num0)(h2:b.num0):(Exp.mk ⟨0,0,c⟩ k n Id.zero Typ.zero [a,b] []).num0:=zCB (by simp[h1,h2])
theorem zL0 {a:Exp}{c k n:Int}{r:Id}(h1:a.num0):(Exp.mk ⟨0,0,c⟩ k n r Typ.zero [a] []).num0:=zCB (by simp[h1])
theorem zOz {a:Exp}{t0 t1:Int}{k n:Int}{r:Id}(h:Seg t0 t1 (tmps a))(h1:t0≤t1):Seg t0 (t1+1) (tmps (.mk ⟨0,0,t1⟩ k n r Typ.zero [a] [])):=by simp only[tmps,jL,jAz];exact h.append (Seg.one _) h1 (by omega)
theorem zLm:Ret prog 74 [.agg (zB jT)] [] (.agg (zB (jV jT))) []:=zZ2 jT
theorem qEb {hs:List Hd}{R:Nat}{m:Mk}{env:List Bnd}{c depth:Int}{len:Nat}(hc:0≤c)(hl2:Lim m (2*c+1))(x:Int)(hx0:0≤x)(hx1:x≤65536)
 (hk:zB1 hs R c (depth-1) (fun r=>r≤R) len)(hR:1≤R)(hx:Cx hs R m)(he:EnvOk hs R m.temp env)(h1:0<env.length)(h2:env.length≤len)(h3:env.length≤1000)(hd1 : -1000≤depth)(hd2:depth≤1000) :
 zAP hs m.own opF m [.ptr 0 0,.agg (zB jT),.sl env.length (zQ env),int x,int depth] env jT (2*c+1):=by
 have e6:x.tmod 6=x % 6:=tmN hx0;have e5:x.tmod 5=x % 5:=tmN hx0;have wd:=qF (depth-1) (by omega);by_cases h6:x.tmod 6=5
 ·obtain⟨a,m1,g1,k2,k3,k4,k5⟩:=hk m 1 (jV jT) env hx (hl2.mono (by omega)) (.list _ _ (.int _)) hR he h1 h2;obtain⟨l1,l2,l3,l4,l5,l6,l7,l8⟩:=Lim.adv (c:=c) (c':=1) (hl2.mono (by omega)) k2;refine⟨.mk ⟨0,0,m1.temp⟩ 4 11 Id.zero Typ.zero [a] [],{m1 with temp:=m1.temp+1,left:=m1.left-1},?_,(k2.trans (zAd _)).mono (by omega),.len _ _ _ _ k3,zOz k4 k2.temp1,zL0 k5⟩;refine zI Tryz.func86 rfl zMu (rs:=[.cell 10 15 true]) (by kernel_rfl) ?_;unfold zK1;simp[mkS,mkB,zB,jT,h6];refine zT zLm (by simp[zB,jT]) (by simp) ?_;simp[mkS,mkB,zB,wd];refine zN g1 [0,1] (by decide) (by simp[mkS,mkB]) (by simp[zB,jV]) ?_;simp[mkS,mkB];refine zN (yQ m1 4 11 [a] l3 (by omega) (by omega) l6) [0,1] (by decide) (by simp[mkS,mkB]) (by simp[zH]) ?_;simp[mkS,mkB];exact zG [0,1] 0 (by decide) (by simp) (by simp) (by simp[zF,zH])
 ·obtain⟨a,b,m1,m2,g1,g2,k2,k3,k3',k4,k5,k6,hln⟩:=zH8 (t:=jT) (u:=jT) (c':=1) hk hx hl2 hc (by omega) he h1 h2 (.int 0) (.int 0) (by omega) (by omega);obtain⟨l1,l2,l3,l4,l5,l6,l7,l8⟩:=hln;obtain⟨rest,hA⟩:∃rest,List.drop (x.tmod 5).toNat [A.lit (.int .i64 0),A.lit (.int .i64 1),A.lit (.int .i64 2),A.lit (.int .i64 3),A.lit (.int .i64 4)]=A.lit (.int .i64 (x.tmod 5))::rest:=by
   have:x.tmod 5=0∨x.tmod 5=1∨x.tmod 5=2∨x.tmod 5=3∨x.tmod 5=4:=by omega
   rcases this with e | e | e | e | e<;>rw[e]<;>exact⟨_,rfl⟩
  have a0:0≤x.tmod 5:=by omega
  have a1:(x.tmod 5).toNat<5:=by omega
  have a1':x.tmod 5<5:=by omega
  refine⟨.mk ⟨0,0,m2.temp⟩ 4 (x.tmod 5) Id.zero Typ.zero [a,b] [],{m2 with temp:=m2.temp+1,left:=m2.left-1},?_,k2.trans (zAd _),.arith _ _ _ _ _ a0 (by omega) k3 k3',zFw k4 k2.temp1,zDO k5 k6⟩;refine zI Tryz.func86 rfl zMu (rs:=[.cell 10 15 true]) (by kernel_rfl) ?_;unfold zK1;simp[mkS,mkB,zB,jT,h6,wd];refine zN g1 [0,1] (by decide) (by simp[mkS,mkB]) (by simp[zB]) ?_;simp[mkS,mkB,zB,hA,a0,a1,a1',wd];refine zAn g2 [0,1] (by decide) (by simp[mkS,mkB]) (by simp[zB]) (by decide) (by simp) (by simp[mkS]) ?_;simp[mkS,mkB];refine zA8 (yQ m2 4 (x.tmod 5) [a,b] l3 (by omega) (by omega) l6) [0,1] (by decide) (by simp[mkS,mkB]) (by simp[zH]) ?_;simp[mkS,mkB,zF,zH];exact zG [0,1] 0 (by decide) (by simp) (by simp) (by simp[zF,zH])
theorem zZM {hs:List Hd}{R:Nat}{m:Mk}{env:List Bnd}{c depth:Int}{len:Nat}(hc:0≤c)(hl2:Lim m (2*c+1))(x:Int)(hx0:0≤x)(hx1:x≤65536)
 (hk:zB1 hs R c (depth-1) (fun r=>r≤R) len)(hR:1≤R)(hx:Cx hs R m)(he:EnvOk hs R m.temp env)(h1:0<env.length)(h2:env.length≤len)(h3:env.length≤1000)(hd1 : -1000≤depth)(hd2:depth≤1000) :
 zAP hs m.own opF m [.ptr 0 0,.agg (zB yC),.sl env.length (zQ env),int x,int depth] env yC (2*c+1):=by
 have e6:x.tmod 6=x % 6:=tmN hx0;have d6:x.tdiv 6=x / 6:=tdN hx0;have wd:=qF (depth-1) (by omega);have w0:IntKind.i64.wrap 0=0:=IntWalk.i64_in _ (by omega);have w1:IntKind.i64.wrap 1=1:=IntWalk.i64_in _ (by omega);have:x.tmod 6=0∨x.tmod 6=1∨x.tmod 6=2∨x.tmod 6=3∨x.tmod 6=4∨x.tmod 6=5:=by omega
 rcases this with e | e | e | e | e | e
 ·obtain⟨a,m1,g1,k2,k3,k4,k5⟩:=hk m 0 yC env hx (hl2.mono (by omega)) (.bool _) (by omega) he h1 h2;obtain⟨l1,l2,l3,l4,l5,l6,l7,l8⟩:=Lim.adv (c:=c) (c':=1) (hl2.mono (by omega)) k2;refine⟨.mk ⟨0,0,m1.temp⟩ 4 9 Id.zero Typ.zero [a] [],{m1 with temp:=m1.temp+1,left:=m1.left-1},?_,(k2.trans (zAd _)).mono (by omega),.not _ _ _ k3,zOz k4 k2.temp1,zL0 k5⟩;refine zI Tryz.func86 rfl zMu (rs:=[.cell 10 15 true]) (by kernel_rfl) ?_;unfold zK1;simp[mkS,mkB,zB,yC,e,wd];refine zN g1 [0,1] (by decide) (by simp[mkS,mkB]) (by simp[zB]) ?_;simp[mkS,mkB];refine zN (yQ m1 4 9 [a] l3 (by omega) (by omega) l6) [0,1] (by decide) (by simp[mkS,mkB]) (by simp[zH]) ?_;simp[mkS,mkB];exact zG [0,1] 0 (by decide) (by simp) (by simp) (by simp[zF,zH])
 ·obtain⟨a,b,m1,m2,g1,g2,k2,k3,k3',k4,k5,k6,hln⟩:=zH8 (t:=jT) (u:=jT) (c':=1) hk hx hl2 hc (by omega) he h1 h2 (.int 0) (.int 0) (by omega) (by omega);obtain⟨l1,l2,l3,l4,l5,l6,l7,l8⟩:=hln;refine⟨.mk ⟨0,0,m2.temp⟩ 4 5 Id.zero Typ.zero [a,b] [],{m2 with temp:=m2.temp+1,left:=m2.left-1},?_,k2.trans (zAd _),.less _ _ _ _ k3 k3',zFw k4 k2.temp1,zDO k5 k6⟩;refine zI Tryz.func86 rfl zMu (rs:=[.cell 10 15 true]) (by kernel_rfl) ?_;unfold zK1;simp[mkS,mkB,zB,yC,e,wd];refine zN g1 [0,1] (by decide) (by simp[mkS,mkB]) (by simp[zB]) ?_;simp[mkS,mkB,zB,wd];refine zAn g2 [0,1] (by decide) (by simp[mkS,mkB]) (by simp[zB]) (by decide) (by simp) (by simp[mkS]) ?_;simp[mkS,mkB];refine zA8 (yQ m2 4 5 [a,b] l3 (by omega) (by omega) l6) [0,1] (by decide) (by simp[mkS,mkB]) (by simp[zH]) ?_;simp[mkS,mkB,zF,zH];exact zG [0,1] 0 (by decide) (by simp) (by simp) (by simp[zF,zH])
 ·obtain⟨a,b,m1,m2,g1,g2,k2,k3,k3',k4,k5,k6,hln⟩:=zH8 (t:=jT) (u:=jT) (c':=1) hk hx hl2 hc (by omega) he h1 h2 (.int 0) (.int 0) (by omega) (by omega);obtain⟨l1,l2,l3,l4,l5,l6,l7,l8⟩:=hln;refine⟨.mk ⟨0,0,m2.temp⟩ 4 6 Id.zero Typ.zero [a,b] [],{m2 with temp:=m2.temp+1,left:=m2.left-1},?_,k2.trans (zAd _),.same _ _ _ _ jT k3 k3',zFw k4 k2.temp1,zDO k5 k6⟩;refine zI Tryz.func86 rfl zMu (rs:=[.cell 10 15 true]) (by kernel_rfl) ?_;unfold zK1;simp[mkS,mkB,zB,yC,e,wd];refine zN g1 [0,1] (by decide) (by simp[mkS,mkB]) (by simp[zB]) ?_;simp[mkS,mkB,zB,wd];refine zAn g2 [0,1] (by decide) (by simp[mkS,mkB]) (by simp[zB]) (by decide) (by simp) (by simp[mkS]) ?_;simp[mkS,mkB];refine zA8 (yQ m2 4 6 [a,b] l3 (by omega) (by omega) l6) [0,1] (by decide) (by simp[mkS,mkB]) (by simp[zH]) ?_;simp[mkS,mkB,zF,zH];exact zG [0,1] 0 (by decide) (by simp) (by simp) (by simp[zF,zH])
 ·obtain⟨j,hj,e1⟩:∃j:Nat,j<env.length∧(x.tdiv 6).tmod (env.length:Int)=j:=by
   have q0:0≤x.tdiv 6:=by omega
   have q1:=jCz (x.tdiv 6) (b:=(env.length:Int)) (by omega);have q2:=jCo (x.tdiv 6) (b:=(env.length:Int)) (by omega);exact⟨((x.tdiv 6) % env.length).toNat,by omega,by rw[tmN q0]; omega⟩
  have hdr:=zCp hj;have hdr4:List.drop (j*9+4) (zQ env)=(zAS env[j]++zQ (env.drop (j+1))).drop 4:=by rw[←jAs,hdr]
  have hb4:j*9+4+5≤env.length*9:=by omega
  have hne:¬((env.length:Int)=0):=by omega
  have hnil:env≠[]:=fun e=>by rw[e]at h1; simp at h1
  have htu:=he.typs env[j] (jA0 hj);have w6:=qF (x.tdiv 6) (by omega);obtain⟨a,b,m1,m2,g1,g2,k2,k3,k3',k4,k5,k6,hln⟩:=zH8 (t:=env[j].typ) (u:=env[j].typ) (c':=1) hk hx hl2 hc (by omega) he h1 h2 htu htu (by omega) (by omega);obtain⟨l1,l2,l3,l4,l5,l6,l7,l8⟩:=hln;refine⟨.mk ⟨0,0,m2.temp⟩ 4 6 Id.zero Typ.zero [a,b] [],{m2 with temp:=m2.temp+1,left:=m2.left-1},?_,k2.trans (zAd _),.same _ _ _ _ env[j].typ k3 k3',zFw k4 k2.temp1,zDO k5 k6⟩;refine zI Tryz.func86 rfl zMu (rs:=[.cell 10 15 true]) (by kernel_rfl) ?_;unfold zK1;simp[mkS,mkB,zB,yC,e,wd,e1,hne,hnil,hj,hdr4,hb4,zAS,w6];intro _;refine zN g1 [0,1] (by decide) (by simp[mkS,mkB]) (by simp[zB]) ?_;simp[mkS,mkB,zB,wd];refine zAn g2 [0,1] (by decide) (by simp[mkS,mkB]) (by simp[zB]) (by decide) (by simp) (by simp[mkS]) ?_;simp[mkS,mkB];refine zA8 (yQ m2 4 6 [a,b] l3 (by omega) (by omega) l6) [0,1] (by decide) (by simp[mkS,mkB]) (by simp[zH]) ?_;simp[mkS,mkB,zF,zH];exact zG [0,1] 0 (by decide) (by simp) (by simp) (by simp[zF,zH])
 ·obtain⟨a,b,m1,m2,g1,g2,k2,k3,k3',k4,k5,k6,hln⟩:=zH8 (t:=yC) (u:=yC) (c':=1) hk hx hl2 hc (by omega) he h1 h2 (.bool 0) (.bool 0) (by omega) (by omega);obtain⟨l1,l2,l3,l4,l5,l6,l7,l8⟩:=hln;refine⟨.mk ⟨0,0,m2.temp⟩ 4 7 Id.zero Typ.zero [a,b] [],{m2 with temp:=m2.temp+1,left:=m2.left-1},?_,k2.trans (zAd _),.andor _ _ _ _ _ (.inl rfl) k3 k3',zFw k4 k2.temp1,zDO k5 k6⟩;refine zI Tryz.func86 rfl zMu (rs:=[.cell 10 15 true]) (by kernel_rfl) ?_;unfold zK1;simp[mkS,mkB,zB,yC,e,wd,w0];refine zN g1 [0,1] (by decide) (by simp[mkS,mkB]) (by simp[zB]) ?_;simp[mkS,mkB,zB,wd];refine zAn g2 [0,1] (by decide) (by simp[mkS,mkB]) (by simp[zB]) (by decide) (by simp) (by simp[mkS]) ?_;simp[mkS,mkB];refine zA8 (yQ m2 4 7 [a,b] l3 (by omega) (by omega) l6) [0,1] (by decide) (by simp[mkS,mkB]) (by simp[zH]) ?_;simp[mkS,mkB,zF,zH];exact zG [0,1] 0 (by decide) (by simp) (by simp) (by simp[zF,zH])
 ·obtain⟨a,b,m1,m2,g1,g2,k2,k3,k3',k4,k5,k6,hln⟩:=zH8 (t:=yC) (u:=yC) (c':=1) hk hx hl2 hc (by omega) he h1 h2 (.bool 0) (.bool 0) (by omega) (by omega);obtain⟨l1,l2,l3,l4,l5,l6,l7,l8⟩:=hln;refine⟨.mk ⟨0,0,m2.temp⟩ 4 8 Id.zero Typ.zero [a,b] [],{m2 with temp:=m2.temp+1,left:=m2.left-1},?_,k2.trans (zAd _),.andor _ _ _ _ _ (.inr rfl) k3 k3',zFw k4 k2.temp1,zDO k5 k6⟩;refine zI Tryz.func86 rfl zMu (rs:=[.cell 10 15 true]) (by kernel_rfl) ?_;unfold zK1;simp[mkS,mkB,zB,yC,e,wd,w1];refine zN g1 [0,1] (by decide) (by simp[mkS,mkB]) (by simp[zB]) ?_;simp[mkS,mkB,zB,wd];refine zAn g2 [0,1] (by decide) (by simp[mkS,mkB]) (by simp[zB]) (by decide) (by simp) (by simp[mkS]) ?_;simp[mkS,mkB];refine zA8 (yQ m2 4 8 [a,b] l3 (by omega) (by omega) l6) [0,1] (by decide) (by simp[mkS,mkB]) (by simp[zH]) ?_;simp[mkS,mkB,zF,zH];exact zG [0,1] 0 (by decide) (by simp) (by simp) (by simp[zF,zH])
theorem zZN {hs:List Hd}{R:Nat}{m:Mk}{env:List Bnd}{c depth:Int}{len:Nat}(hc:0≤c)(hl2:Lim m (2*c+1))(x:Int)(hx0:0≤x)(hx1:x≤65536)
 (hk:zB1 hs R c (depth-1) (fun r=>r≤R) len)(hR:1≤R)(hx:Cx hs R m)(he:EnvOk hs R m.temp env)(h1:0<env.length)(h2:env.length≤len)(h3:env.length≤1000)(hd1 : -1000≤depth)(hd2:depth≤1000)(t:Typ)(ht:TyOk hs R (jV t))(h5:x.tmod 2=0) :
 zAP hs m.own opF m [.ptr 0 0,.agg (zB (jV t)),.sl env.length (zQ env),int x,int depth] env (jV t) (2*c+1):=by
 have wd:=qF (depth-1) (by omega);obtain⟨a,b,m1,m2,g1,g2,k2,k3,k3',k4,k5,k6,hln⟩:=zH8 (t:=(jV t)) (u:=(jV t)) (c':=1) hk hx hl2 hc (by omega) he h1 h2 ht ht (by omega) (by omega);obtain⟨l1,l2,l3,l4,l5,l6,l7,l8⟩:=hln;refine⟨.mk ⟨0,0,m2.temp⟩ 4 10 Id.zero Typ.zero [a,b] [],{m2 with temp:=m2.temp+1,left:=m2.left-1},?_,k2.trans (zAd _),.join _ _ _ _ _ k3 k3',zFw k4 k2.temp1,zDO k5 k6⟩;refine zI Tryz.func86 rfl zMu (rs:=[.cell 10 15 true]) (by kernel_rfl) ?_;unfold zK1;simp[mkS,mkB,zB,jV,h5,wd];refine zN g1 [0,1] (by decide) (by simp[mkS,mkB]) (by simp[zB,jV]) ?_;simp[mkS,mkB,zB,wd];refine zAn g2 [0,1] (by decide) (by simp[mkS,mkB]) (by simp[zB,jV]) (by decide) (by simp) (by simp[mkS]) ?_;simp[mkS,mkB];refine zA8 (yQ m2 4 10 [a,b] l3 (by omega) (by omega) l6) [0,1] (by decide) (by simp[mkS,mkB]) (by simp[zH]) ?_;simp[mkS,mkB,zF,zH];exact zG [0,1] 0 (by decide) (by simp) (by simp) (by simp[zF,zH])
theorem qEc {hs:List Hd}{R:Nat}{m:Mk}{env:List Bnd}{c depth:Int}{len:Nat}(hc:0≤c)(hl2:Lim m (2*c+1))(x:Int)(hx0:0≤x)(hx1:x≤65536)
 (hk:zB1 hs R c (depth-1) (fun r=>r≤R) len)(hR:1≤R)(hx:Cx hs R m)(he:EnvOk hs R m.temp env)(h1:0<env.length)(h2:env.length≤len)(h3:env.length≤1000)(hd1 : -1000≤depth)(hd2:depth≤1000)(t:Typ)(ht:TyOk hs R t)(h4:t.k≠0)(h5:t.k≠1)(h6:t.k≠2∨x.tmod 2≠0)(hl:Lim m (6*c+1)) :
 zAP hs m.own opF m [.ptr 0 0,.agg (zB t),.sl env.length (zQ env),int x,int depth] env t (6*c+1):=by
 have d2:x.tdiv 2=x / 2:=tdN hx0;have w2:=qF (x.tdiv 2) (by omega);obtain⟨e,m',g1,g2⟩:=zXd hc hl (x.tdiv 2) (by omega) (by omega) t ht (fun r' h=>by omega) hk hx he h1 h2 hd1 hd2;refine⟨e,m',?_,g2⟩;refine zI Tryz.func86 rfl zMu (rs:=[.cell 10 15 true]) (by kernel_rfl) ?_;unfold zK1;by_cases h2:t.k=2
 ·have h7:x.tmod 2≠0:=h6.resolve_left (fun h=>h h2);simp[mkS,mkB,zB,h2,h7,w2];refine zN g1 [0,1] (by decide) (by simp[mkS,mkB]) (by simp[zB,h2]) ?_;simp[mkS,mkB];exact zG [0,1] 0 (by decide) (by simp) (by simp) (by simp[zF])
 ·simp[mkS,mkB,zB,h2,h4,h5,w2];refine zN g1 [0,1] (by decide) (by simp[mkS,mkB]) (by simp[zB]) ?_;simp[mkS,mkB];exact zG [0,1] 0 (by decide) (by simp) (by simp) (by simp[zF])
theorem qK9 {hs:List Hd}{R:Nat}{m:Mk}{env:List Bnd}{c depth:Int}{len:Nat}(hc:0≤c)(hl:Lim m (7*c+7))(x:Int)(hx0:0≤x)(hx1:x≤65536)
 (hk:zB1 hs R c (depth-1) (fun r=>r≤R) len)(hR:1≤R)(hx:Cx hs R m)(he:EnvOk hs R m.temp env)(h1:0<env.length)(h2:env.length≤len)(h3:env.length≤1000)(hd1 : -1000≤depth)(hd2:depth≤1000)(t:Typ)(ht:TyOk hs R t) :
 zAP hs m.own opF m [.ptr 0 0,.agg (zB t),.sl env.length (zQ env),int x,int depth] env t (7*c+7):=by
 have hlit:=fun h4 h5 h6=>(qEc (hl:=hl.mono (by omega)) hc (hl.mono (by omega)) x hx0 hx1 hk hR hx he h1 h2 h3 hd1 hd2 t ht h4 h5 h6).mono (show 6*c+1≤7*c+7 by omega)
 cases ht with
 | int r=>exact(qEb hc (hl.mono (by omega)) x hx0 hx1 hk hR hx he h1 h2 h3 hd1 hd2).mono (by omega)
 | bool r=>exact(zZM hc (hl.mono (by omega)) x hx0 hx1 hk hR hx he h1 h2 h3 hd1 hd2).mono (by omega)
 | list r t h =>
  by_cases h5:x.tmod 2=0
  ·exact(zZN hc (hl.mono (by omega)) x hx0 hx1 hk hR hx he h1 h2 h3 hd1 hd2 t (.list _ _ h) h5).mono (by omega)
  ·exact hlit (by simp) (by simp) (.inr h5)
 | dfn r k h h1 h2 h3 h4=>exact hlit (by simp) (by simp) (.inl (by simp))
theorem qAl {n:Nat}(h:n≤1000000000):w64 (n:Int)=n:=IntWalk.i64_in _ (by omega)
theorem zJv:∀(v:Val),qI v≤100000000→zDu v=qI v:=by
 intro v h;rw[zLR,zIy];have key:∀i,i≤v.kids.length→zLX (v.kids.take i)=((1+qY (v.kids.take i):Nat):Int):=by
  intro i;induction i with
  | zero=>intro _; simp[zLX,qY]
  | succ i ih =>
   intro hi;have e1:=zGp (l:=v.kids) (i:=i) (by omega);have e2:=zIz v.kids (i+1);have e3:=zIy v;have hk:qI (v.kids[i]'(by omega))<qI v:=zAC (jA0 _);rw[zJw (by omega),ih (by omega),zJv (v.kids[i]'(by omega)) (by omega),e1];rw[IntWalk.i64_in _ (by omega)];omega
 have:=key v.kids.length (jA _)
 rwa [jAp]at this
termination_by v=>qI v
theorem zFQ:∀(a b:List Val),zAh (a++b)=max (zAh a) (zAh b)
 | [],b=>by simp[zAh]
 | x::a,b=>by simp only[jBi,zAh,zFQ a b]; omega
mutual
theorem zMO:∀(v:Val),zAK v≤qI v
 | .mk _ _ l=>by simp only[zAK,qI]; have:=zKO l; omega
theorem zKO:∀(l:List Val),zAh l≤qY l
 | []=>by simp[zAh]
 | v::l=>by simp only[zAh,qY]; have:=zMO v; have:=zKO l; omega
end
theorem zKN:∀(v:Val),qI v≤100000000→zBS v=zAK v:=by
 intro v h;rw[zG6,zIJ];have key:∀i,i≤v.kids.length→zIZ (v.kids.take i)=((zAh (v.kids.take i):Nat):Int):=by
  intro i;induction i with
  | zero=>intro _; simp[zIZ,zAh]
  | succ i ih =>
   intro hi;have hk:qI (v.kids[i]'(by omega))<qI v:=zAC (jA0 _);rw[zGH (by omega),ih (by omega),zKN (v.kids[i]'(by omega)) (by omega),jA9 (by omega),zFQ];simp only[zAh,zP8];split<;>omega
 have:=key v.kids.length (jA _);rw[jAp]at this;rw[this];have h1:=zMO v;have h2:=zIJ v;have:((zAh v.kids:Nat):Int)+1=((zAh v.kids+1:Nat):Int):=by omega
 rw[this,qAl (by omega)]
termination_by v=>qI v
def qCp:K:=G [kO 6 1,kZ 10 kz1] (G [M 16 0,M 17 3,kC 18 118 [(kt 16),(kc 1),(kt 17)],M 11 18] (Z (G [M 19 11,kBi 20 19 0 .lss] (Y 20 (G [M 21 0,J 22 6 5,M 23 2,M 24 3,M 25 4,kC 26 86 [(kt 21),(kt 22),(kt 23),(kt 24),(kt 25)],S 10 26 15] kr) ks)) (G [M 27 0,kU 28 27,D 29 28 0,D 30 29 1,L 31 30 1,M 32 11,kX 33 31 32 31,J 34 33 31,kZ 12 kz0,S 12 34 31] (G [M 35 0,D 36 12 0,J 37 36 3,kC 38 72 [(kt 37)],M 39 2,M 40 4,kBi 41 40 2 .sub,kC 42 34 [(kt 35),(kt 38),(kt 39),(kt 41)],⟨none,.brow (some 43) 37 15 1 kz1 [(0,15,(kt 42))]⟩,M 13 43] (G [M 44 0,kC 45 80 [(kt 44),(kc 10),(kc 0),(.const kl)],kZ 14 kz1,S 14 45 15] (G [D 46 12 0,J 47 46 3,D 48 14 5,S 48 47 3] (Z (G [kMi 15 0] (K.block 0 (K.loop (Z (G [M 49 15,D 50 12 8,L 51 50 1,kN 52 51,kB 53 49 52 .lss] (Y 53 ks (K.exit 0))) (Z (K.block 1 (Z (K.dops [(0,0,M 56 13),(1,0,M 57 0),(2,0,J 58 6 5),(3,0,M 59 2),(4,0,D 60 14 0),(5,0,J 61 60 3),(6,0,M 62 15),(7,0,D 63 12 8),(8,0,L 64 63 1),(9,0,M 65 15),(10,0,kX 66 64 65 11),(11,0,D 67 66 4),(12,0,J 68 67 5),(13,0,kb 69 kz7 [(0,3,(kt 61)),(3,1,(kt 62)),(4,5,(kt 68))]),(14,0,kC 70 82 [(kt 59),(kt 69)]),(15,0,M 71 4),(16,0,kBi 72 71 1 .sub),(17,4,kC 73 34 [(kt 57),(kt 58),(kt 70),(kt 72)]),(18,0,kd 74 37 15 1 kz1 [(0,15,(kt 73))]),(19,0,kP 75 37 15 168 56 74),(20,0,M 13 75)]) (K.dops [(0,2,D 76 14 14),(1,2002,L 77 76 1),(2,0,M 78 0),(3,1002,kC 79 81 [(kt 78)]),(4,0,⟨none,.bslice (some 80) 9 1 1 [(.string ⟨#[]⟩)] [(0,1,(kt 79))]⟩),(5,0,kP 81 9 1 16 77 80),(6,2,D 82 14 14),(7,0,
 S 82 81 1)]))) (K.ops [M 54 15,kBi 55 54 1 .add,M 15 55])))))) (Z (K.wk (K.ops [M 83 13,D 84 14 13,S 84 83 1])) (G [J 85 14 15,S 10 85 15] kr)))))))))
def qQF:Nat→Option (List (Nat×Nat)):=fun r=>match r with | 11=>some [(0,0),(1,0),(2,0),(3,0),(4,0),(5,0),(6,0),(7,0),(8,0),(9,0),(10,0),(11,0),(12,0),(13,0),(14,0),(15,0),(16,0),(17,4),(18,0),(19,0),(20,0)] | 12=>some [(0,2),(1,2002),(2,0),(3,1002),(4,0),(5,0),(6,2),(7,0)] | _=>none
theorem qI9:qD prog Tryz.f83.ntmps qQF (Tryz.f83.body.getD .skip)=some qCp.erase:=by kernel_rfl
@[simp] theorem qPu:zA prog 83=true:=by kernel_rfl
abbrev zR2:FuncId:=83
theorem zXn (m:Mk)(kind n:Int)(h0:0≤m.temp)(h1:m.temp≤1000000000000000)(h2 : -1000000000000000≤m.left)(h3:m.left≤1000000000000000) :
 Ret prog 80 [.ptr 0 0,int kind,int n,.sl 0 []] (mkS m) (.agg [int 0,int 0,int m.temp,int kind,int n,int 0,int 0,int 0,int 0,int 0,int 0,int 0,.nil,.sl 0 [],.nil]) (mkS {m with temp:=m.temp+1,left:=m.left-1}):=by
 refine zK Tryz.func80 rfl qBe (rs:=[.cell 8 15 true]) (by kernel_rfl) ?_;unfold zUZ;have w1:=qF (m.temp+1) (by omega);have w2:=qF m.temp (by omega);have w3:=qF (m.left-1) (by omega);simp[mkS,mkB,w1,w2,w3];exact zG [0,1] 0 (by decide) (by simp) (by simp) (by simp)
def zRM (hd:Hd)(j:Nat):Typ:=match hd.slots[j]? with
 | some s=>s.typ
 | none=>jT
theorem zSX {hd:Hd}{j:Nat}(h:j<hd.slots.length):zRM hd j=hd.slots[j].typ:=by unfold zRM; rw[jA2 h]
theorem qAd {hs:List Hd}{R:Nat}{hd:Hd}(h:∀s∈hd.slots,TyOk hs R s.typ)(j:Nat):TyOk hs R (zRM hd j):=by
 unfold zRM;split
 ·rename_i s hs;exact h s (jBt hs)
 ·exact .int _
theorem zP7 {hs:List Hd}{R:Nat}{m:Mk}{env:List Bnd}{c depth:Int}{len:Nat}(hc:0≤c)(hl:Lim m (7*c+7))(x:Nat)(hx1:x≤65536)(hk:zB1 hs R c (depth-1) (fun r=>r≤R) len)(hk2:zB1 hs R c (depth-2) (fun r=>r≤R) len)
 (hx:Cx hs R m)(he:EnvOk hs R m.temp env)(h1:0<env.length)(h2:env.length+1≤len)(h3:env.length≤1000)(hd1 : -1000≤depth)(hd2:depth≤1000)(t:Typ)(ht:TyOk hs R t)
 (hop:zAP hs m.own opF m [.ptr 0 0,.agg (zB t),.sl env.length (zQ env),int x,int depth] env t (7*c+7)) :
 zAP hs m.own zR2 m [.ptr 0 0,.agg (zB t),.sl env.length (zQ env),int x,int depth] env t (7*c+7):=by
 have hdl:=hx.dlen;have hd100:=hx.len;have hd0:=hx.len0;have wd:=qF (depth-1) (by omega);have wd2:=qF (depth-2) (by omega);rcases zZJ m 1 x with hof | ⟨k,hkm,hof,hkind,hvis⟩
 ·obtain⟨e,m',g1,g2⟩:=hop;refine⟨e,m',?_,g2⟩;refine zI Tryz.func83 rfl qI9 (rs:=[.cell 10 15 true]) (by kernel_rfl) ?_;unfold qCp;simp[mkS,mkB,zB];refine zN (zXu m 1 x (by omega) (by omega) (by omega) hx.mods) [0,1] (by decide) (by simp[mkS,mkB]) (by simp) ?_;simp[mkS,mkB,hof];refine zN g1 [0,1] (by decide) (by simp[mkS,mkB]) (by simp[zB]) ?_;simp[mkS,mkB];exact zG [0,1] 0 (by decide) (by simp) (by simp) (by simp[zF])
 ·have hks:k<hs.length:=by omega
  have hget:=hx.get hkm;generalize hD:m.defs[k]=D at hget hkind;have eid:hs[k].id=D.id:=by rw[hget]; rfl
  have eslots:hs[k].slots=D.slots:=by rw[hget]; rfl
  have ekind:hs[k].kind=1:=by rw[hget]; exact hkind
  obtain⟨hs6,hsT⟩:=hx.slots k hks;have hDl:D.slots.length≤6:=by rw[←eslots]; exact hs6
  obtain⟨a,m1,g1,g2,g3,g4,g5⟩:=hk2 m R (zBA hs[k].id) env hx (hl.mono (by omega)) (hx.typs k hks (.inr ekind)) (jA _) he h1 (by omega);have hl1:Lim m1 (6*c+7):=Lim.adv (c:=c) (hl.mono (by omega)) g2;obtain⟨l1,l2,l3,l4,l5,l6,l7,l8⟩:=hl1;obtain⟨mA,hmA⟩:∃mA:Mk,mA={m1 with temp:=m1.temp+1,left:=m1.left-1}:=⟨_,rfl⟩;have aA:Adv m1 mA 1:=hmA▸zAd m1;have tA:mA.temp=m1.temp+1:=by rw[hmA]
  have hlA:Lim mA (6*c+6):=Lim.adv (c:=1) ⟨l1,by omega,l3,by omega,by omega,l6,l7,by omega⟩ aA;have hsc:((D.slots.length:Int))*(c+1)≤6*(c+1):=jDd (by omega) (by omega);obtain⟨es,ns,ms,q0,q1,q2,q3,q4,q5⟩:=zWV hk hc (fun j=>env++[⟨⟨0,0,m1.temp⟩,j,zRM hs[k] j⟩]) t ht (jA R) mA ((hx.adv g2).adv aA)
   (fun j=>((he.mono g2.temp1).mono aA.temp1).snoc m1.temp j _ (qAd hsT j) (fun b hb e=>by have hb':=he.new b hb (by rw[e]);rw[e]at hb';have:=g2.temp1;simp only at hb';omega) (by omega)) (fun j=>by simp) (fun j=>by simp; omega) D.slots.length (hlA.mono (by omega))
  have aE:=q3 D.slots.length (jA _);have eown:mA.own=m.own:=aA.own.trans g2.own;refine⟨.mk ⟨0,0,m1.temp⟩ 10 0 hs[k].id Typ.zero (a::es) ns,ms D.slots.length,?_,((g2.trans aA).trans aE).mono (by omega),?_,?_,zCB ?_⟩
  rotate_left
  ·refine .mtch _ _ k hks a es t ns (by omega) ekind (by rw[eslots,q0]) g3 fun j hj=>?_
   have:=(q5 j hj (by omega)).elim fun mm h=>h.2.2.1
   rw[eown,zSX (by rw[eslots]; omega)]at this;exact this
  ·simp only[tmps,jL];have s1:Seg m1.temp (m1.temp+1) [m1.temp]:=Seg.one _;have s2:=s1.append (b:=m1.temp+1) (tA▸q4) (by omega) (tA▸aE.temp1);have s3:=g4.append s2 g2.temp1 (by have:=aE.temp1; omega);refine s3.perm ?_;rw[jAv];exact jDl _ jDm
  ·intro e' he';rcases jA3.1 he' with rfl | he'
   ·exact g5
   ·exact zIo rfl (fun j hj=>(q5 j hj (by omega)).elim fun mm h=>h.2.2.2) e' he'
  refine zI Tryz.func83 rfl qI9 (rs:=[.cell 10 15 true]) (by kernel_rfl) ?_;unfold qCp;have hdr:=yI hkm;rw[hD]at hdr;have hb31:k*31+31≤m.defs.length*31:=by omega
  have hnk:¬((k:Int)<0):=by omega
  simp[mkS,mkB,zB];refine zN (zXu m 1 x (by omega) (by omega) (by omega) hx.mods) [0,1] (by decide) (by simp[mkS,mkB]) (by simp) ?_;simp[mkS,mkB,hof,hnk,hkm,hdr,hb31,zO];refine zT (zNy D.id) (by simp[jF]) (by simp) ?_;simp[mkS,mkB,wd2];rw[eid]at g1;refine zN g1 [0,1] (by decide) (by simp[mkS,mkB]) (by simp[zB,zBA]) ?_;simp[mkS,mkB];refine zN (zXn m1 10 0 l3 (by omega) (by omega) l6) [0,1] (by decide) (by simp[mkS,mkB]) (by simp) ?_;simp[mkS,mkB,zO];refine qW (S:=Nat) (fun i=>[(0,.ptr 0 0),(2,.sl env.length (zQ env)),(4,int depth),(6,.ptr 2 0),(10,.ptr 3 0),(12,.ptr 4 0),(13,.row 5 (i+1)),(14,.ptr 6 0),(15,int i)])
   (fun i=>mkS (ms i)++[.box (zB t),.box (zF Exp.zero),.box (zO D),.row false 37 15 (i+1) (zF a++qL (es.take i)),.box [int 0,int 0,int m1.temp,int 10,int 0,int D.id.a,int D.id.b,int D.id.c,int 0,int 0,int 0,int 0,.sl 0 [],.sl 0 [],.row 7 i],.row false 9 1 i (yK (ns.take i))]) (fun i=>i≤es.length) (fun i=>es.length-i) 0 (by simp)
   ((zAv (l:=6) (o:=14) rfl rfl 9 1).trans (zR [0,1,2,3,4,5,6,7] 0 (by decide) (by simp) (by simp[mkS,mkB,zB,q2,hmA,zF,Exp.zero,Id.zero,Typ.zero,zO]) (by simp))) ?_
  intro i hi;by_cases hi2:i<es.length
  ·have hid:i<D.slots.length:=by omega
   have hin:i<ns.length:=by omega
   obtain⟨mm,g1',g2',_,_⟩:=q5 i hi2 hin;have hsty:zRM hs[k] i=D.slots[i].typ:=by rw[zSX (by rw[eslots]; exact hid)]; simp only[eslots]
   have hst:qL (es.take (i+1))=qL (es.take i)++zF es[i]:=zAz hi2;have hsn:yK (ns.take (i+1))=yK (ns.take i)++zWo ns[i]:=by unfold yK; rw[jA9 hin,jCh]; simp
   have hw:=zAk i (by omega);have hdS:List.drop (i*11+4) (yE D.slots)=(zAu D.slots[i]++yE (D.slots.drop (i+1))).drop 4:=by rw[←jAs,jU hid]
   have hbS:i*11+4+5≤D.slots.length*11:=by omega
   simp[mkS,mkB,zO,zB,hid,hdS,hbS,zAu,wd];intro _;refine qK (zDe env ⟨⟨0,0,m1.temp⟩,i,zRM hs[k] i⟩ (by omega)) (by simp[zAS,hsty]) (by simp) ?_;simp[mkS,mkB,wd];refine zA8 g1' [0,1] (by decide) (by simp[mkS,mkB]) (by simp[zB]) ?_;simp[mkS,mkB];refine⟨⟨by simp[maxLen]; omega,by omega⟩,?_⟩;refine zAn g2' [0,1] (by decide) (by simp[mkS,mkB]) (by simp) (by decide) (by simp) (by simp[mkS]) ?_;simp[mkS,mkB];refine⟨⟨by simp[maxLen]; omega,by omega⟩,?_⟩;exact zU (i+1) hi2 (by omega) (zR [0,1,2,3,4,5,6,7] 0 (by decide) (by simp) (by simp[mkS,mkB,zB,zF,Exp.zero,Id.zero,Typ.zero,zO,hst,hsn,zWo]) (by simp[hw]))
  ·have hie:i=es.length:=by omega
   subst hie;have hid:¬es.length<D.slots.length:=by omega
   have hnl:List.take es.length ns=ns:=jAk (by omega);simp[mkS,mkB,zO,hid];intro _;refine⟨qT [(0,.ptr 0 0),(10,.ptr 3 0),(13,.sl (es.length+1) (qL (a::es))),(14,.ptr 4 0)],mkS (ms es.length)++[.box (zB t),.box (zF Exp.zero),.box [int 0,int 0,int m1.temp,int 10,int 0,int D.id.a,int D.id.b,int D.id.c,int 0,int 0,int 0,int 0,.sl 0 [],.sl 0 [],.sl es.length (yK ns)]],zR [0,1,2,3,6] 1 (by decide) (by simp) (by simp[mkS,mkB,zB,zF,Exp.zero,Id.zero,Typ.zero,hnl]) (by simp[zH]),?_⟩;simp[mkS,mkB];exact zG [0,1] 0 (by decide) (by simp) (by simp[q0]) (by simp[zF,Id.zero,Typ.zero,eid,q0,q1])
end Go.Proofs.YthglhccibdlccaaGreatDoor
