/-
  The reference's sets of IDs, and the law's lists of IDs.
-/
import Derived.Test.YthglhccibdlccaaGreatDoorX16
set_option linter.unusedVariables false
set_option linter.unusedSimpArgs false
namespace Go.Proofs.YthglhccibdlccaaGreatDoor
open Go.Abs
def w64 (n:Int):Int:=IntKind.i64.wrap n
def zBU (a b c a' b' c':Int):Bool:=decide (Id.mk a b c=Id.mk a' b' c')
@[simp] theorem zAR {x y:Id}:zBU x.a x.b x.c y.a y.b y.c=decide (x=y):=rfl
def Id.zero:Id:=⟨0,0,0⟩
@[simp] theorem qBN {x:Id}:zBU x.a x.b x.c 0 0 0=decide (x=Id.zero):=rfl
@[simp] theorem Id.zero_a:Id.zero.a=0:=rfl
@[simp] theorem Id.zero_b:Id.zero.b=0:=rfl
@[simp] theorem Id.zero_c:Id.zero.c=0:=rfl
@[simp] theorem qIi:zBU 0 0 0 0 0 0=true:=rfl
@[simp] theorem zWL {a b c a' b' c':Int}:zPh [.i,.i,.i] false (.agg [.lit (.int .i64 a),.lit (.int .i64 b),.lit (.int .i64 c)]) (.agg [.lit (.int .i64 a'),.lit (.int .i64 b'),.lit (.int .i64 c')]) =
 some (.lit (.bool (zBU a b c a' b' c'))):=by simp[zPh,yP,zB7,zAL,zBU]
@[simp] theorem qGI {a b c a' b' c':Int}:zPh [.i,.i,.i] true (.agg [.lit (.int .i64 a),.lit (.int .i64 b),.lit (.int .i64 c)]) (.agg [.lit (.int .i64 a'),.lit (.int .i64 b'),.lit (.int .i64 c')]) =
 some (.lit (.bool (!zBU a b c a' b' c'))):=by simp[zPh,yP,zB7,zAL,zBU]
def K12:K:=G [kMi 4 0] (Z (G [M 5 0,kBi 6 5 0 .lss] (Y 6 (K.ops [M 7 0,kBi 8 7 1 .add,⟨none,.neg (some 9) (kt 8)⟩,M 0 9]) ks)) (G [M 10 0,M 11 1,kB 12 10 11 .rem,M 4 12] kr))
theorem c12:zL Tryz.prog Tryz.f12.ntmps (Tryz.f12.body.getD .skip)=some K12.erase:=by kernel_rfl
@[simp] theorem qOn:zA Tryz.prog 12=true:=by kernel_rfl
def K5:K:=G [kO 2 0,kO 3 1,kMb 4 false] (G [D 5 2 0,L 6 5 1,D 7 3 0,L 8 7 1,kC 9 20 [(kt 6),(kt 8)],M 10 9,T 10 true (D 11 2 1),T 10 true (L 12 11 1),T 10 true (D 13 3 1),T 10 true (L 14 13 1),T 10 true (kC 15 20 [(kt 12),(kt 14)]),kPf 16 10 15,M 4 16] kr)
theorem c5:zL Tryz.prog Tryz.f16.ntmps (Tryz.f16.body.getD .skip)=some K5.erase:=by kernel_rfl
@[simp] theorem qO3:zA Tryz.prog 16=true:=by kernel_rfl
@[simp] theorem qO4:zA Tryz.prog 17=true:=by kernel_rfl
def K30:K:=G [kO 3 1,kMn 4] (G [kMi 5 0] (Z (K.block 0 (K.loop (Z (Z (K.dops [(0,0,M 7 5),(1,0,M 8 0),(2,0,kN 9 8),(3,0,kB 10 7 9 .lss),(4,0,M 11 10),(5,0,T 11 true (M 12 0)),(6,0,T 11 true (M 13 5)),(7,0,T 11 true (kX 14 12 13 3)),(8,0,T 11 true (J 15 14 3)),(9,0,T 11 true (J 16 3 3)),(10,0,T 11 true (kC 17 110 [(kt 15),(kt 16)])),(11,0,kPf 18 11 17)]) (Y 18 ks (K.exit 0))) (K.block 1 (K.ops [M 19 5,kBi 20 19 1 .add,M 5 20]))))) (Z (Z (K.dops [(0,0,M 21 5),(1,0,M 22 0),(2,0,kN 23 22),(3,0,kB 24 21 23 .lss),(4,0,M 25 24),(5,0,T 25 true (M 26 0)),(6,0,T 25 true (M 27 5)),(7,0,T 25 true (kX 28 26 27 3)),(8,0,T 25 true (J 29 28 3)),(9,0,T 25 true (J 30 3 3)),(10,0,⟨some (25,true),.eqs (some 31) false [.i,.i,.i] (kt 29) (kt 30)⟩),(11,0,kPf 32 25 31)]) (Y 32 (G [M 33 0,M 4 33] kr) ks)) (G [kd 34 29 3 0 [] [],M 35 0,M 36 5,⟨none,.slc (some 37) (kt 35) 3 none (some (kt 36)) none⟩,kP 38 29 3 24 34 37,M 6 38] (G [M 39 6,J 40 3 3,kd 41 29 3 1 [ki,ki,ki] [(0,3,(kt 40))],kP 42 29 3 24 39 41,M 6 42] (G [M 43 6,M 44 0,M 45 5,⟨none,.slc (some 46) (kt 44) 3 (some (kt 45)) none none⟩,kP 47 29 3 24 43 46,M 4 47] kr))))))
theorem c30:zL Tryz.prog Tryz.f61.ntmps (Tryz.f61.body.getD .skip)=some K30.erase:=by kernel_rfl
@[simp] theorem qOr:zA Tryz.prog 61=true:=by kernel_rfl
def zAq (n k:Int):Int:=(if n<0 then w64 (0-w64 (n+1)) else n).tmod k
theorem zH0 (n k:Int)(hk:0<k):Ret Tryz.prog 12 [int n,int k] [] (int (zAq n k)) []:=by
 refine zI Tryz.func12 rfl c12 (rs:=[.slot 4]) (by kernel_rfl) ?_;unfold K12;have h0:¬k=0:=by omega
 by_cases h:n<0
 ·simp[h,h0];exact zC 0 (by simp[zAq,h,w64])
 ·simp[h,h0];exact zC 0 (by simp[zAq,h])
theorem zCR {n k:Int}(hn:w64 n=n)(hk:0<k):0≤zAq n k∧zAq n k<k:=by
 unfold zAq;have h:0≤(if n<0 then w64 (0-w64 (n+1)) else n):=by simp only[w64,IntKind.wrap_i64]at hn ⊢;split<;>omega
 exact⟨Int.tmod_nonneg _ h,Int.tmod_lt_of_pos _ hk⟩
def zHK:List Id→Id→List Id
 | [],x=>[x]
 | y::l,x=>if zBC y x=true then y::zHK l x else if y=x then y::l else x::y::l
structure Trc where
 defs:List Id
 nodes:List Id
 deriving DecidableEq
def zYZ (t:Trc):List A:=[.sl t.defs.length (zX t.defs),.sl t.nodes.length (zX t.nodes)]
end Go.Proofs.YthglhccibdlccaaGreatDoor
