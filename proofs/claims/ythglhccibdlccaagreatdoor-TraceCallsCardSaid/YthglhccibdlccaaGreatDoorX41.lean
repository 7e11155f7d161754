/-
  The reference's operations.
-/
import Derived.Test.YthglhccibdlccaaGreatDoorX40
set_option linter.unusedVariables false
set_option linter.unusedSimpArgs false
namespace Go.Proofs.YthglhccibdlccaaGreatDoor
open Go.Abs
def qI5:K:=G [kMi 4 0] (G [M 6 0,M 7 1,kB 8 6 7 .quo,M 5 8] (Z (G [M 9 5,M 10 1,kB 11 9 10 .mul,M 12 0,kQ 13 11 12 true,M 14 13,T 14 true (M 15 0),T 14 true (kBi 16 15 0 .lss),T 14 true (M 17 1),T 14 true (kBi 18 17 0 .lss),⟨some (14,true),.eqv (some 19) true .b (kt 16) (kt 18)⟩,kPf 20 14 19] (Y 20 (K.ops [M 21 5,kBi 22 21 1 .sub,M 5 22]) ks)) (G [M 23 5,M 4 23] kr)))
theorem qO8:zN Tryz.prog Tryz.f179.ntmps (Tryz.f179.body.getD .skip)=some qI5.erase:=by kernel_rfl
@[simp] theorem qNV:zC Tryz.prog 179=true:=by kernel_rfl
theorem zLm {a b:Int}(ha:Rng a)(hb:b≠0):Ret Tryz.prog 179 [int a,int b] [] (int (zDk a b)) []:=by
 obtain⟨a1,a2⟩:=ha;refine zK Tryz.func179 rfl qO8 (rs:=[.slot 4]) (by kernel_rfl) ?_;unfold qI5;have ht:=zMx (b:=b) a1 a2;have w1:IntKind.i64.wrap (a.tdiv b)=a.tdiv b:=IntWalk.i64_in _ (by omega);have w2:IntKind.i64.wrap (a.tdiv b-1)=a.tdiv b-1:=IntWalk.i64_in _ (by omega);have e:zDk a b=if a.tmod b≠0∧¬(a<0↔b<0) then a.tdiv b-1 else a.tdiv b:=by unfold zDk; rw[if_neg hb]
 have hq:=Int.tdiv_mul_add_tmod a b;have habs:(a.tmod b).natAbs≤a.natAbs:=by rw[Int.natAbs_tmod]; exact Nat.mod_le _ _
 have w3:IntKind.i64.wrap (a.tdiv b*b)=a.tdiv b*b:=IntWalk.i64_in _ (by omega);have wa:IntKind.i64.wrap a=a:=IntWalk.i64_in _ (by omega);rw[e];by_cases hm:a.tmod b=0
 ·have e1:a.tdiv b*b=a:=by omega
  simp[hb,w1,wa,e1];exact zA 0 (by simp[hm])
 ·have e1:¬a.tdiv b*b=a:=by omega
  by_cases s1:a<0<;>by_cases s2:b<0<;>simp[hb,w1,w3,e1,s1,s2,w2]<;>exact zA 0 (by simp[hm,s1,s2])
def qGR:K:=G [kMi 4 0] (G [kMi 5 1] (Z (G [M 7 0,kBi 8 7 0 .lss] (Y 8 (G [M 9 0,⟨none,.neg (some 10) (kt 9)⟩,M 0 10] (K.ops [M 11 5,⟨none,.neg (some 12) (kt 11)⟩,M 5 12])) ks)) (Z (G [M 13 1,kBi 14 13 0 .lss] (Y 14 (G [M 15 1,⟨none,.neg (some 16) (kt 15)⟩,M 1 16] (K.ops [M 17 5,⟨none,.neg (some 18) (kt 17)⟩,M 5 18])) ks)) (G [M 19 0,kBi 20 19 1048576 .quo,M 21 1,kB 22 20 21 .mul,M 6 22] (Z (G [M 23 6,kBi 24 23 1099511627776 .gtr] (Y 24 (G [M 25 5,kBi 26 25 1099511627776 .mul,M 4 26] kr) ks)) (G [M 27 5,M 28 6,kBi 29 28 1048576 .mul,M 30 0,kBi 31 30 1048576 .rem,M 32 1,kB 33 31 32 .mul,kB 34 29 33 .add,kC 35 177 [(kt 34)],kB 36 27 35 .mul,M 4 36] kr))))))
theorem qLF:zN Tryz.prog Tryz.f178.ntmps (Tryz.f178.body.getD .skip)=some qGR.erase:=by kernel_rfl
@[simp] theorem qL2:zC Tryz.prog 178=true:=by kernel_rfl
set_option maxHeartbeats 1000000 in
theorem zPg {a b:Int}(ha:Rng a)(hb:Rng b):Ret Tryz.prog 178 [int a,int b] [] (int (zAb (a*b))) []:=by
 obtain⟨a1,a2⟩:=ha;obtain⟨b1,b2⟩:=hb;refine zK Tryz.func178 rfl qLF (rs:=[.slot 4]) (by kernel_rfl) ?_;unfold qGR;obtain⟨m,hm⟩:∃m:Nat,m=a.natAbs:=⟨_,rfl⟩;obtain⟨n,hn⟩:∃n:Nat,n=b.natAbs:=⟨_,rfl⟩;obtain⟨D,hD⟩:∃D:Nat,D=m / 1048576:=⟨_,rfl⟩;obtain⟨M,hM⟩:∃M:Nat,M=m % 1048576:=⟨_,rfl⟩;obtain⟨H,hH⟩:∃H:Nat,H=D*n:=⟨_,rfl⟩;obtain⟨R,hR⟩:∃R:Nat,R=M*n:=⟨_,rfl⟩;have hs:m*n=1048576*H+R:=by
  have:m=1048576*D+M:=by omega
  rw[hH,hR,←Nat.mul_assoc,←Nat.add_mul,←this]
 have hHb:H≤1048576*1099511627776:=by rw[hH]; exact Nat.mul_le_mul (by omega) (by omega)
 have hRb:R≤1048576*1099511627776:=by rw[hR]; exact Nat.mul_le_mul (by omega) (by omega)
 have hd:(m:Int) / 1048576=(D:Int):=by omega
 have hd':Int.tdiv (m:Int) 1048576=(D:Int):=by rw[tdN (by omega)]; omega
 have hr:(m:Int) % 1048576=(M:Int):=by omega
 have hr':Int.tmod (m:Int) 1048576=(M:Int):=by rw[tmN (by omega)]; omega
 have wd:IntKind.i64.wrap (D:Int)=(D:Int):=IntWalk.i64_in _ (by omega);have eH:(D:Int)*(n:Int)=(H:Int):=by rw[hH,Int.natCast_mul]
 have eR:(M:Int)*(n:Int)=(R:Int):=by rw[hR,Int.natCast_mul]
 have es:(m:Int)*(n:Int)=((1048576*H+R:Nat):Int):=by rw[←hs,Int.natCast_mul]
 have wH:IntKind.i64.wrap (H:Int)=H:=IntWalk.i64_in _ (by omega);have wR:IntKind.i64.wrap (R:Int)=R:=IntWalk.i64_in _ (by omega);have wm:IntKind.i64.wrap (m:Int)=m:=IntWalk.i64_in _ (by omega);have wn:IntKind.i64.wrap (n:Int)=n:=IntWalk.i64_in _ (by omega);have w1:IntKind.i64.wrap (-1) = -1:=by decide
 have w1':IntKind.i64.wrap 1=1:=by decide
 have wc:IntKind.i64.wrap 1099511627776=1099511627776:=by decide
 have wc':IntKind.i64.wrap (-1099511627776) = -1099511627776:=by decide
 have z1:¬((m:Int)<0):=by omega
 have z3:¬((n:Int)<0):=by omega
 have hpos:zAb (a*b)=if (a<0↔b<0) then zAb ((1048576*H+R:Nat):Int) else-zAb ((1048576*H+R:Nat):Int):=by
  have hneg:∀x:Int,zAb (-x) = - zAb x:=fun x=>by unfold zAb;split<;>split<;>first | omega | (split<;>omega)
  by_cases s1:a<0<;>by_cases s2:b<0
  ·have:a*b=(m:Int)*n:=by rw[show a = -(m:Int) by omega,show b = -(n:Int) by omega,Int.neg_mul_neg]
   rw[this,es,if_pos (by simp[s1,s2])]
  ·have:a*b = -((m:Int)*n):=by rw[show a = -(m:Int) by omega,show b=(n:Int) by omega,Int.neg_mul]
   rw[this,es,hneg,if_neg (by simp[s1,s2])]
  ·have:a*b = -((m:Int)*n):=by rw[show a=(m:Int) by omega,show b = -(n:Int) by omega,Int.mul_neg]
   rw[this,es,hneg,if_neg (by simp[s1,s2])]
  ·have:a*b=(m:Int)*n:=by rw[show a=(m:Int) by omega,show b=(n:Int) by omega]
   rw[this,es,if_pos (by simp[s1,s2])]
 rw[hpos];have hS:IntKind.i64.wrap ((H:Int)*1048576)=(H:Int)*1048576∨1099511627776<(H:Int):=by
  rcases Nat.lt_or_ge 1099511627776 H with h | h
  ·exact .inr (by omega)
  ·exact .inl (IntWalk.i64_in _ (by omega))
 by_cases hc:1099511627776<(H:Int)
 ·have k1:zAb ((1048576*H+R:Nat):Int)=1099511627776:=by unfold zAb; rw[if_pos (by omega)]
  rw[k1];by_cases s1:a<0<;>by_cases s2:b<0
  ·have ea:a = -(m:Int):=by omega
   have eb:b = -(n:Int):=by omega
   have sa : -(m:Int)<0:=by omega
   have sb : -(n:Int)<0:=by omega
   have sa':0<m:=by omega
   have sb':0<n:=by omega
   subst ea eb;simp[sa,sb,sa',sb',wm,wn,w1,w1',hd,hd',wd,eH,wH,hc,wc];exact zA 0 (by simp[sa',sb'])
  ·have ea:a = -(m:Int):=by omega
   have eb:b=(n:Int):=by omega
   have sa : -(m:Int)<0:=by omega
   have sa':0<m:=by omega
   subst ea eb;simp[sa,sa',z3,wm,wn,w1,w1',hd,hd',wd,eH,wH,hc,wc'];exact zA 0 (by simp[sa',z3])
  ·have ea:a=(m:Int):=by omega
   have eb:b = -(n:Int):=by omega
   have sb : -(n:Int)<0:=by omega
   have sb':0<n:=by omega
   subst ea eb;simp[sb,sb',z1,wm,wn,w1,w1',hd,hd',wd,eH,wH,hc,wc'];exact zA 0 (by simp[sb',z1])
  ·have ea:a=(m:Int):=by omega
   have eb:b=(n:Int):=by omega
   subst ea eb;simp[z1,z3,wm,wn,w1,w1',hd,hd',wd,eH,wH,hc,wc];exact zA 0 (by simp[z1,z3])
 ·have hS:=hS.resolve_right hc;have hT:IntKind.i64.wrap ((H:Int)*1048576+(R:Int))=((1048576*H+R:Nat):Int):=by rw[IntWalk.i64_in _ (by omega)]; omega
  have hcl:=zDM ((1048576*H+R:Nat):Int);have rc:=zJB ((1048576*H+R:Nat):Int);generalize ((1048576*H+R:Nat):Int)=T at *
  have wT:IntKind.i64.wrap (zAb T)=zAb T:=IntWalk.i64_in _ (by omega);have wT':IntKind.i64.wrap (-zAb T) = -zAb T:=IntWalk.i64_in _ (by omega);by_cases s1:a<0<;>by_cases s2:b<0
  ·have ea:a = -(m:Int):=by omega
   have eb:b = -(n:Int):=by omega
   have sa':0<m:=by omega
   have sb':0<n:=by omega
   subst ea eb;simp[sa',sb',wm,wn,w1,w1',hd,hd',wd,eH,wH,hc,hr,hr',eR,wR,hS,hT];refine zR rc (by simp) (by simp) ?_;simp[wT];exact zA 0 (by simp[sa',sb'])
  ·have ea:a = -(m:Int):=by omega
   have eb:b=(n:Int):=by omega
   have sa':0<m:=by omega
   subst ea eb;simp[sa',z3,wm,wn,w1,w1',hd,hd',wd,eH,wH,hc,hr,hr',eR,wR,hS,hT];refine zR rc (by simp) (by simp) ?_;simp[wT'];exact zA 0 (by simp[sa',z3])
  ·have ea:a=(m:Int):=by omega
   have eb:b = -(n:Int):=by omega
   have sb':0<n:=by omega
   subst ea eb;simp[sb',z1,wm,wn,w1,w1',hd,hd',wd,eH,wH,hc,hr,hr',eR,wR,hS,hT];refine zR rc (by simp) (by simp) ?_;simp[wT'];exact zA 0 (by simp[sb',z1])
  ·have ea:a=(m:Int):=by omega
   have eb:b=(n:Int):=by omega
   subst ea eb;simp[z1,z3,wm,wn,w1,w1',hd,hd',wd,eH,wH,hc,hr,hr',eR,wR,hS,hT];refine zR rc (by simp) (by simp) ?_;simp[wT];exact zA 0 (by simp[z1,z3])
def qEU:K:=G [kZ 4 [ki,ki,kl]] (G [M 8 1,kXi 9 8 3 0,J 10 9 3,kZ 5 [ki,ki,kl],S 5 10 3] (Z (G [M 11 0,kQi 12 11 9 false] (Y 12 (G [D 13 5 1,L 14 13 1,kQi 15 14 0 false,kC 16 176 [(kt 15)],S 4 16 3] kr) ks)) (Z (G [M 17 0,kQi 18 17 11 false] (Y 18 (G [D 19 5 2,L 20 19 1,kN 21 20,kb 22 [ki,ki,kl] [(1,1,(kt 21))],S 4 22 3] kr) ks)) (G [M 23 1,kXi 24 23 3 1,J 25 24 3,kZ 6 [ki,ki,kl],S 6 25 3] (Z (G [M 26 0] (K.block 0 (G [kQi 28 26 0 false,M 27 28] (Y 27 (G [D 29 5 1,L 30 29 1,D 31 6 1,L 32 31 1,kB 33 30 32 .add,kC 34 177 [(kt 33)],kb 35 [ki,ki,kl] [(1,1,(kt 34))],S 4 35 3] kr) (G [kQi 37 26 1 false,M 36 37] (Y 36 (G [D 38 5 1,L 39 38 1,D 40 6 1,L 41 40 1,kB 42 39 41 .sub,kC 43 177 [(kt 42)],kb 44 [ki,ki,kl] [(1,1,(kt 43))],S 4 44 3] kr) (G [kQi 46 26 2 false,M 45 46] (Y 45 (G [D 47 5 1,L 48 47 1,D 49 6 1,L 50 49 1,kC 51 178 [(kt 48),(kt 50)],kb 52 [ki,ki,kl] [(1,1,(kt 51))],S 4 52 3] kr) (G [kQi 54 26 3 false,M 53 54] (Y 53 (Z (G [D 55 6 1,L 56 55 1,kQi 57 56 0 false] (Y 57 (G [kb 58 [ki,ki,kl] [],S 4 58 3] kr) ks)) (G [D 59 5 1,L 60 59 1,D 61 6 1,L 62 61 1,kC 63 179 [(kt 60),(kt 62)],kb 64 [ki,ki,kl] [(1,1,(kt 63))],S 4 64 3] kr)) (G [kQi 66 26 4 false,M 65 66] (Y 65 (Z (G [D 67 6 1,L 68 67 1,kQi 69 68 0 false] (Y 69 (G [kb 70 [ki,ki,kl] [],S 4 70 3] kr) ks)) (Z (K.dops [(0,0,D 71 5 1),(1,0,L 72 71 1),(2,0,D 73 6 1),(3,0,L 74 73 1),(4,0,D 75 5 1),(5,0,L 76 75 1),(6,0,D 77 6 1),(7,0,
 L 78 77 1),(8,0,kC 79 179 [(kt 76),(kt 78)]),(9,0,kB 80 74 79 .mul),(10,0,kB 81 72 80 .sub),(11,0,kb 82 [ki,ki,kl] [(1,1,(kt 81))]),(12,0,S 4 82 3)]) kr)) (G [kQi 84 26 5 false,M 83 84] (Y 83 (G [D 85 5 1,L 86 85 1,D 87 6 1,L 88 87 1,kB 89 86 88 .lss,kC 90 176 [(kt 89)],S 4 90 3] kr) (G [kQi 92 26 6 false,M 91 92] (Y 91 (G [J 93 5 3,J 94 6 3,kC 95 15 [(kt 93),(kt 94)],kQi 96 95 0 false,kC 97 176 [(kt 96)],S 4 97 3] kr) (G [kQi 99 26 7 false,M 98 99] (Y 98 (G [D 100 5 1,L 101 100 1,kQi 102 101 1 false,M 103 102,T 103 true (D 104 6 1),T 103 true (L 105 104 1),T 103 true (kQi 106 105 1 false),kPf 107 103 106,kC 108 176 [(kt 107)],S 4 108 3] kr) (G [kQi 110 26 8 false,M 109 110] (Y 109 (G [D 111 5 1,L 112 111 1,kQi 113 112 1 false,M 114 113,T 114 false (D 115 6 1),T 114 false (L 116 115 1),T 114 false (kQi 117 116 1 false),kPt 118 114 117,kC 119 176 [(kt 118)],S 4 119 3] kr) ks)))))))))))))))))))) (G [kMn 7] (G [M 120 7,D 121 5 2,L 122 121 1,kP 123 47 3 40 120 122,M 7 123] (G [M 124 7,D 125 6 2,L 126 125 1,kP 127 47 3 40 124 126,kb 128 [ki,ki,kl] [(0,1,(kc 4)),(2,1,(kt 127))],S 4 128 3] kr))))))))
theorem qLW:zN Tryz.prog Tryz.f161.ntmps (Tryz.f161.body.getD .skip)=some qEU.erase:=by kernel_rfl
@[simp] theorem qLV:zC Tryz.prog 161=true:=by kernel_rfl
set_option maxHeartbeats 2000000 in
theorem zVw {p:Prg}{n:Int}{ts:List Typ}{t:Typ}(h:OpT n ts t){vs:List Val}(hv:TyL p ts vs)(hs:∀v∈vs,qE v≤256):Ret Tryz.prog 161 [int n,.sl vs.length (zZ vs)] [] (.agg (zI (opV n vs))) []:=by
 refine zK Tryz.func161 rfl qLW (rs:=[.cell 4 3 true]) (by kernel_rfl) ?_;unfold qEU;cases h with
 | arith n h1 h2 =>
  obtain⟨a,b,rfl,ha,hb⟩:=hv.two;obtain⟨x,rfl,hx⟩:=ha.int_inv;obtain⟨y,rfl,hy⟩:=hb.int_inv;have e:opV n [.mk 0 x [],.mk 0 y []]=.mk 0 (zFa n x y) []:=by simp only[opV,if_pos h2]; rfl
  rw[e];have hn:n=0∨n=1∨n=2∨n=3∨n=4:=by omega
  rcases hn with rfl | rfl | rfl | rfl | rfl
  ·have hw:IntKind.i64.wrap (x+y)=x+y:=IntWalk.i64_in _ (by omega);simp[zU,zO,zG,hw];refine zR (zJB (x+y)) (by simp) (by simp) ?_;simp;exact zA 0 (by simp[zI,zU,zO,zG,zFa])
  ·have hw:IntKind.i64.wrap (x-y)=x-y:=IntWalk.i64_in _ (by omega);simp[zU,zO,zG,hw];refine zR (zJB (x-y)) (by simp) (by simp) ?_;simp;exact zA 0 (by simp[zI,zU,zO,zG,zFa])
  ·simp[zU,zO,zG];refine zR (zPg hx hy) (by simp) (by simp) ?_;simp;exact zA 0 (by simp[zI,zU,zO,zG,zFa])
  ·by_cases hy0:y=0
   ·simp[zU,zO,zG,hy0];exact zA 0 (by simp[zI,zU,zO,zG,zFa,zDk])
   ·simp[zU,zO,zG,hy0];refine zR (zLm hx hy0) (by simp) (by simp) ?_;simp;exact zA 0 (by simp[zI,zU,zO,zG,zFa])
  ·by_cases hy0:y=0
   ·simp[zU,zO,zG,hy0];exact zA 0 (by simp[zI,zU,zO,zG,zFa,zJj])
   ·have hr:=zG7 (a:=x) hy.1 hy.2;have e:zJj x y=x-y*zDk x y:=by unfold zJj; rw[if_neg hy0]
    have w1:IntKind.i64.wrap (y*zDk x y)=y*zDk x y:=IntWalk.i64_in _ (by omega);have w2:IntKind.i64.wrap (x-y*zDk x y)=x-y*zDk x y:=IntWalk.i64_in _ (by omega);simp[zU,zO,zG,hy0];refine qI (zLm hx hy0) (by simp) (by simp) ?_;simp[w1,w2];exact zA 0 (by simp[zI,zU,zO,zG,zFa,e])
 | less =>
  obtain⟨a,b,rfl,ha,hb⟩:=hv.two;obtain⟨x,rfl,hx⟩:=ha.int_inv;obtain⟨y,rfl,hy⟩:=hb.int_inv;simp[zU,zO,zG];refine zR (zAW (decide (x<y))) (by simp) (by simp[zI]) ?_;simp[zI];exact zA 0 (by by_cases hx0:x<y<;>simp[zI,opV,zO,hx0])
 | same u =>
  obtain⟨a,b,rfl,ha,hb⟩:=hv.two;simp;refine zR (zDW a b) (by simp[zI]) (by simp) ?_;simp;refine zR (zAW (decide (zHR a b=0))) (by simp) (by simp[zI]) ?_;simp[zI];exact zA 0 (by simp[zI,opV])
 | andor n h =>
  obtain⟨a,b,rfl,ha,hb⟩:=hv.two;obtain⟨x,rfl,hx⟩:=ha.bool_inv;obtain⟨y,rfl,hy⟩:=hb.bool_inv;rcases h with rfl | rfl
  ·rcases hx with rfl | rfl<;>rcases hy with rfl | rfl
   ·simp[zU,zO,zG];refine zR (zAW false) (by simp) (by simp[zI]) ?_;simp[zI];exact zA 0 (by simp[zI,opV,zO])
   ·simp[zU,zO,zG];refine zR (zAW false) (by simp) (by simp[zI]) ?_;simp[zI];exact zA 0 (by simp[zI,opV,zO])
   ·simp[zU,zO,zG];refine zR (zAW false) (by simp) (by simp[zI]) ?_;simp[zI];exact zA 0 (by simp[zI,opV,zO])
   ·simp[zU,zO,zG];refine zR (zAW true) (by simp) (by simp[zI]) ?_;simp[zI];exact zA 0 (by simp[zI,opV,zO])
  ·rcases hx with rfl | rfl<;>rcases hy with rfl | rfl
   ·simp[zU,zO,zG];refine zR (zAW false) (by simp) (by simp[zI]) ?_;simp[zI];exact zA 0 (by simp[zI,opV,zO])
   ·simp[zU,zO,zG];refine zR (zAW true) (by simp) (by simp[zI]) ?_;simp[zI];exact zA 0 (by simp[zI,opV,zO])
   ·simp[zU,zO,zG];refine zR (zAW true) (by simp) (by simp[zI]) ?_;simp[zI];exact zA 0 (by simp[zI,opV,zO])
   ·simp[zU,zO,zG];refine zR (zAW true) (by simp) (by simp[zI]) ?_;simp[zI];exact zA 0 (by simp[zI,opV,zO])
 | not =>
  obtain⟨a,rfl,ha⟩:=hv.one;obtain⟨x,rfl,hx⟩:=ha.bool_inv;simp[zU,zO,zG];refine zR (zAW (decide (x=0))) (by simp) (by simp[zI]) ?_;simp[zI];exact zA 0 (by by_cases hx0:x=0<;>simp[zI,opV,zO,hx0])
 | join u =>
  obtain⟨a,b,rfl,ha,hb⟩:=hv.two;have h1:=hs a (by simp);have h2:=hs b (by simp);cases a with | mk k1 n1 l1 =>
  cases b with | mk k2 n2 l2 =>
  simp only[qE]at h1 h2;have z1:=zCa l1;have z2:=zCa l2;simp[zU,zO,zG];exact⟨⟨by simp[maxLen]; omega,by omega⟩,⟨by simp[maxLen]; omega,by omega⟩,zA 1 (by simp[zI,opV,zU,zO,zG])⟩
 | len u =>
  obtain⟨a,rfl,ha⟩:=hv.one;simp;exact fun _=>zA 0 (by simp[zI,opV,zU,zO,zG])
end Go.Proofs.YthglhccibdlccaaGreatDoor
