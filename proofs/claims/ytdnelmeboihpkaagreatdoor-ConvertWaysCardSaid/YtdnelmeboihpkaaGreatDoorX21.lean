/-
  domain.measure: how many values a type has.
  The second generator's programs, walked.
-/
import Derived.Test.YtdnelmeboihpkaaGreatDoorX20
import Derived.Test.YtdnelmeboihpkaaGreatDoorX14
set_option linter.unusedVariables false
set_option maxHeartbeats 8000000
set_option maxRecDepth 100000
set_option linter.unusedSimpArgs false
open Go.Proofs.Tryz (prog)
namespace Go.Proofs.YtdnelmeboihpkaaGreatDoor
open Go.Abs
def zZM:K:=G [kO 5 0,kZ 7 [ki,ki],kMi 8 0] (Z (K.block 0 (G [J 15 2 2,J 16 5 5,kC 17 114 [(kt 15),(kt 16)],kR 18 17,M 14 18] (Y 14 (G [kb 19 [ki,ki] [],S 7 19 2,kMi 8 1] kr) (G [M 21 1,kBi 22 21 24 .gtr,M 20 22] (Y 20 (G [kb 23 [ki,ki] [],S 7 23 2,kMi 8 4] kr) (G [D 25 5 0,L 26 25 1,kQi 27 26 0 false,M 24 27] (Y 24 (G [L 28 3 1,⟨none,.bin (some 29) .mul (kc 2) (kt 28)⟩,kBi 30 29 1 .add,kb 31 [ki,ki] [(0,1,(kt 30)),(1,1,(kc 1))],S 7 31 2,kMi 8 0] kr) (G [D 33 5 0,L 34 33 1,kQi 35 34 1 false,M 32 35] (Y 32 (G [kb 36 [ki,ki] [(0,1,(kc 2)),(1,1,(kc 1))],S 7 36 2,kMi 8 0] kr) ks))))))))) (G [kb 37 [ki,ki] [(0,1,(kc 1)),(1,1,(kc 1))],kZ 9 [ki,ki],S 9 37 2] (Z (G [D 38 5 0,L 39 38 1,kQi 40 39 2 false] (Y 40 (Z (K.dops [(0,1,L 42 4 1),(1,1,D 43 5 4),(2,1,L 44 43 1),(3,1,kXi 45 44 5 0),(4,1,J 46 45 5),(5,0,M 47 1),(6,0,kBi 48 47 1 .add),(7,1,⟨none,.call (some 49) (kt 42) [(kt 46),(kt 48)]⟩),(8,0,M 41 49),(9,0,kE 50 41 0),(10,0,kE 51 41 1),(11,0,kZ 10 [ki,ki]),(12,0,S 10 50 2),(13,0,M 11 51)]) (Z (G [M 52 11,kQi 53 52 0 true] (Y 53 (G [kb 54 [ki,ki] [],M 55 11,S 7 54 2,M 8 55] kr) ks)) (G [kMi 12 1] (G [L 56 3 1,⟨none,.mm (some 57) false [(kt 56),(kc 2)]⟩,kMi 58 0] (K.block 1 (K.loop (G [kB 59 58 57 .lss] (Z (Y 59 ks (K.exit 1)) (Z (K.block 2 (G [M 60 12,D 61 10 0,L 62 61 1,kB 63 60 62 .mul,M 12 63] (G [D 64 9 0,L 65 64 1,M 66 12,kB 67 65 66 .add,D 68 9 0,S 68 67 1] (K.ops [D 69 9 1,L 70 69 1,D 71 10 1,L 72 71 1,kB 73 70 72 .add,D 74 9 1,S 74 73 1])))) (K.ops [kBi 75 58 1 .add,
 M 58 75])))))))))) (G [kMi 13 0] (G [J 77 2 2,J 78 5 5,M 79 1,L 80 4 1,kC 81 117 [(kt 77),(kt 78),(kt 79),(kt 80)],M 76 81,kE 82 76 0,kE 83 76 1,S 9 82 2,M 13 83] (G [M 84 13,kQi 85 84 0 true] (Y 85 (G [kb 86 [ki,ki] [],M 87 13,S 7 86 2,M 8 87] kr) ks)))))) (Z (G [D 88 9 0,L 89 88 1,kBi 90 89 4096 .gtr,M 91 90,T 91 false (D 92 9 1),T 91 false (L 93 92 1),T 91 false (kBi 94 93 256 .gtr),kPt 95 91 94] (Y 95 (G [kb 96 [ki,ki] [],S 7 96 2,kMi 8 4] kr) ks)) (Z (G [D 97 9 0,L 98 97 1,kQi 99 98 0 false] (Y 99 (K.ops [D 100 9 1,⟨none,.st none (kt 100) (kc 0) 1⟩]) ks)) (G [J 101 9 2,S 7 101 2,kMi 8 0] kr))))))
theorem qFZ:zR prog Tryz.f116.ntmps (Tryz.f116.body.getD .skip)=some zZM.erase:=by kernel_rfl
@[simp] theorem qMJ:zA prog 116=true:=by kernel_rfl
def qEX:K:=G [kO 4 0,kO 5 1,kZ 8 [ki,ki],kMi 9 0] (G [J 22 4 2,D 23 5 1,J 24 23 3,kC 25 96 [(kt 22),(kt 24)],M 21 25,kE 26 21 0,kE 27 21 1,kZ 10 kz0,S 10 26 31,M 11 27] (G [D 28 10 3,L 29 28 1,kQi 30 29 0 false,M 12 30] (G [⟨none,.brow (some 31) 123 2 0 [] []⟩,M 13 31] (Z (G [D 32 10 8,L 33 32 1,kN 34 33,kMi 35 0] (K.block 0 (K.loop (G [kB 36 35 34 .lss] (Z (Y 36 ks (K.exit 0)) (Z (K.block 1 (G [kX 37 33 35 11,J 38 37 11,kZ 15 kz5,S 15 38 11] (G [M 40 3,D 41 15 4,J 42 41 5,M 43 2,kBi 44 43 1 .add,⟨none,.call (some 45) (kt 40) [(kt 42),(kt 44)]⟩,M 39 45,kE 46 39 0,kE 47 39 1,kZ 16 [ki,ki],S 16 46 2,M 17 47] (Z (G [M 48 17,kQi 49 48 0 true] (Y 49 (G [kb 50 [ki,ki] [],M 51 17,S 8 50 2,M 9 51] kr) ks)) (K.ops [M 52 13,J 53 16 2,kd 54 123 2 1 [ki,ki] [(0,2,(kt 53))],kP 55 123 2 16 52 54,M 13 55]))))) (K.ops [kBi 56 35 1 .add,M 35 56]))))))) (G [kb 57 [ki,ki] [(0,1,(kc 0)),(1,1,(kc 1))],kZ 18 [ki,ki],S 18 57 2] (Z (G [M 58 12] (Y 58 (K.ops [D 59 18 0,⟨none,.st none (kt 59) (kc 1) 1⟩]) ks)) (Z (G [M 60 13,kN 61 60,kMi 62 0] (K.block 2 (K.loop (G [kB 63 62 61 .lss] (Z (Y 63 ks (K.exit 2)) (Z (K.block 3 (G [kX 64 60 62 2,J 65 64 2,kZ 20 [ki,ki],S 20 65 2] (Z (G [M 66 12] (Y 66 (G [D 67 18 0,L 68 67 1,D 69 20 0,L 70 69 1,kB 71 68 70 .mul,D 72 18 0,S 72 71 1] (K.ops [D 73 18 1,L 74 73 1,D 75 20 1,L 76 75 1,kB 77 74 76 .add,D 78 18 1,S 78 77 1])) (G [D 79 18 0,L 80 79 1,D 81 20 0,L 82 81 1,kB 83 80 82 .add,D 84 18 0,S 84 83 1] (K.ops [D 85 18 1,L 86 85 1,D 87 20 1,
 L 88 87 1,⟨none,.bin (some 89) .add (kc 1) (kt 88)⟩,⟨none,.mm (some 90) true [(kt 86),(kt 89)]⟩,D 91 18 1,S 91 90 1])))) (G [M 92 12,M 93 92,T 93 true (D 94 18 0),T 93 true (L 95 94 1),T 93 true (kBi 96 95 4096 .gtr),kPf 97 93 96] (Y 97 (G [kb 98 [ki,ki] [],S 8 98 2,kMi 9 4] kr) ks))))) (K.ops [kBi 99 62 1 .add,M 62 99]))))))) (G [J 100 18 2,S 8 100 2,kMi 9 0] kr))))))))
theorem qMd:zR prog Tryz.f117.ntmps (Tryz.f117.body.getD .skip)=some qEX.erase:=by kernel_rfl
@[simp] theorem qNm:zA prog 117=true:=by kernel_rfl
def qEU:K:=G [kO 3 0,kO 4 1,kO 5 2,kZ 6 [ki,ki],kMi 7 0] (G [kZ 8 [.nilFunc]] (G [⟨none,.clo (some 9) 116 [] [(kt 3),(kt 5),(kt 8)]⟩,S 8 9 1] (G [L 10 8 1,J 11 4 5,⟨none,.call (some 12) (kt 10) [(kt 11),(kc 1)]⟩,kE 13 12 0,kE 14 12 1,S 6 13 2,M 7 14] kr)))
theorem qMa:zR prog Tryz.f75.ntmps (Tryz.f75.body.getD .skip)=some qEU.erase:=by kernel_rfl
@[simp] theorem qMI:zA prog 75=true:=by kernel_rfl
structure Sz where
 a:Int
 b:Int
 e:Int
def zDT:Int→Int→List Sz→Sz
 | a,b,[]=>⟨a,b,0⟩
 | a,b,k::l=>if a*k.a > 4096 then ⟨0,0,4⟩ else zDT (a*k.a) (b+k.b) l
def zCz:Int→Int→List Sz→Sz
 | a,b,[]=>⟨a,b,0⟩
 | a,b,k::l=>zCz (a+k.a) (max b (1+k.b)) l
def zEF:List Sz→Int
 | []=>0
 | k::l=>if k.e≠0 then k.e else zEF l
def zAq (rec:Bool)(l:List Sz):Sz:=if zEF l≠0 then ⟨0,0,zEF l⟩ else if rec then zDT 1 1 l else zCz 0 1 l
def zBr (m:Int)(k:Sz):Sz:=if k.e≠0 then ⟨0,0,k.e⟩ else if m≤0 then ⟨1,1,0⟩ else if m≤1 then ⟨1+k.a,1+k.b,0⟩ else ⟨1+k.a+k.a*k.a,1+k.b+k.b,0⟩
def zBN (k:Sz):Sz:=if k.e≠0 then ⟨0,0,k.e⟩ else if k.a > 4096∨k.b > 256 then ⟨0,0,4⟩ else ⟨k.a,if k.a=0 then 0 else k.b,0⟩
def jQ (p:Prg)(m:Int):Nat→Typ→Sz
 | 0,t=>if validT p t=false then ⟨0,0,1⟩ else ⟨0,0,4⟩
 | n+1,t=>if validT p t=false then ⟨0,0,1⟩ else if t.k=0 then ⟨2*m+1,1,0⟩ else if t.k=1 then ⟨2,1,0⟩ else
  if t.k=2 then zBN (zBr m (jQ p m n (t.kids.headD Typ.zero))) else zBN (zAq (decide ((dfn p t.id).kind=0)) ((dfn p t.id).slots.map fun s=>jQ p m n s.typ))
def Sz.Ok (k:Sz):Prop:=k.e=0→0≤k.a∧k.a≤4096∧0≤k.b∧k.b≤256
def szR (k:Sz):A:=.tup [.agg [int k.a,int k.b],int k.e]
def zBz (l:List Sz):List A:=l.flatMap fun k=>[int k.a,int k.b]
@[simp] theorem qAA:zBz []=[]:=rfl
@[simp] theorem zYX (k:Sz)(l:List Sz):zBz (k::l)=int k.a::int k.b::zBz l:=rfl
@[simp] theorem zWu (k l:List Sz):zBz (k++l)=zBz k++zBz l:=by simp[zBz]
@[simp] theorem qA9 (l:List Sz):(zBz l).length=l.length*2:=by
 induction l with
 | nil=>rfl
 | cons k l ih=>simp[ih]; omega
theorem zEB:∀l:List Sz,qF (zBz l)
 | []=>qF.nil
 | k::l=>by have h:=zEB l;exact⟨by simp[h.1],fun rf g=>by simp[h.2]⟩
@[simp] theorem zZz (l:List Sz):qV (zBz l)=zBz l:=(zEB l).1
@[simp] theorem qEm {rf g}(l:List Sz):vwL rf g (zBz l)=zBz l:=(zEB l).2 _ _
theorem zF0:∀{l:List Sz} {i:Nat} (h:i<l.length),(zBz l).drop (i*2)=int l[i].a::int l[i].b::zBz (l.drop (i+1))
 | k::l,0,_=>by simp
 | k::l,i+1,h=>by
  have:=zF0 (l:=l) (i:=i) (by simpa using h);rw[show (i+1)*2=i*2+2 by omega]
  simpa using this
def yA:A:=.clo 116 [] [.ptr 0 0,.ptr 1 0,.ptr 2 0]
def mSt (p:Prg)(m:Int):St:=[.box (zM p),.box [int m],.box [yA]]
theorem zC7:∀{l:List Sz},zEF l=0→∀k∈l,k.e=0
 | [],_,k,hk=>by simp at hk
 | x::l,h,k,hk=>by
  simp only[zEF]at h;split at h
  ·contradiction
  ·rename_i hx;rcases jA7.1 hk with rfl | hk
   ·simpa using hx
   ·exact zC7 h k hk
theorem zVW (p:Prg)(m:Int)(id:Id)(k:Int)(kids:List Typ)(d:Int)(hd:0≤d∧d≤24)(D:Dfn)(hD:dfn p id=D)(g:Typ→Sz)(hg:∀s∈D.slots,(g s.typ).Ok∧Ret prog 116 [.agg (zU s.typ),int (d+1),.ptr 0 0,.ptr 1 0,.ptr 2 0] (mSt p m) (szR (g s.typ)) (mSt p m))(hs:D.slots.length≤1000000) :
 Ret prog 117 [.agg (zM p),.agg (zU (.mk k id kids)),int d,yA] (mSt p m) (szR (zAq (decide (D.kind=0)) (D.slots.map fun s=>g s.typ))) (mSt p m):=by
 refine zI Tryz.func117 rfl qMd (rs:=[.cell 8 2 true,.slot 9]) (by kernel_rfl) ?_;unfold qEX;simp -implicitDefEqProofs [zM,zU,mSt,yA];refine qD (zDn p id) (by simp[zM,zC]) (by simp[zBL]) ?_;rw[dfn]at hD;have hwd:=jS (d+1) (by omega);simp -implicitDefEqProofs [zBL,hD,zG];intro hl;refine jM (S:=Nat) (fun i=>[(2,int d),(3,yA),(4,.ptr 3 0),(5,.ptr 4 0),(8,.ptr 5 0),(9,int 0),(10,.ptr 6 0),(12,bl (decide (D.kind=0))),(13,.row 7 i),(33,.sl D.slots.length (yI D.slots)),(34,int D.slots.length),(35,int i)])
  (fun i=>mSt p m++[.box (zM p),.box (zU (.mk k id kids)),.box [int 0,int 0],.box (zG D),.row false 123 2 i (zBz ((D.slots.map fun s=>g s.typ).take i))])
  (fun i=>i≤D.slots.length∧zEF (D.slots.map fun s=>g s.typ)=zEF ((D.slots.map fun s=>g s.typ).drop i)) (fun i=>D.slots.length-i) 0 (by simp)
  (zO [0,1,2,3,4,5,6,7] 0 (by decide) (by simp) (by simp[mSt,zM,zU,zG,yA]) (by simp[yA])) ?_
 rintro i ⟨hi,ho⟩;by_cases h:i<D.slots.length
 ·have hm:(D.slots.map fun s=>g s.typ).drop i=g D.slots[i].typ::(D.slots.map fun s=>g s.typ).drop (i+1):=by rw[jAu (by simpa using h)]; simp
  have htk:(D.slots.map fun s=>g s.typ).take (i+1)=(D.slots.map fun s=>g s.typ).take i++[g D.slots[i].typ]:=by rw[jAa (by simpa using h)]; simp
  obtain⟨hok,hret⟩:=hg D.slots[i] (jA3 h);simp -implicitDefEqProofs [h,yC h,yG,yA,mSt,hwd,zM];refine jJ hret [0,1,2] (by simp) (by simp[mSt,yA,zM]) (by simp[zU]) ?_;simp -implicitDefEqProofs [szR,mSt,yA,zM];refine qR (fun h'=>?_) (fun h'=>?_)<;>simp at h'
  ·simp -implicitDefEqProofs;exact zH [0,1,2] 0 (by decide) (by simp) (by simp[mSt,yA,zM]) (by simp[zAq,ho,hm,zEF,h'])
  ·simp -implicitDefEqProofs;refine⟨⟨by simp[maxLen]; omega,by omega⟩,?_⟩;exact zP (i+1) ⟨h,by rw[ho,hm]; simp[zEF,h']⟩ (by omega) (zO [0,1,2,3,4,5,6,7] 0 (by decide) (by simp) (by simp[mSt,zM,zU,zG,yA,htk]) (by simp[yA,qP h hl]))
 ·have hi:i=D.slots.length:=by omega
  subst hi;have htk:(D.slots.map fun s=>g s.typ).take D.slots.length=D.slots.map fun s=>g s.typ:=jAj (by simp)
  have hoks:∀k∈D.slots.map fun s=>g s.typ,k.Ok:=fun k hk=>by obtain⟨s,hs,rfl⟩:=jAm.1 hk;exact(hg s hs).1
  have hln:(D.slots.map fun s=>g s.typ).length=D.slots.length:=by simp
  generalize (D.slots.map fun s=>g s.typ)=Z at ho htk hoks hln ⊢;have ho':zEF Z=0:=by rw[ho,←hln]; simp[zEF]
  clear ho;have hn6:Z.length≤1000000:=by omega
  rw[←hln]at hl htk;have hzk:∀k∈Z,k.e=0∧0≤k.a∧k.a≤4096∧0≤k.b∧k.b≤256:=fun k hk=>⟨zC7 ho' k hk,hoks k hk (zC7 ho' k hk)⟩
  simp -implicitDefEqProofs [mSt,yA,htk,←hln];refine qR (fun h'=>?_) (fun h'=>?_)<;>simp at h'
  ·simp -implicitDefEqProofs [h',zFm];refine jM (S:=Nat×Int×Int) (fun s=>[(8,.ptr 5 0),(9,int 0),(12,bl true),(18,.ptr 8 0),(60,.row 7 Z.length),(61,int Z.length),(62,int s.1)])
    (fun s=>mSt p m++[.box (zM p),.box (zU (.mk k id kids)),.box [int 0,int 0],.box (zG D),.row false 123 2 Z.length (zBz Z),.box [int s.2.1,int s.2.2]])
    (fun s=>s.1≤Z.length∧zDT 1 1 Z=zDT s.2.1 s.2.2 (Z.drop s.1)∧0≤s.2.1∧s.2.1≤4096∧0≤s.2.2∧s.2.2≤1+256*s.1) (fun s=>Z.length-s.1) (0,1,1) (by simp)
    (zO [0,1,2,3,4,5,6,7,8] 0 (by decide) (by simp) (by simp[mSt,zM,zU,zG,yA]) (by simp[yA,h'])) ?_
   rintro⟨j,a,b⟩ ⟨hj,hr,ha0,ha,hb0,hb⟩;simp only at hj hr ha0 ha hb0 hb;by_cases hjl:j<Z.length
   ·obtain⟨_,g1,g2,g3,g4⟩:=hzk Z[j] (jA3 hjl);have hd:Z.drop j=Z[j]::Z.drop (j+1):=jAu hjl;have hab0:0≤a*Z[j].a:=Int.mul_nonneg ha0 g1;have hab1:a*Z[j].a≤4096*4096:=Int.mul_le_mul ha g2 g1 (by decide);have hw1:=jS (a*Z[j].a) (by omega);have hw2:=jS (b+Z[j].b) (by omega);have hw3:=zA0 j (by omega);have hj2:j*2+2≤Z.length*2:=by omega
    simp -implicitDefEqProofs [hjl,zFF,zF0 hjl,mSt,yA,hw1,hw2,hw3,hj2];refine qR (fun h4=>?_) (fun h4=>?_)<;>simp at h4
    ·simp -implicitDefEqProofs;have e:zDT 1 1 Z=⟨0,0,4⟩:=by rw[hr,hd,zDT,if_pos h4]
     exact zH [0,1,2] 0 (by decide) (by simp) (by simp[mSt,yA,zM]) (by simp[zAq,ho',e,h',szR])
    ·simp -implicitDefEqProofs;exact zP (j+1,a*Z[j].a,b+Z[j].b) ⟨hjl,by rw[hr,hd,zDT,if_neg (by omega)],hab0,h4,by simp only; omega,by simp only; omega⟩ (by simp only; omega) (zO [0,1,2,3,4,5,6,7,8] 0 (by decide) (by simp) (by simp[mSt,zM,zU,zG,yA]) (by simp[yA,hw3]))
   ·have hjl':j=Z.length:=by omega
    subst hjl';simp -implicitDefEqProofs [mSt,yA];exact zH [0,1,2] 0 (by decide) (by simp) (by simp[mSt,yA,zM]) (by simp[zAq,ho',hr,h',zDT,szR])
  ·simp -implicitDefEqProofs [h',zFm];refine jM (S:=Nat×Int×Int) (fun s=>[(8,.ptr 5 0),(9,int 0),(12,bl false),(18,.ptr 8 0),(60,.row 7 Z.length),(61,int Z.length),(62,int s.1)])
    (fun s=>mSt p m++[.box (zM p),.box (zU (.mk k id kids)),.box [int 0,int 0],.box (zG D),.row false 123 2 Z.length (zBz Z),.box [int s.2.1,int s.2.2]])
    (fun s=>s.1≤Z.length∧zCz 0 1 Z=zCz s.2.1 s.2.2 (Z.drop s.1)∧0≤s.2.1∧s.2.1≤4096*s.1∧0≤s.2.2∧s.2.2≤257) (fun s=>Z.length-s.1) (0,0,1) (by simp)
    (zO [0,1,2,3,4,5,6,7,8] 0 (by decide) (by simp) (by simp[mSt,zM,zU,zG,yA]) (by simp[yA,h'])) ?_
   rintro⟨j,a,b⟩ ⟨hj,hr,ha0,ha,hb0,hb⟩;simp only at hj hr ha0 ha hb0 hb;by_cases hjl:j<Z.length
   ·obtain⟨_,g1,g2,g3,g4⟩:=hzk Z[j] (jA3 hjl);have hd:Z.drop j=Z[j]::Z.drop (j+1):=jAu hjl;have hw1:=jS (a+Z[j].a) (by omega);have hw2:=jS (1+Z[j].b) (by omega);have hw3:=zA0 j (by omega);have hj2:j*2+2≤Z.length*2:=by omega
    have hmx:max b (1+Z[j].b)=if b<1+Z[j].b then 1+Z[j].b else b:=by rw[Int.max_def]; split<;>split<;>omega
    simp -implicitDefEqProofs [hjl,zFF,zF0 hjl,mSt,yA,hw1,hw2,hw3,hj2];exact zP (j+1,a+Z[j].a,max b (1+Z[j].b)) ⟨hjl,by rw[hr,hd]; simp[zCz],by simp only; omega,by simp only; omega,by simp only; omega,by simp only; omega⟩ (by simp only; omega) (zO [0,1,2,3,4,5,6,7,8] 0 (by decide) (by simp) (by simp[mSt,zM,zU,zG,yA,hmx]) (by simp[yA,hw3]))
   ·have hjl':j=Z.length:=by omega
    subst hjl';simp -implicitDefEqProofs [mSt,yA];exact zH [0,1,2] 0 (by decide) (by simp) (by simp[mSt,yA,zM]) (by simp[zAq,ho',hr,h',zCz,szR])
def Sml (p:Prg):Prop:=∀d∈p.defs,d.slots.length≤1000000
theorem Sml.dfn {p:Prg}(h:Sml p)(id:Id):(dfn p id).slots.length≤1000000:=by
 unfold Go.Proofs.YtdnelmeboihpkaaGreatDoor.dfn;cases hf:qT p.defs id with
 | none=>simp[Dfn.zero]
 | some d=>exact h d (zAz hf).1
theorem zJt {p:Prg}{n:Nat}{t:Typ}(h:yQ p n t=true)(hk:t.k=2):∃x,t.kids=[x]:=by
 cases n with
 | zero=>simp[yQ]at h
 | succ n =>
  cases t with
  | mk k id kids =>
   simp only[Typ.k_mk]at hk;subst hk;rcases kids with _ | ⟨x,_ | ⟨y,l⟩⟩
   ·simp[yQ]at h
   ·exact⟨x,rfl⟩
   ·simp[yQ]at h
theorem zOq {k:Sz}(h0:k.e=0→0≤k.a∧0≤k.b):(zBN k).Ok:=by
 intro he;unfold zBN at *
 split at he
 ·simp at he; contradiction
 ·rename_i h1;simp at h1;split at he
  ·simp at he
  ·rename_i h2;rw[if_neg (by simp[h1]),if_neg h2];have:=h0 h1;simp only;split<;>omega
theorem zRY:∀{l:List Sz} {a b:Int},(∀k∈l,k.e=0∧k.Ok)→0≤a→0≤b→0≤(zDT a b l).a∧0≤(zDT a b l).b
 | [],a,b,_,ha,hb=>⟨ha,hb⟩
 | k::l,a,b,h,ha,hb=>by
  have hk:=(h k (by simp)).2 (h k (by simp)).1;simp only[zDT];split
  ·simp
  ·exact zRY (fun k hk=>h k (jAh _ hk)) (Int.mul_nonneg ha hk.1) (by omega)
theorem zNW:∀{l:List Sz} {a b:Int},(∀k∈l,k.e=0∧k.Ok)→0≤a→0≤b→0≤(zCz a b l).a∧0≤(zCz a b l).b
 | [],a,b,_,ha,hb=>⟨ha,hb⟩
 | k::l,a,b,h,ha,hb=>by have hk:=(h k (by simp)).2 (h k (by simp)).1;simp only[zCz];exact zNW (fun k hk=>h k (jAh _ hk)) (by omega) (by omega)
theorem zKV {r:Bool}{l:List Sz}(h:∀k∈l,k.Ok)(he:(zAq r l).e=0):0≤(zAq r l).a∧0≤(zAq r l).b:=by
 unfold zAq at *
 split
 ·simp
 ·rename_i h0;have h0:zEF l=0:=by simpa using h0
  have hk:∀k∈l,k.e=0∧k.Ok:=fun k hk=>⟨zC7 h0 k hk,h k hk⟩
  split
  ·exact zRY hk (by decide) (by decide)
  ·exact zNW hk (by decide) (by decide)
theorem zTj {m:Int}{k:Sz}(h:k.Ok)(he:(zBr m k).e=0):0≤(zBr m k).a∧0≤(zBr m k).b:=by
 unfold zBr at *
 split
 ·simp
 ·rename_i h0;have h1:=h (by simpa using h0);have h2:0≤k.a*k.a:=Int.mul_nonneg h1.1 h1.1;split
  ·simp
  ·split<;>simp only<;>omega
theorem zBv (p:Prg)(m:Int)(hm:0≤m∧m≤64):∀(n:Nat) (t:Typ),(jQ p m n t).Ok
 | 0,t=>by unfold jQ;split<;>intro h<;>simp at h
 | n+1,t=>by
  unfold jQ;split
  ·intro h; simp at h
  split
  ·intro _; simp only; omega
  split
  ·intro _; simp
  split
  ·exact zOq (zTj (zBv p m hm n _))
  ·exact zOq (zKV (fun k hk=>by obtain⟨s,_,rfl⟩:=jAm.1 hk;exact zBv p m hm n _))
theorem zDf {M N:Int}(h:M > 4096∨N > 256):zBN ⟨M,N,0⟩=⟨0,0,4⟩:=by simp[zBN,h]
theorem zGY {N:Int}(h:¬N > 256):zBN ⟨0,N,0⟩=⟨0,0,0⟩:=by simp[zBN,h]
theorem zGX {M N:Int}(h:¬(M > 4096∨N > 256))(h0:M≠0):zBN ⟨M,N,0⟩=⟨M,N,0⟩:=by simp[zBN,h,h0]
def tb (a b:Int):Nat→Int×Int×Int
 | 0=>(1,1,1)
 | 1=>(a,1+a,1+b)
 | _=>(a*a,1+a+a*a,1+b+b)
theorem zV4 (p:Prg)(hs:Sml p)(m:Int)(hm:0≤m∧m≤64):∀(n:Nat) (t:Typ) (d:Int),d=25-n→n≤24 →
 Ret prog 116 [.agg (zU t),int d,.ptr 0 0,.ptr 1 0,.ptr 2 0] (mSt p m) (szR (jQ p m n t)) (mSt p m):=by
 intro n;induction n with
 | zero =>
  intro t d hd _;have hd:d=25:=by omega
  subst hd;refine zI Tryz.func116 rfl qFZ (rs:=[.cell 7 2 true,.slot 8]) (by kernel_rfl) ?_;unfold zZM;simp -implicitDefEqProofs [zM,zU,mSt,yA];refine qD (zLa p t) (by simp[zM,zU]) (by simp) ?_;simp -implicitDefEqProofs;cases hv:validT p t with
  | false =>
   simp -implicitDefEqProofs;exact zH [0,1,2] 0 (by decide) (by simp) (by simp) (by simp[jQ,hv,szR])
  | true =>
   simp -implicitDefEqProofs;exact zH [0,1,2] 0 (by decide) (by simp) (by simp) (by simp[jQ,hv,szR])
 | succ n ih =>
  intro t d hd hn;refine zI Tryz.func116 rfl qFZ (rs:=[.cell 7 2 true,.slot 8]) (by kernel_rfl) ?_;unfold zZM;simp -implicitDefEqProofs [zM,zU,mSt,yA];refine qD (zLa p t) (by simp[zM,zU]) (by simp) ?_;have hd24:¬(24<d):=by omega
  have hwd:=jS (d+1) (by omega);simp -implicitDefEqProofs;cases hv:validT p t with
  | false =>
   simp -implicitDefEqProofs;exact zH [0,1,2] 0 (by decide) (by simp) (by simp) (by simp[jQ,hv,szR])
  | true =>
   by_cases h0:t.k=0
   ·have hw1:=jS (2*m) (by omega);have hw2:=jS (2*m+1) (by omega);simp -implicitDefEqProofs [hd24,h0,hw1,hw2];exact zH [0,1,2] 0 (by decide) (by simp) (by simp) (by simp[jQ,hv,szR,h0])
   by_cases h1:t.k=1
   ·simp -implicitDefEqProofs [hd24,h1];exact zH [0,1,2] 0 (by decide) (by simp) (by simp) (by simp[jQ,hv,szR,h1])
   by_cases h2:t.k=2
   ·obtain⟨x,hx⟩:=zJt hv h2;simp -implicitDefEqProofs [hd24,h2,hx,hwd];have hok:=zBv p m hm n x;have hsz:jQ p m (n+1) t=zBN (zBr m (jQ p m n x)):=by simp[jQ,hv,h0,h1,h2,hx]
    rw[hsz];refine zWH (ih x (d+1) (by omega) (by omega)) [0,1,2] (by simp) (by simp[mSt,yA,zM]) (by simp[zU,zD8]) (by simp[szR]) ?_;generalize jQ p m n x=Z at hok ⊢;simp -implicitDefEqProofs [szR];refine qR (fun he=>?_) (fun he=>?_)<;>simp at he
    ·simp -implicitDefEqProofs;exact zH [0,1,2] 0 (by decide) (by simp) (by simp) (by simp[zBr,zBN,szR,he])
    ·obtain⟨a,b,e⟩:=Z;simp only at he;subst he;have hok:=hok rfl;simp only at hok;simp -implicitDefEqProofs;have htail:∀M N:Int,True:=fun _ _=>trivial
     refine jM (S:=Nat) (fun j=>[(3,.ptr 1 0),(7,.ptr 4 0),(8,int 0),(9,.ptr 5 0),(10,.ptr 6 0),(12,int (tb a b j).1),(57,int (if 2<m then 2 else m)),(58,int j)])
      (fun j=>mSt p m++[.box (zU t),.box [int 0,int 0],.box [int (tb a b j).2.1,int (tb a b j).2.2],.box [int a,int b]])
      (fun j=>j=0∨(j=1∧1≤m)∨(j=2∧2≤m)) (fun j=>2-j) 0 (.inl rfl)
      (zO [0,1,2,3,4,5,6] 0 (by decide) (by simp) (by simp[mSt,zM,zU,yA,tb,h2,hx]) (by simp[tb])) ?_
     have haa0:0≤a*a:=Int.mul_nonneg hok.1 hok.1;have haa1:a*a≤4096*4096:=Int.mul_le_mul hok.2.1 hok.2.1 hok.1 (by decide);have hw1:=jS a (by omega);have hw2:=jS (1+a) (by omega);have hw3:=jS (1+b) (by omega);have hw4:=jS (a*a) (by omega);have hw5:=jS (1+a+a*a) (by omega);have hw6:=jS (1+b+b) (by omega);have hsel:∀j:Nat,True:=fun _=>trivial
     rintro j (rfl | ⟨rfl,hm1⟩ | ⟨rfl,hm2⟩)
     ·by_cases hm1:1≤m
      ·have hK:(0:Int)<(if 2<m then 2 else m):=by split<;>omega
       simp -implicitDefEqProofs [hK,mSt,yA,tb,hw1,hw2,hw3];exact zP 1 (.inr (.inl ⟨rfl,hm1⟩)) (by simp) (zO [0,1,2,3,4,5,6] 0 (by decide) (by simp) (by simp[mSt,zM,zU,yA,tb]) (by simp[tb,show IntKind.i64.wrap 1=1 from by decide,show IntKind.i64.wrap 2=2 from by decide]))
      ·have hK:¬((0:Int)<(if 2<m then 2 else m)):=by split<;>omega
       have hfin:zBr m ⟨a,b,0⟩=⟨1,1,0⟩:=by simp[zBr,show m≤0 by omega]
       simp -implicitDefEqProofs [hK,mSt,yA,tb];exact zH [0,1,2] 0 (by decide) (by simp) (by simp[zM]) (by simp[szR,hfin,zBN])
     ·by_cases hm2:2≤m
      ·have hK:(1:Int)<(if 2<m then 2 else m):=by split<;>omega
       simp -implicitDefEqProofs [hK,mSt,yA,tb,hw4,hw5,hw6];exact zP 2 (.inr (.inr ⟨rfl,hm2⟩)) (by simp) (zO [0,1,2,3,4,5,6] 0 (by decide) (by simp) (by simp[mSt,zM,zU,yA,tb]) (by simp[tb,show IntKind.i64.wrap 1=1 from by decide,show IntKind.i64.wrap 2=2 from by decide]))
      ·have hK:¬((1:Int)<(if 2<m then 2 else m)):=by split<;>omega
       have hfin:zBr m ⟨a,b,0⟩=⟨1+a,1+b,0⟩:=by simp[zBr,show ¬m≤0 by omega,show m≤1 by omega]
       by_cases g4:4096<(1+a)
       ·simp -implicitDefEqProofs [hK,mSt,yA,tb,g4];exact zH [0,1,2] 0 (by decide) (by simp) (by simp[zM]) (by simp[szR,hfin,zDf (N:=(1+b)) (.inl g4)])
       by_cases g5:256<(1+b)
       ·simp -implicitDefEqProofs [hK,mSt,yA,tb,g4,g5];exact zH [0,1,2] 0 (by decide) (by simp) (by simp[zM]) (by simp[szR,hfin,zDf (M:=(1+a)) (.inr g5)])
       by_cases g6:(1+a)=0
       ·simp -implicitDefEqProofs [hK,mSt,yA,tb,g4,g5,g6];exact zH [0,1,2] 0 (by decide) (by simp) (by simp[zM]) (by simp[szR,hfin,g6,zGY g5])
       ·simp -implicitDefEqProofs [hK,mSt,yA,tb,g4,g5,g6];exact zH [0,1,2] 0 (by decide) (by simp) (by simp[zM]) (by simp[szR,hfin,zGX (show ¬((1+a) > 4096∨(1+b) > 256) by omega) g6])
     ·have hK:¬((2:Int)<(if 2<m then 2 else m)):=by split<;>omega
      have hfin:zBr m ⟨a,b,0⟩=⟨1+a+a*a,1+b+b,0⟩:=by simp[zBr,show ¬m≤0 by omega,show ¬m≤1 by omega]
      by_cases g4:4096<(1+a+a*a)
      ·simp -implicitDefEqProofs [hK,mSt,yA,tb,g4];exact zH [0,1,2] 0 (by decide) (by simp) (by simp[zM]) (by simp[szR,hfin,zDf (N:=(1+b+b)) (.inl g4)])
      by_cases g5:256<(1+b+b)
      ·simp -implicitDefEqProofs [hK,mSt,yA,tb,g4,g5];exact zH [0,1,2] 0 (by decide) (by simp) (by simp[zM]) (by simp[szR,hfin,zDf (M:=(1+a+a*a)) (.inr g5)])
      by_cases g6:(1+a+a*a)=0
      ·simp -implicitDefEqProofs [hK,mSt,yA,tb,g4,g5,g6];exact zH [0,1,2] 0 (by decide) (by simp) (by simp[zM]) (by simp[szR,hfin,g6,zGY g5])
      ·simp -implicitDefEqProofs [hK,mSt,yA,tb,g4,g5,g6];exact zH [0,1,2] 0 (by decide) (by simp) (by simp[zM]) (by simp[szR,hfin,zGX (show ¬((1+a+a*a) > 4096∨(1+b+b) > 256) by omega) g6])
   ·obtain⟨k,id,kids⟩:=t;simp only[Typ.k_mk]at h0 h1 h2;have hsz:jQ p m (n+1) (.mk k id kids)=zBN (zAq (decide ((dfn p id).kind=0)) ((dfn p id).slots.map fun s=>jQ p m n s.typ)):=by simp[jQ,hv,h0,h1,h2];rfl
    have hok:=zKV (r:=decide ((dfn p id).kind=0)) (l:=(dfn p id).slots.map fun s=>jQ p m n s.typ) (fun k hk=>by obtain⟨s,_,rfl⟩:=jAm.1 hk;exact zBv p m hm n _)
    rw[hsz];simp -implicitDefEqProofs [hd24,h0,h1,h2];refine jJ (zVW p m id k kids d (by omega) (dfn p id) rfl (jQ p m n) (fun s _=>⟨zBv p m hm n _,ih s.typ (d+1) (by omega) (by omega)⟩) (hs.dfn id)) [0,1,2] (by simp) (by simp[mSt,yA,zM]) (by simp[zU,zM,yA]) ?_;generalize zAq (decide ((dfn p id).kind=0)) ((dfn p id).slots.map fun s=>jQ p m n s.typ)=Z at hok ⊢;simp -implicitDefEqProofs [szR,mSt,yA];refine qR (fun he=>?_) (fun he=>?_)<;>simp at he
    ·simp -implicitDefEqProofs;exact zH [0,1,2] 0 (by decide) (by simp) (by simp[zM]) (by simp[zBN,szR,he])
    ·obtain⟨a,b,e⟩:=Z;simp only at he;subst he;have hok:=hok rfl;simp only at hok;have hfin:True:=trivial;by_cases g4:4096<a
     ·simp -implicitDefEqProofs [mSt,yA,g4];exact zH [0,1,2] 0 (by decide) (by simp) (by simp[zM]) (by simp[szR,hfin,zDf (N:=b) (.inl g4)])
     by_cases g5:256<b
     ·simp -implicitDefEqProofs [mSt,yA,g4,g5];exact zH [0,1,2] 0 (by decide) (by simp) (by simp[zM]) (by simp[szR,hfin,zDf (M:=a) (.inr g5)])
     by_cases g6:a=0
     ·simp -implicitDefEqProofs [mSt,yA,g4,g5,g6];exact zH [0,1,2] 0 (by decide) (by simp) (by simp[zM]) (by simp[szR,hfin,g6,zGY g5])
     ·simp -implicitDefEqProofs [mSt,yA,g4,g5,g6];exact zH [0,1,2] 0 (by decide) (by simp) (by simp[zM]) (by simp[szR,hfin,zGX (show ¬(a > 4096∨b > 256) by omega) g6])
def size (p:Prg)(m:Int)(t:Typ):Sz:=jQ p m 24 t
theorem zQG (p:Prg)(hs:Sml p)(m:Int)(hm:0≤m∧m≤64)(t:Typ):Ret prog 75 [.agg (zM p),.agg (zU t),int m] [] (szR (size p m t)) []:=by refine zI Tryz.func75 rfl qMa (rs:=[.cell 6 2 true,.slot 7]) (by kernel_rfl) ?_;unfold qEU;simp -implicitDefEqProofs [zM,zU];refine jJ (zV4 p hs m hm 24 t 1 (by decide) (by decide)) [0,2,4] (by simp) (by simp[mSt,yA,zM]) (by simp[zU]) ?_;simp -implicitDefEqProofs [szR,mSt,yA,zM];exact zB 0 (by simp[szR,size])
section
variable {l:List Int}
def stH (l:List Int)(m:Gm)(Ds:List Dfn)(i:Nat):St :=
 [.box [.nil,.nil],.box (gB l m),.row false 112 6 1 [int (idR 0).a,int (idR 0).b,int (idR 0).c,.lit (.string ⟨#[99,111,114,101]⟩),.nil,.row 5 i],.box [.row 2 1,.row 4 Ds.length],.row false 41 31 Ds.length (qB Ds),.row false 31 3 i (zL ((Ds.map (·.id)).take i))]
theorem zVp {Ds:List Dfn}{i:Nat}(h:i<Ds.length):zL ((Ds.map (·.id)).take (i+1))=zL ((Ds.map (·.id)).take i)++[int Ds[i].id.a,int Ds[i].id.b,int Ds[i].id.c]:=by rw[jAa (by simpa using h),zAi];simp[zL]
theorem zXB (m:Gm)(Ds:List Dfn)(hD:Ds.length≤100):wpK prog 0 zPJ (qGW ⟨[⟨idR 0,⟨#[99,111,114,101]⟩,[],Ds.map (·.id)⟩],Ds⟩) (qU [(2,.ptr 0 0),(4,.ptr 3 0)]) (stG l m Ds):=by
 unfold zPJ;simp -implicitDefEqProofs [stG,gB];refine jM (S:=Nat) (fun i=>[(2,.ptr 0 0),(4,.ptr 3 0),(18,int i)]) (stH l m Ds) (fun i=>i≤Ds.length) (fun i=>Ds.length-i) 0 (by simp)
  ((zP8 (l:=2) (o:=5) rfl rfl 31 3).trans (zO [0,1,2,3,4,5] 0 (by decide) (by simp) (by simp[stH,gB,zCL]) (by simp))) ?_
 intro i hi;by_cases h:i<Ds.length
 ·have hw:=qP h (show Ds.length≤maxLen by simp[maxLen]; omega);have hd:=zA5 h;have hne:Ds≠[]:=fun e=>by rw[e]at h; simp at h
  have hb:i*31+3≤Ds.length*31:=by omega
  simp -implicitDefEqProofs [stH,gB,h,hd,hne,zG,hb];refine⟨⟨by simp[maxLen]; omega,by omega⟩,?_⟩;exact zP (i+1) h (by omega) (zO [0,1,2,3,4,5] 0 (by decide) (by simp) (by simp[stH,gB,zVp h]) (by simp[hw]))
 ·have hie:i=Ds.length:=by omega
  subst hie;have htk:(Ds.map (·.id)).take Ds.length=Ds.map (·.id):=jAj (by simp);simp -implicitDefEqProofs [stH,gB];exact zB 2 (by simp[zM,zOe,zF7,htk])
theorem zVb (many:Nat)(m:Gm):Gst m (zBt l many m).2.2 3:=by
 unfold zBt;split
 ·split
  ·exact((zY _).trans (zY _) (jAf _)).trans (zY _) (by omega)
  ·exact((zY _).trans (zY _) (jAf _)).trans (zY _) (by omega)
 ·exact(zY _).trans (zY _) (by omega)
theorem zO3 (R:List Dfn)(x y:Nat)(s:Id)(m:Gm):zO2 l R x y s m=zB6 l x y (R.getD x .zero) (R.getD y .zero) s m:=rfl
theorem zVf {R:List Dfn}(hR:∀d∈R,d.slots.length≤6)(y:Nat):(R.getD y .zero).slots.length≤6:=by
 by_cases h:y<R.length
 ·rw[zDD h]; exact hR _ (jA3 h)
 ·rw[jBk,jB7 (by omega)]; simp[Dfn.zero]
theorem zLU {R:List Dfn}(hR:∀d∈R,d.slots.length≤6)(m:Gm):∀n:Nat,Gst m (zAb l R n m).2 (404*n)
 | 0=>Gst.refl _ (by omega)
 | n+1=>by have ih:=zLU hR m n;simp only[zAb,zGD,zO3];exact(ih.trans (zVb _ _) (jAf _)).trans (zQq _ _ _ _ _ _ (zVf hR _)) (by omega)
theorem zXA (hl:∀x∈l,w64 x=x)(R:List Dfn)(many:Nat)(hmany:R.length=many)(hm1:0<many)(hm2:many≤4)(m0:Gm)(hok:m0.Ok 4000)(hR:∀d∈R,d.slots.length≤6∧∀u∈d.slots,u.typ=tK u.typ.k∧(u.typ.k=0∨u.typ.k=1))
 (p:Prg)(hp:p=⟨[⟨idR 0,⟨#[99,111,114,101]⟩,[],(R++(zAb l R (gN l m0 8).toNat m0.tick).1).map (·.id)⟩],R++(zAb l R (gN l m0 8).toNat m0.tick).1⟩) :
 wpK prog 0 zPI (qGW p) (qU [(2,.ptr 0 0),(3,.ptr 1 0),(4,.ptr 3 0),(5,int many)]) (stG l m0 R):=by
 obtain⟨v0,v1⟩:=zBb hl m0 (n:=8) (by omega);obtain⟨cv,hcv⟩:∃cv:Nat,gN l m0 8=cv:=⟨(gN l m0 8).toNat,by omega⟩;have hR1:∀d∈R,d.slots.length≤6:=fun d hd=>(hR d hd).1
 rw[hcv]at hp v1;simp only[jCv]at hp;unfold zPI;simp -implicitDefEqProofs [stG,gB];refine jJ (zBq (l:=l) m0 8 (by omega) (hok.mono (by omega))) [1] (by decide) (by simp[gS,gB]) (by simp) ?_;simp -implicitDefEqProofs [gS,gB];rw[hcv];refine jM (S:=Nat) (fun i=>[(2,.ptr 0 0),(3,.ptr 1 0),(4,.ptr 3 0),(5,int many),(10,int cv),(11,int i)]) (fun i=>stG l (zAb l R i m0.tick).2 (R++(zAb l R i m0.tick).1)) (fun i=>i≤cv) (fun i=>cv-i) 0 (by simp)
  (zO [0,1,2,3,4] 0 (by decide) (by simp) (by simp[stG,gB,zCL,zAb]) (by simp)) ?_
 intro i hi;have hst:=zLU (l:=l) hR1 m0.tick i;have hcl:=zBY l R m0.tick i;by_cases h:i<cv
 ·have hstep:zAb l R (i+1) m0.tick=((zAb l R i m0.tick).1++[(zGD l R i (zAb l R i m0.tick).2).1],(zGD l R i (zAb l R i m0.tick).2).2):=rfl;generalize hmi:(zAb l R i m0.tick).2=mi at hst hstep;generalize hki:(zAb l R i m0.tick).1=ki at hcl hstep;have hok1:mi.Ok 1000:=hok.adv ((zY m0).trans hst (jAf _)) (by omega);have hwi:=zA0 i (by omega);obtain⟨x0,x1⟩:=zBb hl mi (n:=many) (by omega);obtain⟨y0,y1⟩:=zBb hl mi.tick (n:=many) (by omega);obtain⟨x,hx⟩:∃x:Nat,gN l mi many=x:=⟨(gN l mi many).toNat,by omega⟩;obtain⟨y,hy⟩:∃y:Nat,gN l mi.tick many=y:=⟨(gN l mi.tick many).toNat,by omega⟩;rw[hx]at x0 x1;rw[hy]at y0 y1;have hxl:x<many:=by omega
  have hyl:y<many:=by omega
  have n1:=zBq (l:=l) mi many (by omega) (hok1.mono (by omega));have n2:=zBq (l:=l) mi.tick many (by omega) (hok1.adv (zY mi) (by omega));have fin:∀(x' y':Nat) (m':Gm),x'<many→y'<many→m'.Ok 500→zBt l R.length mi=(x',y',m')→∀Q:Ex→Env→St→Prop,
   (∀env' σ',zA4 0 (qU [(2,.ptr 0 0),(3,.ptr 1 0),(4,.ptr 3 0),(5,int many),(10,int cv),(11,int i)]) (stG l (zAb l R (i+1) m0.tick).2 (R++(zAb l R (i+1) m0.tick).1)) env' σ'→Q .norm env' σ') →
   wpK prog 0 zMC Q (qU [(2,.ptr 0 0),(3,.ptr 1 0),(4,.ptr 3 0),(5,int many),(10,int cv),(11,int i),(12,int x'),(13,int y')]) (stG l m' (R++ki)):=by
   intro x' y' m' hx' hy' hok2 he Q hQ;have hxR:x'<R.length:=by omega
   have hyR:y'<R.length:=by omega
   have ex:(R++ki)[x']'(by simp; omega)=R[x']:=jBq hxR;have ey:(R++ki)[y']'(by simp; omega)=R[y']:=jBq hyR;refine qB6 hl Q m' hok2 (R++ki) x' y' i (by simp; omega) (by simp; omega) (by simp; omega) (by omega) many cv (by rw[ex]; exact(hR _ (jA3 hxR)).1) (by rw[ey]; exact(hR _ (jA3 hyR)).1) (by rw[ey]; exact(hR _ (jA3 hyR)).2) fun E S hw=>hQ E S ?_
   rw[hstep];simp only[zGD,he,zO3,zDD hxR,zDD hyR];rw[ex,ey]at hw;rw[←jAy];exact hw
  have hcR:(R++ki).length=R.length+i:=by simp[hcl]
  simp -implicitDefEqProofs [stG,gB,h];refine jJ n1 [1] (by decide) (by simp[gS,gB]) (by simp) ?_;simp -implicitDefEqProofs [gS,gB,hx];refine jJ n2 [1] (by decide) (by simp[gS,gB]) (by simp) ?_;simp -implicitDefEqProofs [gS,gB,hy];by_cases hxy:x=y
  ·have hxy':(x:Int)=y:=by omega
   have n3:=zBq (l:=l) mi.tick.tick 3 (by omega) (hok1.adv ((zY mi).trans (zY _) (jAf _)) (by omega));simp -implicitDefEqProofs [hxy'];refine jJ n3 [1] (by decide) (by simp[gS,gB]) (by simp) ?_;by_cases h3:0<gN l mi.tick.tick 3
   ·have wx:=zA0 x (by omega);have wy:=zA0 y (by omega);have hmn:¬many=0:=by omega
    have htm:((y:Int)+1).tmod many=(((y+1) % many:Nat):Int):=by rw[jDe (by omega)]; simp
    have he:zBt l R.length mi=(x,(x+1) % many,mi.tick.tick.tick):=by unfold zBt;rw[hmany,hx,hy,if_pos hxy',if_pos h3]; simp
    simp -implicitDefEqProofs [gS,gB,h3,wx,wy,htm,hmn];refine⟨_,_,zO [0,1,2,3,4] 0 (by decide) (by simp) ?_ ?_,fin x ((x+1) % many) mi.tick.tick.tick (by omega) (Nat.mod_lt _ (by omega)) (hok1.adv (((zY mi).trans (zY _) (jAf _)).trans (zY _) (jAf _)) (by omega)) he _ fun E S hw=>?_⟩
    ·simp[stG,gB,zCL]
    ·simp[hxy,hxy']
    ·simp -implicitDefEqProofs;refine⟨_,_,hw,?_⟩;simp -implicitDefEqProofs [stG,gB];exact zP (i+1) h (by omega) (zO [0,1,2,3,4] 0 (by decide) (by simp) (by simp[stG,gB,zCL]) (by simp[hwi]))
   ·have he:zBt l R.length mi=(x,x,mi.tick.tick.tick):=by unfold zBt;rw[hmany,hx,hy,if_pos hxy',if_neg h3]; simp
    simp -implicitDefEqProofs [gS,gB,h3];refine⟨_,_,zO [0,1,2,3,4] 0 (by decide) (by simp) ?_ ?_,fin x x mi.tick.tick.tick (by omega) (by omega) (hok1.adv (((zY mi).trans (zY _) (jAf _)).trans (zY _) (jAf _)) (by omega)) he _ fun E S hw=>?_⟩
    ·simp[stG,gB,zCL]
    ·simp[hxy,hxy']
    ·simp -implicitDefEqProofs;refine⟨_,_,hw,?_⟩;simp -implicitDefEqProofs [stG,gB];exact zP (i+1) h (by omega) (zO [0,1,2,3,4] 0 (by decide) (by simp) (by simp[stG,gB,zCL]) (by simp[hwi]))
  ·have hxy':¬(x:Int)=y:=by omega
   ·have he:zBt l R.length mi=(x,y,mi.tick.tick):=by unfold zBt;rw[hmany,hx,hy,if_neg hxy']; simp
    simp -implicitDefEqProofs [gS,gB,hxy'];refine⟨_,_,zO [0,1,2,3,4] 0 (by decide) (by simp) ?_ ?_,fin x y mi.tick.tick (by omega) (by omega) (hok1.adv ((zY mi).trans (zY _) (jAf _)) (by omega)) he _ fun E S hw=>?_⟩
    ·simp[stG,gB,zCL]
    ·simp
    ·simp -implicitDefEqProofs;refine⟨_,_,hw,?_⟩;simp -implicitDefEqProofs [stG,gB];exact zP (i+1) h (by omega) (zO [0,1,2,3,4] 0 (by decide) (by simp) (by simp[stG,gB,zCL]) (by simp[hwi]))
 ·have hie:i=cv:=by omega
  subst hie;simp -implicitDefEqProofs [stG,gB];have hC:=zXB (l:=l) (zAb l R i m0.tick).2 (R++(zAb l R i m0.tick).1) (by simp; omega);rw[←hp]at hC;refine⟨_,_,zO [0,1,2,3,4] 0 (by decide) (by simp) ?_ ?_,hC⟩
  ·simp[stG,gB,zCL]
  ·simp
theorem zI3 (i:Nat)(m:Gm):∀n:Nat,Gst m (zAg l i n m).2 n
 | 0=>Gst.refl _ (by omega)
 | n+1=>by simp only[zAg];exact(zI3 i m n).trans (zY _) (by omega)
theorem zVc (hl:∀x∈l,w64 x=x)(i:Nat)(m:Gm):Gst m (zFf l i m).2 3:=by
 obtain⟨h0,h1⟩:=zBb hl m (n:=2) (by omega);have hc:zBp l m≤2:=by unfold zBp; omega
 exact((zY m).trans (zI3 i _ _) (jAf _)).mono (by omega)
theorem zO9 (hl:∀x∈l,w64 x=x)(m:Gm):∀n:Nat,Gst m (jU l n m).2 (3*n)
 | 0=>Gst.refl _ (by omega)
 | n+1=>by simp only[jU];exact(zO9 hl m n).trans (zVc hl _ _) (by omega)
theorem zWy {i:Nat}(h:i<4):∃R,List.drop i [A.lit (.string ⟨#[65]⟩),.lit (.string ⟨#[66]⟩),.lit (.string ⟨#[67]⟩),.lit (.string ⟨#[68]⟩)]=.lit (.string (zZS.getD i ⟨#[]⟩))::R:=by
 have:i=0∨i=1∨i=2∨i=3:=by omega
 rcases this with rfl | rfl | rfl | rfl<;>exact⟨_,rfl⟩
theorem qC5 {i:Nat}(h:i<2):∃R,List.drop i [A.lit (.string ⟨#[120]⟩),.lit (.string ⟨#[121]⟩)]=.lit (.string (xyT.getD i ⟨#[]⟩))::R:=by
 have:i=0∨i=1:=by omega
 rcases this with rfl | rfl<;>exact⟨_,rfl⟩
def zDR (i:Nat)(ss:List Slt):Dfn:=⟨idR ((1+i:Nat):Int),0,idR 0,zZS.getD i ⟨#[]⟩,ss,.zero,.zero,0,[]⟩
def gRB (i k:Nat):List A:=(zG (zDR i [])).take 8++[.row 6 k]++(zG (zDR i [])).drop 9
theorem zVl (hl:∀x∈l,w64 x=x):Ret prog 28 [.sl l.length (zAM l)] [] (.agg (zM (yM l))) []:=by
 obtain⟨v0,v1⟩:=zBb hl ⟨0,40⟩ (n:=3) (by omega);have hmN:gN l ⟨0,40⟩ 3+2=jK l:=by have:gN l ⟨0,40⟩ 3=atV l 0 3:=rfl;unfold jK;rw[←this]; omega
 have hm2:jK l≤4:=by omega
 have hm1:2≤jK l:=by omega
 have hw2:IntKind.i64.wrap (2+gN l ⟨0,40⟩ 3)=jK l:=by rw[←hmN,Int.add_comm]; exact IntWalk.i64_in _ (by omega)
 have hgp:yM l=⟨[⟨idR 0,⟨#[99,111,114,101]⟩,[],(jX l).map (·.id)⟩],jX l⟩:=rfl;have hgd:jX l=(jU l (jK l) ⟨1,40⟩).1++(zAb l (jU l (jK l) ⟨1,40⟩).1 (gN l (jU l (jK l) ⟨1,40⟩).2 8).toNat (jU l (jK l) ⟨1,40⟩).2.tick).1:=rfl;have hRf:∀d∈(jU l (jK l) ⟨1,40⟩).1,d.slots.length≤6∧∀u∈d.slots,u.typ=tK u.typ.k∧(u.typ.k=0∨u.typ.k=1):=fun d hd=>⟨(zDr hl d hd).few,fun u hu=>(zDr hl d hd).typ hu⟩
 generalize jK l=many at *
 refine qL Tryz.func28 rfl qFX (rs:=[.cell 2 2 true]) (by kernel_rfl) ?_;unfold zYv;simp -implicitDefEqProofs;refine qD (zFE 0) (by simp) (by simp[zC]) ?_;simp -implicitDefEqProofs [zC];refine jJ (zBq (l:=l) ⟨0,40⟩ 3 (by omega) (by simp[Gm.Ok])) [1] (by decide) (by simp[gS,gB]) (by simp) ?_;simp -implicitDefEqProofs [gS,gB,hw2];refine jM (S:=Nat) (fun i=>[(2,.ptr 0 0),(3,.ptr 1 0),(4,.ptr 3 0),(5,int many),(6,int i)]) (fun i=>stG l (jU l i ⟨1,40⟩).2 (jU l i ⟨1,40⟩).1) (fun i=>i≤many) (fun i=>many-i) 0 (by simp)
  ((zAU (l:=3) (o:=1) rfl rfl 41 31).trans (zO [0,1,2,3,4] 0 (by decide) (by simp) (by simp[stG,gB,zCL,jU,Gm.tick]) (by simp))) ?_
 intro i hi;have hst:=zO9 hl ⟨1,40⟩ i;have hcl:=zBx l ⟨1,40⟩ i;by_cases h:i<many
 ·have hstep:jU l (i+1) ⟨1,40⟩=((jU l i ⟨1,40⟩).1++[(zFf l i (jU l i ⟨1,40⟩).2).1],(zFf l i (jU l i ⟨1,40⟩).2).2):=rfl;generalize hmi:(jU l i ⟨1,40⟩).2=mi at hst hstep;generalize hki:(jU l i ⟨1,40⟩).1=Ri at hcl hstep;have hok0:(⟨1,40⟩:Gm).Ok 6000:=by simp[Gm.Ok]
  have hok1:mi.Ok 5000:=hok0.adv hst (by omega);have hwi:=zA0 i (by omega);have w1:=jS (1+(i:Int)) (by omega);have w2:=jS (2*(i:Int)) (by omega);have w3:=jS (20+2*(i:Int)) (by omega);have i1:=zFE (1+(i:Int));have i0:=zFE 0;have hi4:i<4:=by omega
  have hi4':(i:Int)<4:=by omega
  obtain⟨c0,c1⟩:=zBb hl mi (n:=2) (by omega);have hcnt:1+gN l mi 2=(zBp l mi:Int):=by unfold zBp; omega
  have hcr:=zEG hl mi;have wc:IntKind.i64.wrap (1+gN l mi 2)=zBp l mi:=by rw[←hcnt]; exact IntWalk.i64_in _ (by omega)
  obtain⟨Ra,ha⟩:=zWy hi4;have hrec:(zFf l i mi).1=zDR i (zAg l i (zBp l mi) mi.tick).1:=rfl;have hrec2:(zFf l i mi).2=(zAg l i (zBp l mi) mi.tick).2:=rfl;generalize zBp l mi=cnt at *
  simp -implicitDefEqProofs [stG,gB,h,w1];refine zAJ i1 (by simp) (by simp[zC]) ?_;refine zAJ i0 (by simp) (by simp[zC]) ?_;simp -implicitDefEqProofs [hi4,hi4',ha,zC];refine jJ (zBq (l:=l) mi 2 (by omega) (hok1.mono (by omega))) [1] (by decide) (by simp[gS,gB]) (by simp) ?_;simp -implicitDefEqProofs [gS,gB,wc];refine jM (S:=Nat) (fun k=>[(2,.ptr 0 0),(3,.ptr 1 0),(4,.ptr 3 0),(5,int many),(6,int i),(7,.ptr 5 0),(8,int cnt),(9,int k)]) (fun k=>stG l (zAg l i k mi.tick).2 Ri++[.box (gRB i k),.row false 85 11 k (yI (zAg l i k mi.tick).1)]) (fun k=>k≤cnt) (fun k=>cnt-k) 0 (by simp)
   ((zAU (l:=5) (o:=8) rfl rfl 85 11).trans (zO [0,1,2,3,4,5,6] 0 (by decide) (by simp) (by simp[stG,gB,zCL,zAg,gRB,zDR,zG,zC,Typ.zero,Exp.zero,Id.zero,Typ.k,Typ.id,Typ.kids]) (by simp))) ?_
  intro k hk;have hst2:=zI3 (l:=l) i mi.tick k;have hsl:=zC9 l i mi.tick k;by_cases hk2:k<cnt
  ·have hsstep:zAg l i (k+1) mi.tick=((zAg l i k mi.tick).1++[zLZ l i k (zAg l i k mi.tick).2],(zAg l i k mi.tick).2.tick):=rfl;generalize hmk:(zAg l i k mi.tick).2=mk at hst2 hsstep;generalize hss:(zAg l i k mi.tick).1=ss at hsl hsstep;have hwk:=zA0 k (by omega);have w4:=jS (20+2*(i:Int)+k) (by omega);have i2:=zFE (20+2*(i:Int)+k);have hk3:k<2:=by omega
   have hk3':(k:Int)<2:=by omega
   obtain⟨Rx,hxy⟩:=qC5 hk3;obtain⟨g0,g1⟩:=zBb hl mk (n:=3) (by omega);have nk:=zBq (l:=l) mk 3 (by omega) (hok1.adv ((zY mi).trans hst2 (jAf _)) (by omega));simp -implicitDefEqProofs [stG,gB,hk2,w2,w3,w4,gRB,zDR,zG];refine qK i2 (by simp) (by simp[zC]) ?_;simp -implicitDefEqProofs [hk3,hk3',hxy];refine zBo nk [1] (by decide) (by simp[gS,gB]) (by simp) (by decide) (by simp) (by simp[gS]) ?_;have hg3:gN l mk 3=0∨gN l mk 3=1∨gN l mk 3=2:=by omega
   rcases hg3 with hg | hg | hg
   ·simp -implicitDefEqProofs [gS,gB,hg,zC];refine⟨⟨by simp[maxLen]; omega,by omega⟩,?_⟩;exact zP (k+1) hk2 (by omega) (zO [0,1,2,3,4,5,6] 0 (by decide) (by simp) (by simp[stG,gB,zCL,hsstep,zBR,zBA,gRB,zDR,zG,yG,zLZ,hg,tK,zAY,zAd,zC,Typ.zero,Exp.zero,Id.zero,Typ.k,Typ.id,Typ.kids]) (by simp[hwk]))
   ·simp -implicitDefEqProofs [gS,gB,hg,zC];refine⟨⟨by simp[maxLen]; omega,by omega⟩,?_⟩;exact zP (k+1) hk2 (by omega) (zO [0,1,2,3,4,5,6] 0 (by decide) (by simp) (by simp[stG,gB,zCL,hsstep,zBR,zBA,gRB,zDR,zG,yG,zLZ,hg,tK,zAY,zAd,zC,Typ.zero,Exp.zero,Id.zero,Typ.k,Typ.id,Typ.kids]) (by simp[hwk]))
   ·simp -implicitDefEqProofs [gS,gB,hg,zC];refine⟨⟨by simp[maxLen]; omega,by omega⟩,?_⟩;exact zP (k+1) hk2 (by omega) (zO [0,1,2,3,4,5,6] 0 (by decide) (by simp) (by simp[stG,gB,zCL,hsstep,zBR,zBA,gRB,zDR,zG,yG,zLZ,hg,tK,zAY,zAd,zC,Typ.zero,Exp.zero,Id.zero,Typ.k,Typ.id,Typ.kids]) (by simp[hwk]))
  ·have hke:k=cnt:=by omega
   subst hke;generalize hmk:(zAg l i k mi.tick).2=mk at hst2 hrec2;generalize hss:(zAg l i k mi.tick).1=ss at hsl hrec;subst hsl;subst hcl;simp -implicitDefEqProofs [stG,gB];refine⟨qU [(2,.ptr 0 0),(3,.ptr 1 0),(4,.ptr 3 0),(5,int many),(6,int Ri.length),(7,.ptr 5 0)],stG l mk Ri++[.box (zG (zDR Ri.length ss))],zO [0,1,2,3,4,5] 1 (by decide) (by simp) (by simp[stG,gB,zCL,gRB,zDR,zG]) (by simp),?_⟩;simp -implicitDefEqProofs [stG,gB,zG];refine⟨⟨by simp[maxLen]; omega,by omega⟩,?_⟩;exact zP (Ri.length+1) h (by omega) (zO [0,1,2,3,4] 0 (by decide) (by simp) (by simp[stG,gB,zCL,hstep,hrec,hrec2,zG5,zFy,zG]) (by simp[hwi]))
 ·have hie:i=many:=by omega
  subst hie;simp -implicitDefEqProofs [stG,gB];have hok0:(⟨1,40⟩:Gm).Ok 6000:=by simp[Gm.Ok]
  have hB:=zXA hl (jU l i ⟨1,40⟩).1 i hcl (by omega) (by omega) (jU l i ⟨1,40⟩).2 (hok0.adv hst (by omega)) hRf (yM l) (by rw[hgp,hgd]);refine⟨_,_,zO [0,1,2,3,4] 0 (by decide) (by simp) ?_ ?_,hB⟩
  ·simp[stG,gB,zCL]
  ·simp
end
end Go.Proofs.YtdnelmeboihpkaaGreatDoor
