/- domain.measure: how many values a type has. -/
import Derived.Test.YtolkhapmieigcaaGreatDoorX19
set_option linter.unusedVariables false
set_option maxHeartbeats 8000000
set_option maxRecDepth 100000
set_option linter.unusedSimpArgs false
namespace Go.Proofs.YtolkhapmieigcaaGreatDoor
open Go.Abs
def zVB:K:=G [kO 5 0,kZ 7 [ki,ki],kMi 8 0] (Z (K.block 0 (G [J 15 2 2,J 16 5 5,kC 17 178 [(kt 15),(kt 16)],kR 18 17,M 14 18] (Y 14 (G [kb 19 [ki,ki] [],S 7 19 2,kMi 8 1] kr) (G [M 21 1,kBi 22 21 24 .gtr,M 20 22] (Y 20 (G [kb 23 [ki,ki] [],S 7 23 2,kMi 8 4] kr) (G [D 25 5 0,L 26 25 1,kQi 27 26 0 false,M 24 27] (Y 24 (G [L 28 3 1,⟨none,.bin (some 29) .mul (kc 2) (kt 28)⟩,kBi 30 29 1 .add,kb 31 [ki,ki] [(0,1,(kt 30)),(1,1,(kc 1))],S 7 31 2,kMi 8 0] kr) (G [D 33 5 0,L 34 33 1,kQi 35 34 1 false,M 32 35] (Y 32 (G [kb 36 [ki,ki] [(0,1,(kc 2)),(1,1,(kc 1))],S 7 36 2,kMi 8 0] kr) ks))))))))) (G [kb 37 [ki,ki] [(0,1,(kc 1)),(1,1,(kc 1))],kZ 9 [ki,ki],S 9 37 2] (Z (G [D 38 5 0,L 39 38 1,kQi 40 39 2 false] (Y 40 (Z (K.dops [(0,1,L 42 4 1),(1,1,D 43 5 4),(2,1,L 44 43 1),(3,1,kXi 45 44 5 0),(4,1,J 46 45 5),(5,0,M 47 1),(6,0,kBi 48 47 1 .add),(7,1,⟨none,.call (some 49) (kt 42) [(kt 46),(kt 48)]⟩),(8,0,M 41 49),(9,0,kE 50 41 0),(10,0,kE 51 41 1),(11,0,kZ 10 [ki,ki]),(12,0,S 10 50 2),(13,0,M 11 51)]) (Z (G [M 52 11,kQi 53 52 0 true] (Y 53 (G [kb 54 [ki,ki] [],M 55 11,S 7 54 2,M 8 55] kr) ks)) (G [kMi 12 1] (G [L 56 3 1,⟨none,.mm (some 57) false [(kt 56),(kc 2)]⟩,kMi 58 0] (K.block 1 (K.loop (G [kB 59 58 57 .lss] (Z (Y 59 ks (K.exit 1)) (Z (K.block 2 (G [M 60 12,D 61 10 0,L 62 61 1,kB 63 60 62 .mul,M 12 63] (G [D 64 9 0,L 65 64 1,M 66 12,kB 67 65 66 .add,D 68 9 0,S 68 67 1] (K.ops [D 69 9 1,L 70 69 1,D 71 10 1,L 72 71 1,kB 73 70 72 .add,D 74 9 1,S 74 73 1])))) (K.ops [kBi 75 58 1 .add,
 M 58 75])))))))))) (G [kMi 13 0] (G [J 77 2 2,J 78 5 5,M 79 1,L 80 4 1,kC 81 179 [(kt 77),(kt 78),(kt 79),(kt 80)],M 76 81,kE 82 76 0,kE 83 76 1,S 9 82 2,M 13 83] (G [M 84 13,kQi 85 84 0 true] (Y 85 (G [kb 86 [ki,ki] [],M 87 13,S 7 86 2,M 8 87] kr) ks)))))) (Z (G [D 88 9 0,L 89 88 1,kBi 90 89 4096 .gtr,M 91 90,T 91 false (D 92 9 1),T 91 false (L 93 92 1),T 91 false (kBi 94 93 256 .gtr),kPt 95 91 94] (Y 95 (G [kb 96 [ki,ki] [],S 7 96 2,kMi 8 4] kr) ks)) (Z (G [D 97 9 0,L 98 97 1,kQi 99 98 0 false] (Y 99 (K.ops [D 100 9 1,⟨none,.st none (kt 100) (kc 0) 1⟩]) ks)) (G [J 101 9 2,S 7 101 2,kMi 8 0] kr))))))
theorem qBO:ky Tryz.f177 zVB:=m_ (by kernel_rfl)
def qAU:K:=G [kO 4 0,kO 5 1,kZ 8 [ki,ki],kMi 9 0] (G [J 22 4 2,D 23 5 1,J 24 23 3,kC 25 70 [(kt 22),(kt 24)],M 21 25,kE 26 21 0,kE 27 21 1,kZ 10 kz0,S 10 26 31,M 11 27] (G [D 28 10 3,L 29 28 1,kQi 30 29 0 false,M 12 30] (G [⟨none,.brow (some 31) 198 2 0 [] []⟩,M 13 31] (Z (G [D 32 10 8,L 33 32 1,kN 34 33,kMi 35 0] (K.block 0 (K.loop (G [kB 36 35 34 .lss] (Z (Y 36 ks (K.exit 0)) (Z (K.block 1 (G [kX 37 33 35 11,J 38 37 11,kZ 15 kz5,S 15 38 11] (G [M 40 3,D 41 15 4,J 42 41 5,M 43 2,kBi 44 43 1 .add,⟨none,.call (some 45) (kt 40) [(kt 42),(kt 44)]⟩,M 39 45,kE 46 39 0,kE 47 39 1,kZ 16 [ki,ki],S 16 46 2,M 17 47] (Z (G [M 48 17,kQi 49 48 0 true] (Y 49 (G [kb 50 [ki,ki] [],M 51 17,S 8 50 2,M 9 51] kr) ks)) (K.ops [M 52 13,J 53 16 2,kd 54 198 2 1 [ki,ki] [(0,2,(kt 53))],kP 55 198 2 16 52 54,M 13 55]))))) (K.ops [kBi 56 35 1 .add,M 35 56]))))))) (G [kb 57 [ki,ki] [(0,1,(kc 0)),(1,1,(kc 1))],kZ 18 [ki,ki],S 18 57 2] (Z (G [M 58 12] (Y 58 (K.ops [D 59 18 0,⟨none,.st none (kt 59) (kc 1) 1⟩]) ks)) (Z (G [M 60 13,kN 61 60,kMi 62 0] (K.block 2 (K.loop (G [kB 63 62 61 .lss] (Z (Y 63 ks (K.exit 2)) (Z (K.block 3 (G [kX 64 60 62 2,J 65 64 2,kZ 20 [ki,ki],S 20 65 2] (Z (G [M 66 12] (Y 66 (G [D 67 18 0,L 68 67 1,D 69 20 0,L 70 69 1,kB 71 68 70 .mul,D 72 18 0,S 72 71 1] (K.ops [D 73 18 1,L 74 73 1,D 75 20 1,L 76 75 1,kB 77 74 76 .add,D 78 18 1,S 78 77 1])) (G [D 79 18 0,L 80 79 1,D 81 20 0,L 82 81 1,kB 83 80 82 .add,D 84 18 0,S 84 83 1] (K.ops [D 85 18 1,L 86 85 1,D 87 20 1,
 L 88 87 1,⟨none,.bin (some 89) .add (kc 1) (kt 88)⟩,⟨none,.mm (some 90) true [(kt 86),(kt 89)]⟩,D 91 18 1,S 91 90 1])))) (G [M 92 12,M 93 92,T 93 true (D 94 18 0),T 93 true (L 95 94 1),T 93 true (kBi 96 95 4096 .gtr),kPf 97 93 96] (Y 97 (G [kb 98 [ki,ki] [],S 8 98 2,kMi 9 4] kr) ks))))) (K.ops [kBi 99 62 1 .add,M 62 99]))))))) (G [J 100 18 2,S 8 100 2,kMi 9 0] kr))))))))
theorem qI5:ky Tryz.f179 qAU:=m_ (by kernel_rfl)
def qAK:K:=G [kO 3 0,kO 4 1,kO 5 2,kZ 6 [ki,ki],kMi 7 0] (G [kZ 8 [.nilFunc]] (G [⟨none,.clo (some 9) 177 [] [(kt 3),(kt 5),(kt 8)]⟩,S 8 9 1] (G [L 10 8 1,J 11 4 5,⟨none,.call (some 12) (kt 10) [(kt 11),(kc 1)]⟩,kE 13 12 0,kE 14 12 1,S 6 13 2,M 7 14] kr)))
theorem qIv:ky Tryz.f136 qAK:=m_ (by kernel_rfl)
structure Sz where
 a:Int
 b:Int
 e:Int
def oM:Int->Int->List Sz->Sz
 |a,b,[]=>⟨a,b,0⟩
 |a,b,k::l=>if a*k.a > 4096 then ⟨0,0,4⟩ else oM (a*k.a) (b+k.b) l
def iC:Int->Int->List Sz->Sz
 |a,b,[]=>⟨a,b,0⟩
 |a,b,k::l=>iC (a+k.a) (max b (1+k.b)) l
def rB:List Sz->Int
 |[]=>0
 |k::l=>if k.e≠0 then k.e else rB l
def aL(rec:Bool)(l:List Sz):Sz:=if rB l≠0 then ⟨0,0,rB l⟩ else if rec then oM 1 1 l else iC 0 1 l
def dO(m:Int)(k:Sz):Sz:=if k.e≠0 then ⟨0,0,k.e⟩ else if m<=0 then ⟨1,1,0⟩ else if m<=1 then ⟨1+k.a,1+k.b,0⟩ else ⟨1+k.a+k.a*k.a,1+k.b+k.b,0⟩
def fF(k:Sz):Sz:=if k.e≠0 then ⟨0,0,k.e⟩ else if k.a > 4096\/k.b > 256 then ⟨0,0,4⟩ else ⟨k.a,if k.a=0 then 0 else k.b,0⟩
def jT(p:Prg)(m:Int):Nat->Typ->Sz
 | 0,t=>if validT p t=false then ⟨0,0,1⟩ else ⟨0,0,4⟩
 |n+1,t=>if validT p t=false then ⟨0,0,1⟩ else if t.k=0 then ⟨2*m+1,1,0⟩ else if t.k=1 then ⟨2,1,0⟩ else
  if t.k=2 then fF (dO m (jT p m n (t.kids.headD Typ.zero)))else fF (aL (decide ((dfn p t.id).kind=0)) ((dfn p t.id).slots.map fun s=>jT p m n s.typ))
def Sz.Ok(k:Sz):Prop:=k.e=0->0<=k.a/\k.a<=4096/\0<=k.b/\k.b<=256
def szR(k:Sz):A:=.tup [.agg [int k.a,int k.b],int k.e]
def eA(l:List Sz):wF:=l.flatMap fun k=>[int k.a,int k.b]
@[simp]theorem zWA:eA []=[]:=rfl
@[simp]theorem zUL(k:Sz)(l:List Sz):eA (k::l)=int k.a::int k.b::eA l:=rfl
@[simp]theorem zSc(k l:List Sz):eA (k++l)=eA k++eA l:=by simp[eA]
@[simp]theorem zW9(l:List Sz):(eA l).length=l.length*2:=by
 induction l with
 |nil=>rfl
 |cons k l ih=>simp[ih];omega
theorem pV:∀l:List Sz,qT (eA l)
 |[]=>qT.nil
 |k::l=>by have h:=pV l;exact⟨by simp[h.1],fun rf g=>by simp[h.2]⟩
@[simp]theorem zVq(l:List Sz):jE (eA l)=eA l:=(pV l).1
@[simp]theorem zZX{rf g}(l:List Sz):vwL rf g (eA l)=eA l:=(pV l).2 _ _
theorem sV:∀{l:List Sz} {i:Nat} (h:i<l.length),(eA l).drop (i*2)=int l[i].a::int l[i].b::eA (l.drop (i+1))
 |k::l,0,_=>by simp
 |k::l,i+1,h=>by
  have:=sV (l:=l) (i:=i) (by simpa using h);rw[show (i+1)*2=i*2+2 by omega]
  simpa using this
def j8:A:=.clo 177 [] [.ptr 0 0,.ptr 1 0,.ptr 2 0]
def mSt(p:Prg)(m:Int):St:=[.box (zI p),.box [int m],.box [j8]]
theorem iL:∀{l:List Sz},rB l=0->∀k∈l,k.e=0
 |[],_,k,hk=>by simp at hk
 |x::l,h,k,hk=>by
  simp only[rB]at h;split at h
  .contradiction
  .rename_i hx;rcases jA3.1 hk with rfl|hk
   .simpa using hx
   .exact iL h k hk
theorem zR9(p:Prg)(m:Int)(id:Id)(k:Int)(kids:wT)(d:Int)(hd:0<=d/\d<=24)(D:Dfn)(hD:dfn p id=D)(g:Typ->Sz)(hg:∀s∈D.slots,(g s.typ).Ok/\my 177 [.agg (zB s.typ),int (d+1),.ptr 0 0,.ptr 1 0,.ptr 2 0] (mSt p m) (szR (g s.typ)) (mSt p m))(hs:D.slots.length<=1000000) :
 my 179 [.agg (zI p),.agg (zB (.mk k id kids)),int d,j8] (mSt p m) (szR (aL (decide (D.kind=0)) (D.slots.map fun s=>g s.typ))) (mSt p m):=by
 refine zG Tryz.func179 rfl qI5 (rs:=[.cell 8 2 true,.slot 9]) (by kernel_rfl) ?_;unfold qAU;simp[zI,zB,mSt,j8];refine mu (s9 p id) (by simp[zI,zX,gN]) ?_;rw[dfn]at hD;have hwd:=z8 (d+1) (by omega);simp[gN,hD,zQ];intro hl;refine qH (S:=Nat) (fun i=>[(2,int d),(3,j8),(4,.ptr 3 0),(5,.ptr 4 0),(8,.ptr 5 0),(9,int 0),(10,.ptr 6 0),(12,bl (decide (D.kind=0))),(13,.row 7 i),(33,.sl D.slots.length (qW D.slots)),(34,int D.slots.length),(35,int i)])
  (fun i=>mSt p m++[.box (zI p),.box (zB (.mk k id kids)),.box [int 0,int 0],.box (zQ D),.row false 198 2 i (eA ((D.slots.map fun s=>g s.typ).take i))])
  (fun i=>i<=D.slots.length/\rB (D.slots.map fun s=>g s.typ)=rB ((D.slots.map fun s=>g s.typ).drop i)) (fun i=>D.slots.length-i) 0 (by simp)
  (mw [0,1,2,3,4,5,6,7] 0 (by rfl) (by simp[mSt,zI,zB,zQ,j8])) ?_
 rintro i ⟨hi,ho⟩;by_cases h:i<D.slots.length
 .have hm:(D.slots.map fun s=>g s.typ).drop i=g D.slots[i].typ::(D.slots.map fun s=>g s.typ).drop (i+1):=by rw[jBb (by simpa using h)];simp
  have htk:(D.slots.map fun s=>g s.typ).take (i+1)=(D.slots.map fun s=>g s.typ).take i++[g D.slots[i].typ]:=by rw[jA8 (by simpa using h)];simp
  obtain⟨hok,hret⟩:=hg D.slots[i] (jA0 h);simp[h,jN h,aD,j8,mSt,hwd,zI];refine mr hret [0,1,2] (by simp[mSt,j8,zI,zB]) ?_;simp[szR,mSt,j8,zI];refine jY (fun h'=>?_) (fun h'=>?_)<;>simp at h'
  .simp;exact mv [0,1,2] 0 (by rfl) (by simp[mSt,j8,zI,aL,ho,hm,rB,h'])
  .simp;refine⟨⟨by simp[maxLen];omega,by omega⟩,?_⟩;exact zN (i+1) ⟨h,by rw[ho,hm];simp[rB,h']⟩ (by omega) (mw [0,1,2,3,4,5,6,7] 0 (by rfl) (by simp[mSt,zI,zB,zQ,j8,htk,zY h hl]))
 .have hi:i=D.slots.length:=by omega
  subst hi;have htk:(D.slots.map fun s=>g s.typ).take D.slots.length=D.slots.map fun s=>g s.typ:=jAh (by simp)
  have hoks:∀k∈D.slots.map fun s=>g s.typ,k.Ok:=fun k hk=>by obtain⟨s,hs,rfl⟩:=jAf.1 hk;exact(hg s hs).1
  have hln:(D.slots.map fun s=>g s.typ).length=D.slots.length:=by simp
  generalize (D.slots.map fun s=>g s.typ)=Z at ho htk hoks hln ⊢;have ho':rB Z=0:=by rw[ho,<-hln];simp[rB]
  clear ho;have hn6:Z.length<=1000000:=by omega
  rw[<-hln]at hl htk;have hzk:∀k∈Z,k.e=0/\0<=k.a/\k.a<=4096/\0<=k.b/\k.b<=256:=fun k hk=>⟨iL ho' k hk,hoks k hk (iL ho' k hk)⟩
  simp[mSt,j8,htk,<-hln];refine jY (fun h'=>?_) (fun h'=>?_)<;>simp at h'
  .simp[h',oY];refine qH (S:=Nat×Int×Int) (fun s=>[(8,.ptr 5 0),(9,int 0),(12,bl true),(18,.ptr 8 0),(60,.row 7 Z.length),(61,int Z.length),(62,int s.1)])
    (fun s=>mSt p m++[.box (zI p),.box (zB (.mk k id kids)),.box [int 0,int 0],.box (zQ D),.row false 198 2 Z.length (eA Z),.box [int s.2.1,int s.2.2]])
    (fun s=>s.1<=Z.length/\oM 1 1 Z=oM s.2.1 s.2.2 (Z.drop s.1)/\0<=s.2.1/\s.2.1<=4096/\0<=s.2.2/\s.2.2<=1+256*s.1) (fun s=>Z.length-s.1) (0,1,1) (by simp)
    (mw [0,1,2,3,4,5,6,7,8] 0 (by rfl) (by simp[mSt,zI,zB,zQ,j8,h'])) ?_
   rintro⟨j,a,b⟩ ⟨hj,hr,ha0,ha,hb0,hb⟩;simp only at hj hr ha0 ha hb0 hb;by_cases hjl:j<Z.length
   .obtain⟨_,g1,g2,g3,g4⟩:=hzk Z[j] (jA0 hjl);have hd:Z.drop j=Z[j]::Z.drop (j+1):=jBb hjl;have hab0:0<=a*Z[j].a:=Int.mul_nonneg ha0 g1;have hab1:a*Z[j].a<=4096*4096:=Int.mul_le_mul ha g2 g1 (by decide);have hw1:=z8 (a*Z[j].a) (by omega);have hw2:=z8 (b+Z[j].b) (by omega);have hw3:=yU j (by omega);have hj2:j*2+2<=Z.length*2:=by omega
    simp[hjl,tN,sV hjl,mSt,j8,hw1,hw2,hw3,hj2];refine jY (fun h4=>?_) (fun h4=>?_)<;>simp at h4
    .simp;have e:oM 1 1 Z=⟨0,0,4⟩:=by rw[hr,hd,oM,if_pos h4]
     exact mv [0,1,2] 0 (by rfl) (by simp[mSt,j8,zI,aL,ho',e,h',szR])
    .simp;exact zN (j+1,a*Z[j].a,b+Z[j].b) ⟨hjl,by rw[hr,hd,oM,if_neg (by omega)],hab0,h4,by simp only;omega,by simp only;omega⟩ (by simp only;omega) (mw [0,1,2,3,4,5,6,7,8] 0 (by rfl) (by simp[mSt,zI,zB,zQ,j8,hw3]))
   .have hjl':j=Z.length:=by omega
    subst hjl';simp[mSt,j8];exact mv [0,1,2] 0 (by rfl) (by simp[mSt,j8,zI,aL,ho',hr,h',oM,szR])
  .simp[h',oY];refine qH (S:=Nat×Int×Int) (fun s=>[(8,.ptr 5 0),(9,int 0),(12,bl false),(18,.ptr 8 0),(60,.row 7 Z.length),(61,int Z.length),(62,int s.1)])
    (fun s=>mSt p m++[.box (zI p),.box (zB (.mk k id kids)),.box [int 0,int 0],.box (zQ D),.row false 198 2 Z.length (eA Z),.box [int s.2.1,int s.2.2]])
    (fun s=>s.1<=Z.length/\iC 0 1 Z=iC s.2.1 s.2.2 (Z.drop s.1)/\0<=s.2.1/\s.2.1<=4096*s.1/\0<=s.2.2/\s.2.2<=257) (fun s=>Z.length-s.1) (0,0,1) (by simp)
    (mw [0,1,2,3,4,5,6,7,8] 0 (by rfl) (by simp[mSt,zI,zB,zQ,j8,h'])) ?_
   rintro⟨j,a,b⟩ ⟨hj,hr,ha0,ha,hb0,hb⟩;simp only at hj hr ha0 ha hb0 hb;by_cases hjl:j<Z.length
   .obtain⟨_,g1,g2,g3,g4⟩:=hzk Z[j] (jA0 hjl);have hd:Z.drop j=Z[j]::Z.drop (j+1):=jBb hjl;have hw1:=z8 (a+Z[j].a) (by omega);have hw2:=z8 (1+Z[j].b) (by omega);have hw3:=yU j (by omega);have hj2:j*2+2<=Z.length*2:=by omega
    have hmx:max b (1+Z[j].b)=if b<1+Z[j].b then 1+Z[j].b else b:=by rw[Int.max_def];split<;>split<;>omega
    simp[hjl,tN,sV hjl,mSt,j8,hw1,hw2,hw3,hj2];exact zN (j+1,a+Z[j].a,max b (1+Z[j].b)) ⟨hjl,by rw[hr,hd];simp[iC],by simp only;omega,by simp only;omega,by simp only;omega,by simp only;omega⟩ (by simp only;omega) (mw [0,1,2,3,4,5,6,7,8] 0 (by rfl) (by simp[mSt,zI,zB,zQ,j8,hmx,hw3]))
   .have hjl':j=Z.length:=by omega
    subst hjl';simp[mSt,j8];exact mv [0,1,2] 0 (by rfl) (by simp[mSt,j8,zI,aL,ho',hr,h',iC,szR])
def Sml(p:Prg):Prop:=∀d∈p.defs,d.slots.length<=1000000
variable{p:Prg}
theorem Sml.dfn(h:Sml p)(id:Id):(dfn p id).slots.length<=1000000:=by
 unfold Go.Proofs.YtolkhapmieigcaaGreatDoor.dfn;cases hf:qM p.defs id with
 |none=>simp[Dfn.zero]
 |some d=>exact h d (y8 hf).1
theorem zDc{n:Nat}{t:Typ}(h:yA p n t=true)(hk:t.k=2):∃x,t.kids=[x]:=by
 cases n with
 |zero=>simp[yA]at h
 |succ n =>
  cases t with
  |mk k id kids =>
   simp only[Typ.k_mk]at hk;subst hk;rcases kids with _|⟨x,_|⟨y,l⟩⟩
   .simp[yA]at h
   .exact⟨x,rfl⟩
   .simp[yA]at h
theorem zIF{k:Sz}(h0:k.e=0->0<=k.a/\0<=k.b):(fF k).Ok:=by
 intro he;unfold fF at *
 split at he
 .simp at he;contradiction
 .rename_i h1;simp at h1;split at he
  .simp at he
  .rename_i h2;rw[if_neg (by simp[h1]),if_neg h2];have:=h0 h1;simp only;split<;>omega
theorem zNc:∀{l:List Sz} {a b:Int},(∀k∈l,k.e=0/\k.Ok)->0<=a->0<=b->0<=(oM a b l).a/\0<=(oM a b l).b
 |[],a,b,_,ha,hb=>⟨ha,hb⟩
 |k::l,a,b,h,ha,hb=>by
  have hk:=(h k (by simp)).2 (h k (by simp)).1;simp only[oM];split
  .simp
  .exact zNc (fun k hk=>h k (jAi _ hk)) (Int.mul_nonneg ha hk.1) (by omega)
theorem zIq:∀{l:List Sz} {a b:Int},(∀k∈l,k.e=0/\k.Ok)->0<=a->0<=b->0<=(iC a b l).a/\0<=(iC a b l).b
 |[],a,b,_,ha,hb=>⟨ha,hb⟩
 |k::l,a,b,h,ha,hb=>by have hk:=(h k (by simp)).2 (h k (by simp)).1;simp only[iC];exact zIq (fun k hk=>h k (jAi _ hk)) (by omega) (by omega)
theorem zET{r:Bool}{l:List Sz}(h:∀k∈l,k.Ok)(he:(aL r l).e=0):0<=(aL r l).a/\0<=(aL r l).b:=by
 unfold aL at *
 split
 .simp
 .rename_i h0;have h0:rB l=0:=by simpa using h0
  have hk:∀k∈l,k.e=0/\k.Ok:=fun k hk=>⟨iL h0 k hk,h k hk⟩
  split
  .exact zNc hk (by decide) (by decide)
  .exact zIq hk (by decide) (by decide)
theorem zO3{m:Int}{k:Sz}(h:k.Ok)(he:(dO m k).e=0):0<=(dO m k).a/\0<=(dO m k).b:=by
 unfold dO at *
 split
 .simp
 .rename_i h0;have h1:=h (by simpa using h0);have h2:0<=k.a*k.a:=Int.mul_nonneg h1.1 h1.1;split
  .simp
  .split<;>simp only<;>omega
theorem c9(p:Prg)(m:Int)(hm:0<=m/\m<=64):∀(n:Nat) (t:Typ),(jT p m n t).Ok
 | 0,t=>by unfold jT;split<;>intro h<;>simp at h
 |n+1,t=>by
  unfold jT;split
  .intro h;simp at h
  split
  .intro _;simp only;omega
  split
  .intro _;simp
  split
  .exact zIF (zO3 (c9 p m hm n _))
  .exact zIF (zET (fun k hk=>by obtain⟨s,_,rfl⟩:=jAf.1 hk;exact c9 p m hm n _))
variable{N:Int}
theorem mM{M:Int}(h:M > 4096\/N > 256):fF ⟨M,N,0⟩=⟨0,0,4⟩:=by simp[fF,h]
theorem xV(h:¬N > 256):fF ⟨0,N,0⟩=⟨0,0,0⟩:=by simp[fF,h]
theorem xU{M:Int}(h:¬(M > 4096\/N > 256))(h0:M≠0):fF ⟨M,N,0⟩=⟨M,N,0⟩:=by simp[fF,h,h0]
def tb(a b:Int):Nat->Int×Int×Int
 | 0=>(1,1,1)
 | 1=>(a,1+a,1+b)
 |_=>(a*a,1+a+a*a,1+b+b)
theorem zRh(p:Prg)(hs:Sml p)(m:Int)(hm:0<=m/\m<=64):∀(n:Nat) (t:Typ) (d:Int),d=25-n->n<=24 ->
 my 177 [.agg (zB t),int d,.ptr 0 0,.ptr 1 0,.ptr 2 0] (mSt p m) (szR (jT p m n t)) (mSt p m):=by
 intro n;induction n with
 |zero =>
  intro t d hd _;have hd:d=25:=by omega
  subst hd;refine zG Tryz.func177 rfl qBO (rs:=[.cell 7 2 true,.slot 8]) (by kernel_rfl) ?_;unfold zVB;simp[zI,zB,mSt,j8];refine mu (zFi p t) (by simp[zI,zB]) ?_;simp;cases hv:validT p t with
  |false =>
   simp;exact mv [0,1,2] 0 (by rfl) (by simp[jT,hv,szR])
  |true =>
   simp;exact mv [0,1,2] 0 (by rfl) (by simp[jT,hv,szR])
 |succ n ih =>
  intro t d hd hn;refine zG Tryz.func177 rfl qBO (rs:=[.cell 7 2 true,.slot 8]) (by kernel_rfl) ?_;unfold zVB;simp[zI,zB,mSt,j8];refine mu (zFi p t) (by simp[zI,zB]) ?_;have hd24:¬(24<d):=by omega
  have hwd:=z8 (d+1) (by omega);simp;cases hv:validT p t with
  |false =>
   simp;exact mv [0,1,2] 0 (by rfl) (by simp[jT,hv,szR])
  |true =>
   by_cases h0:t.k=0
   .have hw1:=z8 (2*m) (by omega);have hw2:=z8 (2*m+1) (by omega);simp[hd24,h0,hw1,hw2];exact mv [0,1,2] 0 (by rfl) (by simp[jT,hv,szR,h0])
   by_cases h1:t.k=1
   .simp[hd24,h1];exact mv [0,1,2] 0 (by rfl) (by simp[jT,hv,szR,h1])
   by_cases h2:t.k=2
   .obtain⟨x,hx⟩:=zDc hv h2;simp[hd24,h2,hx,hwd];have hok:=c9 p m hm n x;have hsz:jT p m (n+1) t=fF (dO m (jT p m n x)):=by simp[jT,hv,h0,h1,h2,hx]
    rw[hsz];refine zHe (ih x (d+1) (by omega) (by omega)) [0,1,2] (by simp) (by simp[mSt,j8,zI]) (by simp[zB,qK]) (by simp[szR]) ?_;generalize jT p m n x=Z at hok ⊢;simp[szR];refine jY (fun he=>?_) (fun he=>?_)<;>simp at he
    .simp;exact mv [0,1,2] 0 (by rfl) (by simp[dO,fF,szR,he])
    .obtain⟨a,b,e⟩:=Z;simp only at he;subst he;have hok:=hok rfl;simp only at hok;simp;have htail:∀M N:Int,True:=fun _ _=>trivial
     refine qH (S:=Nat) (fun j=>[(3,.ptr 1 0),(7,.ptr 4 0),(8,int 0),(9,.ptr 5 0),(10,.ptr 6 0),(12,int (tb a b j).1),(57,int (if 2<m then 2 else m)),(58,int j)])
      (fun j=>mSt p m++[.box (zB t),.box [int 0,int 0],.box [int (tb a b j).2.1,int (tb a b j).2.2],.box [int a,int b]])
      (fun j=>j=0\/(j=1/\1<=m)\/(j=2/\2<=m)) (fun j=>2-j) 0 (.inl rfl)
      (mw [0,1,2,3,4,5,6] 0 (by rfl) (by simp[mSt,zI,zB,j8,tb,h2,hx])) ?_
     have haa0:0<=a*a:=Int.mul_nonneg hok.1 hok.1;have haa1:a*a<=4096*4096:=Int.mul_le_mul hok.2.1 hok.2.1 hok.1 (by decide);have hw1:=z8 a (by omega);have hw2:=z8 (1+a) (by omega);have hw3:=z8 (1+b) (by omega);have hw4:=z8 (a*a) (by omega);have hw5:=z8 (1+a+a*a) (by omega);have hw6:=z8 (1+b+b) (by omega);have hsel:∀j:Nat,True:=fun _=>trivial
     rintro j (rfl|⟨rfl,hm1⟩|⟨rfl,hm2⟩)
     .by_cases hm1:1<=m
      .have hK:(0:Int)<(if 2<m then 2 else m):=by split<;>omega
       simp[hK,mSt,j8,tb,hw1,hw2,hw3];exact zN 1 (.inr (.inl ⟨rfl,hm1⟩)) (by simp) (mw [0,1,2,3,4,5,6] 0 (by rfl) (by simp[mSt,zI,zB,j8,tb,show IntKind.i64.wrap 1=1 from by decide,show IntKind.i64.wrap 2=2 from by decide]))
      .have hK:¬((0:Int)<(if 2<m then 2 else m)):=by split<;>omega
       have hfin:dO m ⟨a,b,0⟩=⟨1,1,0⟩:=by simp[dO,show m<=0 by omega]
       simp[hK,mSt,j8,tb];exact mv [0,1,2] 0 (by rfl) (by simp[zI,szR,hfin,fF])
     .by_cases hm2:2<=m
      .have hK:(1:Int)<(if 2<m then 2 else m):=by split<;>omega
       simp[hK,mSt,j8,tb,hw4,hw5,hw6];exact zN 2 (.inr (.inr ⟨rfl,hm2⟩)) (by simp) (mw [0,1,2,3,4,5,6] 0 (by rfl) (by simp[mSt,zI,zB,j8,tb,show IntKind.i64.wrap 1=1 from by decide,show IntKind.i64.wrap 2=2 from by decide]))
      .have hK:¬((1:Int)<(if 2<m then 2 else m)):=by split<;>omega
       have hfin:dO m ⟨a,b,0⟩=⟨1+a,1+b,0⟩:=by simp[dO,show ¬m<=0 by omega,show m<=1 by omega]
       by_cases g4:4096<(1+a)
       .simp[hK,mSt,j8,tb,g4];exact ke [0,1,2] 0 (by rfl) (by simp[zI]) (by simp[szR,hfin,mM (N:=(1+b)) (.inl g4)])
       by_cases g5:256<(1+b)
       .simp[hK,mSt,j8,tb,g4,g5];exact ke [0,1,2] 0 (by rfl) (by simp[zI]) (by simp[szR,hfin,mM (M:=(1+a)) (.inr g5)])
       by_cases g6:(1+a)=0
       .simp[hK,mSt,j8,tb,g4,g5,g6];exact mv [0,1,2] 0 (by rfl) (by simp[zI,szR,hfin,g6,xV g5])
       .simp[hK,mSt,j8,tb,g4,g5,g6];exact ke [0,1,2] 0 (by rfl) (by simp[zI]) (by simp[szR,hfin,xU (show ¬((1+a) > 4096\/(1+b) > 256) by omega) g6])
     .have hK:¬((2:Int)<(if 2<m then 2 else m)):=by split<;>omega
      have hfin:dO m ⟨a,b,0⟩=⟨1+a+a*a,1+b+b,0⟩:=by simp[dO,show ¬m<=0 by omega,show ¬m<=1 by omega]
      by_cases g4:4096<(1+a+a*a)
      .simp[hK,mSt,j8,tb,g4];exact ke [0,1,2] 0 (by rfl) (by simp[zI]) (by simp[szR,hfin,mM (N:=(1+b+b)) (.inl g4)])
      by_cases g5:256<(1+b+b)
      .simp[hK,mSt,j8,tb,g4,g5];exact ke [0,1,2] 0 (by rfl) (by simp[zI]) (by simp[szR,hfin,mM (M:=(1+a+a*a)) (.inr g5)])
      by_cases g6:(1+a+a*a)=0
      .simp[hK,mSt,j8,tb,g4,g5,g6];exact mv [0,1,2] 0 (by rfl) (by simp[zI,szR,hfin,g6,xV g5])
      .simp[hK,mSt,j8,tb,g4,g5,g6];exact ke [0,1,2] 0 (by rfl) (by simp[zI]) (by simp[szR,hfin,xU (show ¬((1+a+a*a) > 4096\/(1+b+b) > 256) by omega) g6])
   .obtain⟨k,id,kids⟩:=t;simp only[Typ.k_mk]at h0 h1 h2;have hsz:jT p m (n+1) (.mk k id kids)=fF (aL (decide ((dfn p id).kind=0)) ((dfn p id).slots.map fun s=>jT p m n s.typ)):=by simp[jT,hv,h0,h1,h2];rfl
    have hok:=zET (r:=decide ((dfn p id).kind=0)) (l:=(dfn p id).slots.map fun s=>jT p m n s.typ) (fun k hk=>by obtain⟨s,_,rfl⟩:=jAf.1 hk;exact c9 p m hm n _)
    rw[hsz];simp[hd24,h0,h1,h2];refine mr (zR9 p m id k kids d (by omega) (dfn p id) rfl (jT p m n) (fun s _=>⟨c9 p m hm n _,ih s.typ (d+1) (by omega) (by omega)⟩) (hs.dfn id)) [0,1,2] (by simp[mSt,j8,zI,zB]) ?_;generalize aL (decide ((dfn p id).kind=0)) ((dfn p id).slots.map fun s=>jT p m n s.typ)=Z at hok ⊢;simp[szR,mSt,j8];refine jY (fun he=>?_) (fun he=>?_)<;>simp at he
    .simp;exact mv [0,1,2] 0 (by rfl) (by simp[zI,fF,szR,he])
    .obtain⟨a,b,e⟩:=Z;simp only at he;subst he;have hok:=hok rfl;simp only at hok;have hfin:True:=trivial;by_cases g4:4096<a
     .simp[mSt,j8,g4];exact mv [0,1,2] 0 (by rfl) (by simp[zI,szR,hfin,mM (N:=b) (.inl g4)])
     by_cases g5:256<b
     .simp[mSt,j8,g4,g5];exact mv [0,1,2] 0 (by rfl) (by simp[zI,szR,hfin,mM (M:=a) (.inr g5)])
     by_cases g6:a=0
     .simp[mSt,j8,g4,g5,g6];exact mv [0,1,2] 0 (by rfl) (by simp[zI,szR,hfin,g6,xV g5])
     .simp[mSt,j8,g4,g5,g6];exact ke [0,1,2] 0 (by rfl) (by simp[zI]) (by simp[szR,hfin,xU (show ¬(a > 4096\/b > 256) by omega) g6])
def size(p:Prg)(m:Int)(t:Typ):Sz:=jT p m 24 t
theorem zL1(p:Prg)(hs:Sml p)(m:Int)(hm:0<=m/\m<=64)(t:Typ):my 136 [.agg (zI p),.agg (zB t),int m] [] (szR (size p m t)) []:=by refine zG Tryz.func136 rfl qIv (rs:=[.cell 6 2 true,.slot 7]) (by kernel_rfl) ?_;unfold qAK;simp[zI,zB];refine mr (zRh p hs m hm 24 t 1 (by decide) (by decide)) [0,2,4] (by simp[mSt,j8,zI,zB]) ?_;simp[szR,mSt,j8,zI];exact zC 0 (by simp[szR,size])
theorem zRW(h:FineP p)(t:Id):FineP (woP p t) :=
 ⟨jB1 (jBg _ _) h.defs,h.mods,fun d hd=>h.slots d (List.mem_filter.1 hd).1,fun d hd=>h.nice d (List.mem_filter.1 hd).1,fun d hd=>h.size d (List.mem_filter.1 hd).1⟩
theorem rV(h:FineP p):FineP (aY p):=by
 refine⟨by simpa[aY]using h.defs,h.mods,fun d hd=>?_,fun d hd=>?_,fun d hd=>?_⟩<;>obtain⟨a,ha,rfl⟩:=jAf.1 hd
 .simpa[iP]using h.slots a ha
 .exact h.nice a ha
 .exact h.size a ha
theorem vC{hs:wQ}(h:Fit p hs):Fit (aY p) ((aY p).defs.map Dfn.hd):=Fit.sameG (m7 p) h
theorem zCk(p:Prg):l9 p.defs (aY p).defs=[]/\l9 (aY p).defs p.defs=[]:=zKN (m7 p)
section
variable{p:Prg}{ev:Evl}
end
def TwQ(e e':Exp):Prop:=Ids e e'/\∀(q:Prg) (env:wJ) (u:Typ),WE q env e u->WE q env e' u
theorem zRM(e:Exp):TwQ e e:=⟨.rfl' e,fun _ _ _ h=>h⟩
theorem zRN(e e':Exp)(a x:Int)(hx:0<=x)(h:TwQ e e'):TwQ e (yT e' a x).1:=⟨h.1.trans (zGk e' a x),fun q env u hw=>qEO hx (h.2 q env u hw) a⟩
abbrev TwP(p q:Prg):Prop:=Al (TwD TwQ) p.defs q.defs
theorem zTL(p:Prg)(l:wC)(hl:∀x∈l,w64 x=x)(i:Nat):TwP p ⟨p.mods,bU l p.defs i⟩:=zKo zRM zRN l hl p.defs i
section
variable{p q:Prg}(hA:TwP p q)
include hA
theorem TwP.find(r:Id):(qM p.defs r=none/\qM q.defs r=none)\/∃d d',qM p.defs r=some d/\qM q.defs r=some d'/\TwD TwQ d d' :=
 Al.find (idf:=Dfn.id) (fun _ _ h=>by rw[h.eq];rfl) hA r
theorem TwP.to0:zCu p q:=Al.imp (fun _ _ h=>h.s0) hA
theorem TwP.key(r:Id)(d:Dfn)(hd:qM p.defs r=some d):∃d',qM q.defs r=some d'/\d'=d.wb d'.body:=by
 rcases TwP.find hA r with ⟨h1,_⟩|⟨a,b,h1,h2,h⟩
 .rw[h1]at hd;cases hd
 .rw[h1]at hd;cases hd;exact⟨b,h2,h.eq⟩
theorem TwP.fit{hs:wQ}(hf:Fit p hs):Fit q hs:=by
 refine⟨?_,by rw[hA.len];exact hf.len8,?_,fun d' hd'=>?_,fun d' hd'=>?_,fun r d' hd' hb=>?_⟩
 .rw[<-hf.heads];exact Al.map (f:=Dfn.hd) (g:=Dfn.hd) (fun a b h=>by rw[h.eq];rfl) hA
 .refine Al.pair (S:=fun a b:Dfn=>a.id≠b.id) (fun a b a' b' h h' hne=>?_) hA hf.nd;rw[h.eq,h'.eq];exact hne
 .obtain⟨d,hd,h⟩:=hA.mem hd';have:=hf.slots d hd;rw[h.eq];exact this
 .obtain⟨d,hd,h⟩:=hA.mem hd';have:=hf.kinds d hd;rw[h.eq];exact this
 .rcases TwP.find hA r with ⟨_,h2⟩|⟨d,d'',h1,h2,h⟩
  .rw[h2]at hd';cases hd'
  .rw[h2]at hd';cases hd';have he:cC d'=cC d:=by rw[h.eq];rfl
   have hr:d'.res=d.res:=by rw[h.eq];rfl
   have hk:d'.kind=d.kind:=by rw[h.eq];rfl
   have hb':eU d=true:=by unfold eU at hb ⊢;rw[<-hk];exact hb
   rw[he,hr];exact h.q.2 q _ _ (qEW (TwP.key hA) (hf.bods r d h1 hb'))
theorem TwP.nodes:((jZ q.defs).map Exp.id).Perm ((jZ p.defs).map Exp.id):=by
 have key:∀{l m:wS},Al (TwD TwQ) l m->((jZ m).map Exp.id).Perm ((jZ l).map Exp.id):=fun {l m} h=>by
  induction h with
  |nil=>exact .refl _
  | @cons a b l m h _ ih =>
   have e:∀(x:Dfn) (L:wS),jZ (x::L)=(if eV x.kind then aB x.body else [])++jZ L:=fun _ _=>rfl
   have hk:b.kind=a.kind:=by rw[h.eq];rfl
   rw[e,e,hk,jBh,jBh];refine List.Perm.append ?_ ih;by_cases hb:eV a.kind=true
   .rw[if_pos hb,if_pos hb];exact h.q.1.2
   .rw[if_neg hb,if_neg hb]
 exact key hA
end
theorem zE0{α β:Type}{g : α->β}:∀{L:List α},(L.map g).Nodup->∀{a b : α},a∈L->b∈L->g a=g b->a=b
 |[],_,a,b,ha,_,_=>by simp at ha
 |x::L,h,a,b,ha,hb,e=>by
  rw[jAc,jD2]at h;rcases jA3.1 ha with rfl|ha'<;>rcases jA3.1 hb with rfl|hb'
  .rfl
  .exact(h.1 (e▸jAf.2 ⟨b,hb',rfl⟩)).elim
  .exact(h.1 (e▸jAf.2 ⟨a,ha',rfl⟩)).elim
  .exact zE0 h.2 ha' hb' e
def NdN(p:Prg):Prop:=((jZ p.defs).map Exp.id).Nodup
theorem NdN.eq(h:NdN p){a b:Exp}(ha:a∈jZ p.defs)(hb:b∈jZ p.defs)(he:a.id=b.id):a=b:=zE0 h ha hb he
theorem TwP.nd{q:Prg}(hA:TwP p q)(h:NdN p):NdN q:=(TwP.nodes hA).nodup_iff.2 h
end Go.Proofs.YtolkhapmieigcaaGreatDoor
namespace Go.Proofs.YtolkhapmieigcaaGreatDoor
open Go Go.Abs
def dfr(pv ps pe:Value):Deferred:={target:=.fn (.func 148) #[pv,ps,pe],args:=#[]}
def qLc(F:Int)(r:Val×XS):A:=if r.2.fail=0 then .tup [.agg (z7 r.1),int (F-r.2.fuel),int 0]else .tup [.agg (z7 vz),int 0,int r.2.fail]
section
variable{p:Prg}{F:Int}{d:Dfn}{us:wI}{s:XS}{r:Val×XS}
end
end Go.Proofs.YtolkhapmieigcaaGreatDoor
namespace Go.Proofs.YtolkhapmieigcaaGreatDoor
open Go.Abs
def qAy:K:=G [kO 3 0,kO 4 1,kMn 6] (G [kZ 7 [kl]] (Z (G [D 21 4 0,L 22 21 1] (K.block 0 (G [kQi 24 22 0 false,M 23 24] (Y 23 (Z (G [M 25 2,⟨none,.neg (some 26) (kt 25)⟩,M 8 26] (K.block 1 (K.loop (Z (G [M 27 8,M 28 2,kB 29 27 28 .leq] (Y 29 ks (K.exit 1))) (Z (K.block 2 (K.dops [(0,0,L 32 7 1),(1,0,M 33 8),(2,0,kb 34 [ki,ki,kl] [(0,1,(kc 0)),(1,1,(kt 33))]),(3,0,kN 35 32),(4,0,kd 36 84 3 1 [ki,ki,kl] [(0,3,(.const (.agg #[ki,ki,kl])))]),(5,0,kP 37 84 3 40 32 36),(6,6,kX 38 37 35 3),(7,6,S 38 34 3),(8,5,S 7 37 1)])) (K.ops [M 30 8,kBi 31 30 1 .add,M 8 31])))))) (G [L 39 7 1,M 6 39] kr)) (G [kQi 41 22 1 false,M 40 41] (Y 40 (G [kb 42 [ki,ki,kl] [(0,1,(kc 1))],kb 43 [ki,ki,kl] [(0,1,(kc 1)),(1,1,(kc 1))],⟨none,.brow (some 44) 84 3 2 [ki,ki,kl,ki,ki,kl] [(0,3,(kt 42)),(3,3,(kt 43))]⟩,M 6 44] kr) (G [kQi 46 22 2 false,M 45 46] (Y 45 (Z (K.dops [(0,1,J 47 3 2),(1,1,D 48 4 4),(2,1,L 49 48 1),(3,1,kXi 50 49 5 0),(4,1,J 51 50 5),(5,0,M 52 2),(6,3,kC 53 72 [(kt 47),(kt 51),(kt 52)]),(7,0,M 9 53)]) (Z (G [M 54 2,⟨none,.mm (some 55) false [(kt 54),(kc 2)]⟩,kBi 56 55 1 .add,kMi 57 0] (K.block 3 (K.loop (G [kB 58 57 56 .lss] (Z (Y 58 ks (K.exit 3)) (Z (K.block 4 (G [M 59 57,M 10 59] (G [M 60 9,kd 61 82 1 1 [kl] [(0,1,(kt 60))],M 62 10,kC 63 137 [(kt 61),(kt 62)],kC 64 74 [(kt 63)]] (K.block 5 (K.rng (kt 64) [65] (K.ops [M 11 65]) (K.block 6 (K.dops [(0,0,L 66 7 1),(1,0,
 M 67 11),(2,0,kb 68 [ki,ki,kl] [(0,1,(kc 4)),(2,1,(kt 67))]),(3,0,kN 69 66),(4,0,kd 70 84 3 1 [ki,ki,kl] [(0,3,(.const (.agg #[ki,ki,kl])))]),(5,0,kP 71 84 3 40 66 70),(6,6,kX 72 71 69 3),(7,6,S 72 68 3),(8,5,S 7 71 1)]))))))) (K.ops [kBi 73 57 1 .add,M 57 73]))))))) (G [L 74 7 1,M 6 74] kr))) ks)))))))) (G [J 76 3 2,D 77 4 1,J 78 77 3,kC 79 70 [(kt 76),(kt 78)],M 75 79,kE 80 75 0,kE 81 75 1,kZ 12 kz0,S 12 80 31,M 13 81] (G [kMn 14] (Z (G [D 82 12 8,L 83 82 1,kN 84 83,kMi 85 0] (K.block 7 (K.loop (G [kB 86 85 84 .lss] (Z (Y 86 ks (K.exit 7)) (Z (K.block 8 (G [M 87 85,kX 88 83 85 11,J 89 88 11,kZ 16 kz5,M 15 87,S 16 89 11] (G [J 90 3 2,D 91 16 4,J 92 91 5,M 93 2,kC 94 72 [(kt 90),(kt 92),(kt 93)],M 17 94] (G [M 95 14,M 96 17,kd 97 82 1 1 [kl] [(0,1,(kt 96))],kP 98 82 1 24 95 97,M 14 98] (G [M 99 17,kN 100 99,kMi 101 0] (K.block 9 (K.loop (G [kB 102 101 100 .lss] (Z (Y 102 ks (K.exit 9)) (Z (K.block 10 (G [kX 103 99 101 3,J 104 103 3,kZ 19 [ki,ki,kl],S 19 104 3] (G [D 105 12 3,L 106 105 1,kQi 107 106 1 false] (Y 107 (K.dops [(0,0,L 108 7 1),(1,0,M 109 15),(2,0,J 110 19 3),(3,0,kd 111 84 3 1 [ki,ki,kl] [(0,3,(kt 110))]),(4,0,kb 112 [ki,ki,kl] [(0,1,(kc 3)),(1,1,(kt 109)),(2,1,(kt 111))]),(5,0,kN 113 108),(6,0,kd 114 84 3 1 [ki,ki,kl] [(0,3,(.const (.agg #[ki,ki,kl])))]),(7,0,kP 115 84 3 40 108 114),(8,6,kX 116 115 113 3),(9,6,S 116 112 3),(10,5,S 7 115 1)]) ks)))) (K.ops [kBi 117 101 1 .add,M 101 117]))))))))))) (K.ops [kBi 118 85 1 .add,M 85 118]))))))) (Z (G [D 119 12 3,
 L 120 119 1,kQi 121 120 0 false] (Y 121 (K.wk (G [M 122 14,kC 123 74 [(kt 122)]] (K.block 11 (K.rng (kt 123) [124] (K.ops [M 20 124]) (K.block 12 (K.dops [(0,0,L 125 7 1),(1,0,M 126 20),(2,0,kb 127 [ki,ki,kl] [(0,1,(kc 2)),(2,1,(kt 126))]),(3,0,kN 128 125),(4,0,kd 129 84 3 1 [ki,ki,kl] [(0,3,(.const (.agg #[ki,ki,kl])))]),(5,0,kP 130 84 3 40 125 129),(6,6,kX 131 130 128 3),(7,6,S 131 127 3),(8,5,S 7 130 1)])))))) ks)) (G [L 132 7 1,M 6 132] kr)))))))
def zDd:Nat->Option wE:=fun|12=>k_ [1,1,1,1,1,0,3,0] | 7=>k_ [0,0,0,0,0,0,6,6,5] | 18=>k_ [0,0,0,0,0,0,6,6,5] | 38=>k_ [0,0,0,0,0,0,6,6,5] | 32=>k_ [0,0,0,0,0,0,0,0,6,6,5]|_=>none
theorem qHZ:kx Tryz.f72 zDd qAy:=mz (by kernel_rfl)
def lT(m:Int):wI:=(List.range (2*m+1).toNat).map fun(i:Nat)=>.mk 0 (i-m) []
def zHy(m:Int)(e:wI):wI:=(List.range ((if 2<m then 2 else m)+1).toNat).flatMap fun k=>(yB (List.replicate k e)).map (.mk 4 0)
def jU(i:Int):List wI->wI
 |[]=>[]
 |l::r=>l.map (fun v=>.mk 3 i [v])++jU (i+1) r
def o9(l:List wI):wI:=(yB l).map (.mk 2 0)
def rZ(k:Int)(l:List wI):wI:=if k=0 then o9 l else if k=1 then jU 0 l else []
def dD(p:Prg)(m:Int):Nat->Typ->wI
 | 0,_=>[]
 |n+1,t=>if t.k=0 then lT m else if t.k=1 then [.mk 1 0 [],.mk 1 1 []]else if t.k=2 then zHy m (dD p m n (t.kids.headD Typ.zero))
  else rZ (dfn p t.id).kind ((dfn p t.id).slots.map fun s=>dD p m n s.typ)
theorem mF:∀(l acc:List wI),(l.foldl dU acc).length=acc.length*(l.map List.length).foldl (· * ·) 1
 |[],acc=>by simp
 |a::l,acc=>by
  have h:∀(l:wA) (x y:Nat),l.foldl (· * ·) (x*y)=x*l.foldl (· * ·) y:=by
   intro l;induction l with
   |nil=>intro x y;rfl
   |cons a l ih=>intro x y;simp only[jAt,Nat.mul_assoc,ih]
  simp only[jAt,jAc,mF l,gY,Nat.one_mul];have:=h (l.map List.length) a.length 1;rw[Nat.mul_one]at this;rw[this,Nat.mul_assoc]
theorem zG5:∀(l:List wI) (z:List Sz) (a b:Int),z.map (·.a)=l.map (fun x=>(x.length:Int))->(oM a b z).e=0->(oM a b z).a=a*((l.map List.length).foldl (· * ·) 1:Nat)
 |[],[],a,b,_,_=>by simp[oM]
 |x::l,k::z,a,b,h,he=>by
  simp only[jAc,jBd]at h;simp only[oM]at he ⊢;split at he
  .simp at he
  .rename_i hn;rw[if_neg hn,zG5 l z _ _ h.2 he,h.1];have hh:∀(l:wA) (x y:Nat),l.foldl (· * ·) (x*y)=x*l.foldl (· * ·) y:=by
    intro l;induction l with
    |nil=>intro x y;rfl
    |cons a l ih=>intro x y;simp only[jAt,Nat.mul_assoc,ih]
   have:=hh (l.map List.length) x.length 1;rw[Nat.mul_one]at this;simp only[jAc,jAt,Nat.one_mul,this];rw[Int.natCast_mul,Int.mul_assoc]
 |[],_::_,_,_,h,_=>by simp at h
 |_::_,[],_,_,h,_=>by simp at h
theorem zDD:∀(l:List wI) (z:List Sz) (i a b:Int),z.map (·.a)=l.map (fun x=>(x.length:Int))->(iC a b z).a=a+(jU i l).length
 |[],[],i,a,b,_=>by simp[iC,jU]
 |x::l,k::z,i,a,b,h=>by simp only[jAc,jBd]at h;simp only[iC,jU,jA4,jAa];rw[zDD l z (i+1) _ _ h.2,h.1];omega
 |[],_::_,_,_,_,h=>by simp at h
 |_::_,[],_,_,_,h=>by simp at h
theorem zLw(m:Int)(hm:0<=m)(e:wI)(k:Sz)(hk:k.a=e.length)(he:k.e=0):(dO m k).a=(zHy m e).length:=by
 have h2:dU (dU [[]] e) e=yB [e,e]:=rfl;unfold dO zHy;rw[if_neg (by simp[he])];have c0:m=0\/m=1\/2<=m:=by omega
 rcases c0 with rfl|rfl|hm
 .simp[List.range_succ]
 .simp[List.range_succ,yB,gY,hk];omega
 .have e1:((if 2<m then 2 else m)+1).toNat=3:=by split<;>omega
  rw[e1,if_neg (by omega),if_neg (by omega)];simp[List.range_succ,yB,gY,hk,List.replicate];omega
theorem zRf{p:Prg}{m:Int}{n:Nat}(ih:∀t,(jT p m n t).e=0->(jT p m n t).a=(dD p m n t).length):∀(l:List Slt),rB (l.map fun s=>jT p m n s.typ)=0 ->
 (l.map fun s=>jT p m n s.typ).map (·.a)=(l.map fun s=>dD p m n s.typ).map (fun x=>(x.length:Int)):=by
 intro l h;have h0:=iL h;rw[jCb,jCb];apply jC6;intro s hs;exact ih s.typ (h0 _ (List.mem_map_of_mem hs))
theorem uU{k:Sz}(h:(fF k).e=0):k.e=0/\(fF k).a=k.a/\k.a<=4096:=by
 unfold fF at h⊢;split at h
 .simp at h;contradiction
 .rename_i h1;split at h
  .simp at h
  .rename_i h2;rw[if_neg h1,if_neg h2];simp at h1;exact⟨h1,rfl,by omega⟩
theorem zAr{p:Prg}{n:Nat}{t:Typ}(h:yA p n t=true)(h0:t.k≠0)(h1:t.k≠1)(h2:t.k≠2):(dfn p t.id).kind=0\/(dfn p t.id).kind=1:=by
 cases n with
 |zero=>simp[yA]at h
 |succ n =>
  cases t with
  |mk k id kids =>
   simp only[Typ.k_mk]at h0 h1 h2;unfold dfn;simp only[yA,Typ.k_mk,Typ.id_mk,Typ.kids_mk,h2,if_false]at h;by_cases hk:kids=[]
   .by_cases h3:k=3
    .cases hf:qM p.defs id with
     |none=>simp[hk,h3,hf,iM]at h
     |some d=>simpa[hk,h3,hf,iM]using h
    .simp[hk,h3,h0,h1]at h
   .simp[hk]at h
theorem nA(p:Prg)(m:Int)(hm:0<=m):∀(n:Nat) (t:Typ),(jT p m n t).e=0->(jT p m n t).a=(dD p m n t).length
 | 0,t,h=>by unfold jT at h;split at h<;>simp at h
 |n+1,t,h=>by
  unfold jT dD at *
  split at h
  .simp at h
  rename_i hv;have hv:validT p t=true:=by simpa using hv
  rw[if_neg (by simp[hv])];by_cases h0:t.k=0
  .simp[h0,lT];omega
  by_cases h1:t.k=1
  .simp[h1]
  by_cases h2:t.k=2
  .rw[if_neg h0,if_neg h1,if_pos h2]at h⊢;rw[if_neg h0,if_neg h1,if_pos h2];obtain⟨e1,e2,_⟩:=uU h;have e3:(jT p m n (t.kids.headD Typ.zero)).e=0:=by
    by_cases hz:(jT p m n (t.kids.headD Typ.zero)).e=0
    .exact hz
    .exact absurd e1 (by rw[dO,if_pos hz];exact hz)
   rw[e2];exact zLw m hm _ _ (nA p m hm n (t.kids.headD Typ.zero) e3) e3
  .rw[if_neg h0,if_neg h1,if_neg h2]at h⊢;rw[if_neg h0,if_neg h1,if_neg h2];obtain⟨e1,e2,_⟩:=uU h;rw[e2];have e3:rB ((dfn p t.id).slots.map fun s=>jT p m n s.typ)=0:=by
    by_cases hz:rB ((dfn p t.id).slots.map fun s=>jT p m n s.typ)=0
    .exact hz
    .exact absurd e1 (by simp[aL,hz])
   have e4:=zRf (fun t=>nA p m hm n t) _ e3;have e5:=zAr hv h0 h1 h2;unfold rZ;rcases e5 with e5|e5
   .rw[if_pos e5];have ee:aL (decide ((dfn p t.id).kind=0)) ((dfn p t.id).slots.map fun s=>jT p m n s.typ)=oM 1 1 ((dfn p t.id).slots.map fun s=>jT p m n s.typ):=by simp[aL,e3,e5]
    rw[ee]at e1 ⊢;rw[zG5 _ _ _ _ e4 e1,o9,jAa,yB,mF];simp
   .rw[if_neg (by omega),if_pos e5];have ee:aL (decide ((dfn p t.id).kind=0)) ((dfn p t.id).slots.map fun s=>jT p m n s.typ)=iC 0 1 ((dfn p t.id).slots.map fun s=>jT p m n s.typ):=by simp[aL,e3,e5]
    rw[ee,zDD _ _ 0 _ _ e4];simp
def num(x:Int):Val:=.mk 0 x []
variable{j:Nat}
theorem zOu{m:Int}(h:j<(2*m+1).toNat):(lT m).take (j+1)=(lT m).take j++[.mk 0 (j-m) []]:=by rw[jA8 (by simpa[lT]using h)];simp[lT]
def y4(X:wI)(j:Nat):wI:=(List.range j).flatMap fun k=>(yB (List.replicate k X)).map (.mk 4 0)
mutual
theorem zN5:∀(a:A) (k:Nat),vw jW (fun _=>none) a=a->a.bnd k=true
 | .any,k,h=>rfl
 | .nil,k,h=>rfl
 | .lit _,k,h=>rfl
 | .agg cs,k,h=>by simp only[vw,A.agg.injEq]at h;simpa[A.bnd]using dH cs k h
 | .tup cs,k,h=>by simp only[vw,A.tup.injEq]at h;simpa[A.bnd]using dH cs k h
 | .sl n cs,k,h=>by simp only[vw,A.sl.injEq]at h;simpa[A.bnd]using dH cs k h.2
 | .fsl n cs,k,h=>by simp only[vw,A.fsl.injEq]at h;simpa[A.bnd]using dH cs k h.2
 | .ptr l off,k,h=>by simp[vw]at h
 | .rptr cs,k,h=>by simp only[vw,A.rptr.injEq]at h;simpa[A.bnd]using dH cs k h
 | .row l n,k,h=>by simp[vw,jW]at h
 | .rwp l n off,k,h=>by simp[vw]at h
 | .map l,k,h=>by simp[vw]at h
 | .clo f first cap,k,h=>by simp only[vw,A.clo.injEq,true_and]at h;simp[A.bnd,dH first k h.1,dH cap k h.2]
theorem dH:∀(cs:wF) (k:Nat),vwL jW (fun _=>none) cs=cs->bY k cs=true
 |[],k,h=>rfl
 |c::cs,k,h=>by simp only[vwL,jBd]at h;simp[bY,zN5 c k h.1,dH cs k h.2]
end
theorem tP(X:wI)(j:Nat):y4 X (j+1)=y4 X j++(yB (List.replicate j X)).map (.mk 4 0):=by simp[y4,List.range_succ]
theorem zLv(X:wI)(j d:Nat):∃R,y4 X (j+d)=y4 X j++R:=by
 induction d with
 |zero=>exact⟨[],by simp⟩
 |succ d ih =>
  obtain⟨R,hR⟩:=ih;exact⟨R++(yB (List.replicate (j+d) X)).map (.mk 4 0),by rw[<-jB9,tP,hR,jAq]⟩
theorem zJm{X:wI}{N i:Nat}(h:j<N)(hi:i<(yB (List.replicate j X)).length) :
 (y4 X N).take ((y4 X j).length+(i+1))=(y4 X N).take ((y4 X j).length+i)++[.mk 4 0 (yB (List.replicate j X))[i]]/\(y4 X j).length+(i+1)<=(y4 X N).length:=by
 obtain⟨R,hR⟩:=zLv X (j+1) (N-(j+1));rw[show j+1+(N-(j+1))=N by omega,tP]at hR;have hl:(y4 X j).length+(i+1)<=(y4 X N).length:=by rw[hR];simp;omega
 refine⟨?_,hl⟩;rw[<-jB9,jA8 (by omega)]
 congr 2
 have:(y4 X N)[(y4 X j).length+i]?=some (.mk 4 0 (yB (List.replicate j X))[i]):=by rw[hR,jAq,jB8 (by omega),Nat.add_sub_cancel_left,jAo (by simpa using hi)];simp[hi]
 rw[jA2 (by omega)]at this;exact jAw this
theorem zKK(l:wT)(k:Nat):bY k (jL l)=true:=dH _ k ((yK l).2 _ _)
attribute [simp] zKK
theorem oD(i:Int):∀(l r:List wI),jU i (l++r)=jU i l++jU (i+l.length) r
 |[],r=>by simp[jU]
 |x::l,r=>by have h:=oD (i+1) l r;simp only[jBf,jU,h,jAb,jAq];rw[show i+1+(l.length:Int)=i+((l.length+1:Nat):Int) by omega]
variable{L:List wI}
theorem zIr(h:j<L.length):jU 0 (L.take (j+1))=jU 0 (L.take j)++L[j].map (fun v=>.mk 3 j [v]):=by rw[jA8 h,oD];simp[jU,jAu (Nat.le_of_lt h)]
theorem zIs{j k:Nat}(h:j<L.length)(hk:k<L[j].length) :
 (jU 0 L).take ((jU 0 (L.take j)).length+(k+1))=(jU 0 L).take ((jU 0 (L.take j)).length+k)++[.mk 3 j [L[j][k]]]/\(jU 0 (L.take j)).length+(k+1)<=(jU 0 L).length:=by
 have hR:jU 0 L=jU 0 (L.take j)++(L[j].map (fun v=>Val.mk 3 j [v])++jU ((j:Int)+1) (L.drop (j+1))):=by
  conv=>lhs;rw[<-jBs j L]
  rw[oD,jBb h];simp[jU,jAu (Nat.le_of_lt h)]
 have hl:(jU 0 (L.take j)).length+(k+1)<=(jU 0 L).length:=by rw[hR];simp;omega
 refine⟨?_,hl⟩;rw[<-jB9,jA8 (by omega)]
 congr 2
 have:(jU 0 L)[(jU 0 (L.take j)).length+k]?=some (.mk 3 j [L[j][k]]):=by rw[hR,jB8 (by omega),Nat.add_sub_cancel_left,jAo (by simpa using hk)];simp[hk]
 rw[jA2 (by omega)]at this;exact jAw this
theorem zIf{X:wI}(h:j<=X.length):(∀ds,(zT (X.take j)++ds).take (j*3)=zT (X.take j))/\(∀ds,(zT (X.take j)++ds).drop (j*3+3)=ds.drop 3):=by
 have hl:(zT (X.take j)).length=j*3:=by simp[jAu h]
 refine⟨fun ds=>by rw[<-hl];simp,fun ds=>by rw[<-hl,List.drop_append];simp⟩
theorem zVL(p:Prg)(hs:Sml p)(m:Int)(hm:0<=m/\m<=64):∀(n:Nat) (t:Typ),(jT p m n t).e=0->my 72 [.agg (zI p),.agg (zB t),int m] [] (.row 0 (dD p m n t).length) [.row false 84 3 (dD p m n t).length (zT (dD p m n t))]:=by
 intro n;induction n with
 |zero =>
  intro t h;unfold jT at h;split at h<;>simp at h
 |succ n ih =>
  intro t h;have hlen:=nA p m hm.1 (n+1) t h;have hle:=c9 p m hm (n+1) t h;refine zJ Tryz.func72 rfl qHZ (rs:=[.slot 6]) (by kernel_rfl) ?_;unfold qAy;unfold jT at h;split at h
  .simp at h
  rename_i hv;have hv:validT p t=true:=by simpa using hv
  by_cases h0:t.k=0
  .have ha:dD p m (n+1) t=lT m:=by rw[dD,if_pos h0]
   rw[ha];have hli:(lT m).length=(2*m+1).toNat:=by simp[lT]
   have hw0:=z8 (0-m) (by omega);have hw0':IntKind.i64.wrap (-m) = -m:=IntWalk.i64_in _ (by omega);simp[zI,zB,h0,hw0,hw0'];refine qH (S:=Nat) (fun j=>[(2,int m),(6,.nil),(7,.ptr 2 0),(8,int (j-m))])
    (fun j=>[.box (zI p),.box (zB t),.box [.row 3 j],.row false 84 3 j (zT ((lT m).take j))])
    (fun j=>(j:Int)<=2*m+1) (fun j=>(2*m+1).toNat-j) 0 (by simp;omega)
    ((yI (l:=2) (o:=0) rfl rfl 84 3).trans (mw [0,1,2,3] 0 (by rfl) (by simp[zI,zB,h0]))) ?_
   intro j hj;by_cases hjl:(j:Int)-m<=m
   .have htk:=zOu (m:=m) (j:=j) (by omega);have hw1:=z8 ((j:Int)-m+1) (by omega);have hll:((lT m).take j).length=j:=by simp;omega
    have hjx:j<=(lT m).length:=by omega
    simp[hjl,tN,oY,hw1,jAu hjx,(zIf hjx).1,(zIf hjx).2];refine⟨⟨by simp[maxLen];omega,by omega⟩,by omega,?_⟩;exact zN (j+1) (by omega) (by omega) (kf [0,1,2,3] 0 (by rfl) (by simp[zI,zB,h0,htk,z7,Val.k,Val.n,Val.kids]) (by simp;omega))
   .have hjj:(j:Int)=2*m+1:=by omega
    have hjn:j=(lT m).length:=by omega
    have htk:(lT m).take j=lT m:=by rw[hjn];exact jAh (jA _)
    simp[hjl,htk];exact mv [3] 0 (by rfl) (by simp[hjn])
  by_cases h1:t.k=1
  .have ha:dD p m (n+1) t=[.mk 1 0 [],.mk 1 1 []]:=by rw[dD,if_neg h0,if_pos h1]
   rw[ha];simp[zI,zB,h1];exact mv [3] 0 (by rfl) (by simp[z7,Val.k,Val.n,Val.kids])
  by_cases h2:t.k=2
  .obtain⟨x,hx⟩:=zDc hv h2;rw[if_neg h0,if_neg h1,if_pos h2,hx]at h;obtain⟨e1,_,_⟩:=uU h;have e3:(jT p m n x).e=0:=by
    by_cases hz:(jT p m n x).e=0
    .exact hz
    .exact absurd e1 (by rw[jD0,dO,if_pos hz];exact hz)
   have ha:dD p m (n+1) t=y4 (dD p m n x) ((if 2<m then 2 else m)+1).toNat:=by rw[dD,if_neg h0,if_neg h1,if_pos h2,hx];rfl
   have hex:=c9 p m hm n x e3;have hel:=nA p m hm.1 n x e3;have ih:=ih x e3;rw[ha]at hlen ⊢;generalize dD p m n x=X at ih hel hlen;simp[zI,zB,h2,hx];refine zDj ih (by simp[zI,zB,qK]) ?_;obtain⟨K,hK,hK2⟩:∃K:Nat,(if 2<m then 2 else m)+1=(K:Int)/\K<=3:=⟨((if 2<m then 2 else m)+1).toNat,by split<;>omega,by split<;>omega⟩;have hw3:IntKind.i64.wrap ((if 2<m then 2 else m)+1)=(K:Int):=by rw[<-hK];exact IntWalk.i64_in _ (by split<;>omega)
   rw[hK]at hlen ⊢;simp only[jCm]at hlen ⊢;have hW:(y4 X K).length<=4096:=by omega
   simp[hw3];refine qH (S:=Nat) (fun j=>[(7,.ptr 2 0),(9,.sl X.length (zT X)),(56,int K),(57,int j)])
    (fun j=>[.box (zI p),.box (zB t),.box [.row 3 (y4 X j).length],.row false 84 3 (y4 X j).length (zT ((y4 X K).take (y4 X j).length))])
    (fun j=>j<=K) (fun j=>K-j) 0 (by simp)
    ((yI (l:=2) (o:=0) rfl rfl 84 3).trans (mw [0,1,2,4] 1 (by rfl) (by simp[zI,zB,h2,hx,y4]))) ?_
   intro j hj;by_cases hjl:j<K
   .have hw4:=yU j (by omega);simp[hjl,hw4];have hrep:my 137 [.sl 1 (qX [X]),int j] [] (.sl (List.replicate j X).length (qX (List.replicate j X))) []:=by have:=zON j (by omega) (.sl X.length (zT X));rw[List.length_replicate,qX,qX,List.map_replicate];exact this
    refine mu hrep (by simp) ?_;simp;refine mu (vF (List.replicate j X)) (by simp) ?_;simp;have hc1:(y4 X (j+1)).length=(y4 X j).length+(yB (List.replicate j X)).length:=by rw[tP];simp
    refine⟨[(7,.ptr 2 0),(9,.sl X.length (zT X)),(56,int K),(57,int j),(64,.clo 139 [] [.rptr [.sl (List.replicate j X).length (qX (List.replicate j X))]])],4,(yB (List.replicate j X)).map (fun t=>[fT t]),
     fun i=>[.box (zI p),.box (zB t),.box [.row 3 ((y4 X j).length+i)],.row false 84 3 ((y4 X j).length+i) (zT ((y4 X K).take ((y4 X j).length+i)))],
     139,[],[.rptr [.sl (List.replicate j X).length (qX (List.replicate j X))]],by simp,zGX,zHw _ _ rfl (by simp;omega),xL (τ:=[]) (by simp) (by simp) (by simp) (by simp) (by simp[zI,zB]),by omega,?_,by simp,by simp,?_,?_⟩
    .intro i hi;simp[zI,zB]
    .intro i hi b' M r r';simp only[jAa]at hi;obtain⟨htk,hle⟩:=zJm hjl hi;have hlx:(y4 X j).length+i<=(y4 X K).length:=by omega
     have hcast:(((y4 X j).length:Int)+(i:Int)).toNat=(y4 X j).length+i:=by omega
     simp[tN,oY,jAu hlx,(zIf hlx).1,(zIf hlx).2,hcast];refine⟨⟨by simp[maxLen];omega,by omega⟩,⟨by omega,by omega⟩,?_⟩;refine⟨jR [],_,?_,rfl⟩;exact mw [0,1,2,3,4] 0 (by rfl) (by simp[zI,zB,htk,z7,Val.k,Val.n,Val.kids,jB9])
    .simp;exact zN (j+1) hjl (by omega) (mw [0,1,2,3] 0 (by rfl) (by simp[hc1,zI,zB,hw4]))
   .have hjj:j=K:=by omega
    subst hjj;simp;exact mv [3] 0 (by rfl) (by simp)
  .rw[if_neg h0,if_neg h1,if_neg h2]at h;obtain⟨e1,_,_⟩:=uU h;have ha:dD p m (n+1) t=rZ (dfn p t.id).kind ((dfn p t.id).slots.map fun s=>dD p m n s.typ):=by rw[dD,if_neg h0,if_neg h1,if_neg h2]
   have e5:=zAr hv h0 h1 h2;have hsl:=hs.dfn t.id;have e3:rB ((dfn p t.id).slots.map fun s=>jT p m n s.typ)=0:=by
    by_cases hz:rB ((dfn p t.id).slots.map fun s=>jT p m n s.typ)=0
    .exact hz
    .exact absurd e1 (by simp[aL,hz])
   have e4:∀s∈(dfn p t.id).slots,(jT p m n s.typ).e=0:=fun s hs=>iL e3 _ (List.mem_map_of_mem hs)
   have e6:∀s∈(dfn p t.id).slots,(dD p m n s.typ).length<=4096:=fun s hs=>by have g1:=c9 p m hm n s.typ (e4 s hs);have g2:=nA p m hm.1 n s.typ (e4 s hs);omega
   rw[ha]at hlen ⊢;obtain⟨k,id,kids⟩:=t;simp only[Typ.k_mk,Typ.id_mk]at h0 h1 h2 hlen hsl e3 e4 e5 e6 ⊢;generalize hD:dfn p id=D at hlen hsl e3 e4 e5 e6 ⊢;rw[dfn]at hD;have hW:(rZ D.kind (D.slots.map fun s=>dD p m n s.typ)).length<=4096:=by omega
   have hih:∀s∈D.slots,my 72 [.agg (zI p),.agg (zB s.typ),int m] [] (.row 0 (dD p m n s.typ).length) [.row false 84 3 (dD p m n s.typ).length (zT (dD p m n s.typ))]:=fun s hs=>ih s.typ (e4 s hs)
   have hLl:(D.slots.map fun s=>dD p m n s.typ).length=D.slots.length:=by simp
   have hLg:∀i (h:i<D.slots.length),(D.slots.map fun s=>dD p m n s.typ)[i]?=some (dD p m n D.slots[i].typ):=fun i h=>by simp[h]
   generalize (D.slots.map fun s=>dD p m n s.typ)=L at hLl hLg hW hlen ⊢;clear hlen h e1 ha hle hv;simp[zI,zB,h0,h1,h2];refine mu (s9 p id) (by simp[zI,zX,gN]) ?_;simp[gN,hD,zQ];intro hl;rcases e5 with e5|e5
   .have hsv:rZ D.kind L=o9 L:=by simp[rZ,e5]
    rw[hsv]at hW ⊢;refine qH (S:=Nat) (fun i=>[(2,int m),(3,.ptr 0 0),(7,.ptr 2 0),(12,.ptr 3 0),(14,.row 4 i),(83,.sl D.slots.length (qW D.slots)),(84,int D.slots.length),(85,int i)])
     (fun i=>[.box (zI p),.box (zB (.mk k id kids)),.box [.nil],.box (zQ D),.row false 82 1 i (qX (L.take i))])
     (fun i=>i<=D.slots.length) (fun i=>D.slots.length-i) 0 (by simp)
     ((jS (t:=14) (by simp) 82 1).trans (mw [0,1,2,3,4] 0 (by rfl) (by simp[zI,zB,zQ]))) ?_
    intro i hi;by_cases h:i<D.slots.length
    .have hil:i<L.length:=by omega
     have hl6:=e6 D.slots[i] (jA0 h);have hc:=hih D.slots[i] (jA0 h);have hLi:=hLg i h;rw[jA2 hil]at hLi;rw[<-jAw hLi]at hc hl6;simp[h,jN h,aD,zI];refine mr hc [] (by simp[zI,zB]) ?_;simp[oY];refine⟨⟨by simp[maxLen];omega,by omega⟩,?_⟩;have htL:qX (L.take (i+1))=qX (L.take i)++[.sl L[i].length (zT L[i])]:=by rw[jA8 hil,oG];rfl
     refine qH (S:=Nat) (fun k=>[(2,int m),(3,.ptr 0 0),(7,.ptr 2 0),(12,.ptr 3 0),(14,.row 4 (i+1)),(15,int i),(83,.sl D.slots.length (qW D.slots)),(84,int D.slots.length),(85,int i),(99,.sl L[i].length (zT L[i])),(100,int L[i].length),(101,int k)])
      (fun q=>[.box (zI p),.box (zB (.mk k id kids)),.box [.nil],.box (zQ D),.row false 82 1 (i+1) (qX (L.take (i+1)))])
      (fun q=>q<=L[i].length) (fun q=>L[i].length-q) 0 (by simp)
      (mw [0,1,2,3,4] 1 (by rfl) (by simp[zI,zB,zQ,htL])) ?_
     intro q hq;by_cases hql:q<L[i].length
     .have hwq:=yU q (by omega);simp[hql,j6 hql,zQ,e5,tN,oY,hwq];exact zN (q+1) hql (by omega) (mw [0,1,2,3,4] 0 (by rfl) (by simp[zI,zB,zQ,e5,hwq]))
     .have hqq:q=L[i].length:=by omega
      subst hqq;have hwi:=yU i (by omega);simp;exact zN (i+1) h (by omega) (mw [0,1,2,3,4] 0 (by rfl) (by simp[zI,zB,zQ,hwi]))
    .have hi:i=D.slots.length:=by omega
     subst hi;have htk:L.take D.slots.length=L:=jAh (by omega);simp[htk,e5,zQ];refine⟨jR [(7,.ptr 0 0),(14,.sl L.length (qX L))],[.box [.row 1 0],.row false 84 3 0 []],(yI (l:=2) (o:=0) rfl rfl 84 3).trans (mw [2,5] 1 (by rfl) (by simp[hLl])),?_⟩;simp;refine mu (vF L) (by simp) ?_;simp;have hWl:(yB L).length=(o9 L).length:=by simp[o9]
     refine⟨[(7,.ptr 0 0),(123,.clo 139 [] [.rptr [.sl L.length (qX L)]])],2,(yB L).map (fun t=>[fT t]),
      fun i=>[.box [.row 1 i],.row false 84 3 i (zT ((o9 L).take i))],
      139,[],[.rptr [.sl L.length (qX L)]],by simp,zGX,zHw _ _ rfl (by omega),xL (τ:=[]) (by simp) (by simp) (by simp) (by simp) (by simp),by omega,?_,by simp,by simp,?_,?_⟩
     .intro i hi;simp
     .intro i hi b' M r r';simp only[jAa]at hi;have hlx:i<=(o9 L).length:=by omega
      have htk:zT ((o9 L).take (i+1))=zT ((o9 L).take i)++z7 (.mk 2 0 (yB L)[i]):=by rw[jA8 (by omega),dV];simp[o9,z7]
      simp[tN,oY,jAu hlx,(zIf hlx).1,(zIf hlx).2];refine⟨⟨by simp[maxLen];omega,by omega⟩,by omega,?_⟩;refine⟨jR [],_,?_,rfl⟩;exact mw [0,1,2] 0 (by rfl) (by simp[htk,z7,Val.k,Val.n,Val.kids])
     .have htk:(o9 L).take (yB L).length=o9 L:=jAh (by omega);simp[htk];exact mv [1] 0 (by rfl) (by simp[hWl])
   .have hsv:rZ D.kind L=jU 0 L:=by simp[rZ,e5]
    rw[hsv]at hW ⊢;refine qH (S:=Nat) (fun i=>[(2,int m),(3,.ptr 0 0),(7,.ptr 2 0),(12,.ptr 3 0),(14,.row 5 i),(83,.sl D.slots.length (qW D.slots)),(84,int D.slots.length),(85,int i)])
     (fun i=>[.box (zI p),.box (zB (.mk k id kids)),.box [.row 4 (jU 0 (L.take i)).length],.box (zQ D),.row false 84 3 (jU 0 (L.take i)).length (zT ((jU 0 L).take (jU 0 (L.take i)).length)),.row false 82 1 i (qX (L.take i))])
     (fun i=>i<=D.slots.length) (fun i=>D.slots.length-i) 0 (by simp)
     (((yI (l:=2) (o:=0) rfl rfl 84 3).trans (jS (t:=14) (by simp) 82 1)).trans (mw [0,1,2,3,4,5] 0 (by rfl) (by simp[zI,zB,zQ,jU]))) ?_
    intro i hi;by_cases h:i<D.slots.length
    .have hil:i<L.length:=by omega
     have hl6:=e6 D.slots[i] (jA0 h);have hc:=hih D.slots[i] (jA0 h);have hLi:=hLg i h;rw[jA2 hil]at hLi;rw[<-jAw hLi]at hc hl6;simp[h,jN h,aD,zI];refine mr hc [] (by simp[zI,zB]) ?_;simp[oY];refine⟨⟨by simp[maxLen];omega,by omega⟩,?_⟩;have hcs:=zIr hil;have hc1:(jU 0 (L.take (i+1))).length=(jU 0 (L.take i)).length+L[i].length:=by rw[hcs];simp
     have htL:qX (L.take (i+1))=qX (L.take i)++[.sl L[i].length (zT L[i])]:=by rw[jA8 hil,oG];rfl
     refine qH (S:=Nat) (fun k=>[(2,int m),(3,.ptr 0 0),(7,.ptr 2 0),(12,.ptr 3 0),(14,.row 5 (i+1)),(15,int i),(83,.sl D.slots.length (qW D.slots)),(84,int D.slots.length),(85,int i),(99,.sl L[i].length (zT L[i])),(100,int L[i].length),(101,int k)])
      (fun q=>[.box (zI p),.box (zB (.mk k id kids)),.box [.row 4 ((jU 0 (L.take i)).length+q)],.box (zQ D),.row false 84 3 ((jU 0 (L.take i)).length+q) (zT ((jU 0 L).take ((jU 0 (L.take i)).length+q))),.row false 82 1 (i+1) (qX (L.take (i+1)))])
      (fun q=>q<=L[i].length) (fun q=>L[i].length-q) 0 (by simp)
      (mw [0,1,2,3,4,5] 1 (by rfl) (by simp[zI,zB,zQ,htL])) ?_
     intro q hq;by_cases hql:q<L[i].length
     .obtain⟨htk,hle⟩:=zIs hil hql;have hlx:(jU 0 (L.take i)).length+q<=(jU 0 L).length:=by omega
      have hcast:(((jU 0 (L.take i)).length:Int)+(q:Int)).toNat=(jU 0 (L.take i)).length+q:=by omega
      have hwq:=yU q (by omega);simp[hql,j6 hql,zQ,e5,tN,oY,jAu hlx,(zIf hlx).1,(zIf hlx).2,hcast,hwq];refine⟨⟨by simp[maxLen];omega,by omega⟩,⟨by omega,by omega⟩,?_⟩;exact zN (q+1) hql (by omega) (mw [0,1,2,3,4,5] 0 (by rfl) (by simp[zI,zB,zQ,e5,htk,z7,Val.k,Val.n,Val.kids,jB9,hwq]))
     .have hqq:q=L[i].length:=by omega
      subst hqq;have hwi:=yU i (by omega);simp;exact zN (i+1) h (by omega) (mw [0,1,2,3,4,5] 0 (by rfl) (by simp[zI,zB,zQ,hc1,hwi]))
    .have hi:i=D.slots.length:=by omega
     subst hi;have htk:L.take D.slots.length=L:=jAh (by omega);simp[htk,e5,zQ];exact mv [4] 0 (by rfl) (by simp)
end Go.Proofs.YtolkhapmieigcaaGreatDoor
namespace Go.Proofs.YtolkhapmieigcaaGreatDoor
open Go Go.Abs
section
variable{p:Prg}{F:Int}{d:Dfn}{us:wI}{s:XS}{r:Val×XS}
end
def vL(p:Prg)(id:Id)(vs:wI)(fuel:Int):A:=match qM p.defs id with
 |none=>.tup [.agg (z7 vz),int 0,int 6]
 |some d=>if eU d=false then .tup [.agg (z7 vz),int 0,int 6]else if vs.length≠d.slots.length then .tup [.agg (z7 vz),int 0,int 1]
  else if aH p (d.slots.map Slt.typ) vs=false then .tup [.agg (z7 vz),int 0,int 1]else qLc fuel (nI p d vs fuel)
end Go.Proofs.YtolkhapmieigcaaGreatDoor
namespace Go.Proofs.YtolkhapmieigcaaGreatDoor
open Go.Abs
inductive OneOf:List Val->List (List Val)->Prop
 |nil:OneOf [] []
 |cons {v:Val} {x:List Val} {t:List Val} {l:List (List Val)} (h:v∈x) (ht:OneOf t l):OneOf (v::t) (x::l)
theorem zIO:∀(l acc:List wI) (t:wI),t∈l.foldl dU acc->∃h∈acc,∃s,t=h++s/\OneOf s l
 |[],acc,t,ht=>⟨t,ht,[],by simp,.nil⟩
 |a::l,acc,t,ht=>by obtain⟨h,hh,s,rfl,hs⟩:=zIO l (dU acc a) t ht;simp only[dU,List.mem_flatMap,jAf]at hh;obtain⟨g,hg,x,hx,rfl⟩:=hh;exact⟨g,hg,x::s,by simp,.cons hx hs⟩
theorem zJE{l:List wI}{t:wI}(h:t∈yB l):OneOf t l:=by obtain⟨g,hg,s,rfl,hs⟩:=zIO l [[]] t h;simp at hg;subst hg;simpa using hs
inductive BndB(N:Nat):List Sz->List (List Val)->Prop
 |nil:BndB N [] []
 |cons {k:Sz} {x:List Val} {z:List Sz} {l:List (List Val)} (h:∀v∈x,(qU v:Int)<=k.b/\fJ v<=N) (h0:0<=k.b) (hz:BndB N z l):BndB N (k::z) (x::l)
def zF9:List Sz->Int
 |[]=>0
 |k::z=>k.b+zF9 z
theorem zH8{N:Nat}:∀{z:List Sz} {l:List wI} {t:wI},BndB N z l->OneOf t l->(jK t:Int)<=zF9 z/\e8 t<=N
 |_,_,_,.nil,.nil=>by simp[jK,e8,zF9]
 |_,_,_,.cons h _ hz,.cons hv ht=>by have h1:=zH8 hz ht;have h2:=h _ hv;simp only[jK,e8,zF9];omega
theorem zRz:∀(z:List Sz) (a b:Int),(oM a b z).e=0->(oM a b z).b=b+zF9 z
 |[],a,b,_=>by simp[oM,zF9]
 |k::z,a,b,h=>by
  simp only[oM]at h⊢;split at h
  .simp at h
  .rename_i hn;rw[if_neg hn,zRz z _ _ h];simp only[zF9];omega
theorem zM0:∀(z:List Sz) (a b:Int),b<=(iC a b z).b/\∀k∈z,1+k.b<=(iC a b z).b
 |[],a,b=>by simp[iC]
 |k::z,a,b=>by
  have:=zM0 z (a+k.a) (max b (1+k.b));simp only[iC];refine⟨by omega,fun x hx=>?_⟩;rcases jA3.1 hx with rfl|hx
  .omega
  .exact this.2 x hx
theorem zFO{N:Nat}:∀{z:List Sz} {l:List wI} (i:Int),BndB N z l->∀v∈jU i l,∃k∈z,(qU v:Int)<=1+k.b/\fJ v<=N+1
 |_,_,i,.nil,v,h=>by simp[jU]at h
 |_,_,i,.cons (k:=k) h h0 hz,v,hv=>by
  simp only[jU,jA6,jAf]at hv;rcases hv with ⟨x,hx,rfl⟩|hv
  .have:=h x hx;refine⟨k,by simp,?_⟩;have e1:qU (.mk 3 i [x])=1+jK [x]:=lL _;have e2:fJ (.mk 3 i [x])=e8 [x]+1:=mK _;have e3:jK [x]=qU x+0:=by simp only[jK]
   have e4:e8 [x]=max (fJ x) 0:=by simp only[e8]
   rw[e1,e2,e3,e4];omega
  .obtain⟨k',hk',h'⟩:=zFO (i+1) hz v hv;exact⟨k',by simp[hk'],h'⟩
theorem zMu{N:Nat}{k:Sz}{x:wI}(h:∀v∈x,(qU v:Int)<=k.b/\fJ v<=N)(h0:0<=k.b):∀j,BndB N (List.replicate j k) (List.replicate j x)/\zF9 (List.replicate j k)=j*k.b
 | 0=>⟨.nil,by simp[zF9]⟩
 |j+1=>by
  have:=zMu h h0 j;refine⟨.cons h h0 this.1,?_⟩;simp only[List.replicate_succ,zF9,this.2];have:((j+1:Nat):Int)*k.b=j*k.b+k.b:=by rw[jD8,Int.add_mul];simp
  omega
theorem zM9{k:Sz}(h:(fF k).e=0)(ha:(fF k).a≠0):(fF k).b=k.b:=by
 unfold fF at *
 split at h
 .rename_i h1;simp at h;exact(h1 h).elim
 .split at h
  .simp at h
  .rename_i h1 h2;rw[if_neg h1,if_neg h2]at ha ⊢;simp only at ha ⊢;rw[if_neg ha]
theorem zFI{p:Prg}{m:Int}{n:Nat}(hm:0<=m/\m<=64)(ih:∀t,(jT p m n t).e=0->∀v∈dD p m n t,(qU v:Int)<=(jT p m n t).b/\fJ v<=n):∀l:List Slt,(∀s∈l,(jT p m n s.typ).e=0) ->
 BndB n (l.map fun s=>jT p m n s.typ) (l.map fun s=>dD p m n s.typ)
 |[],_=>.nil
 |s::l,h=>.cons (ih _ (h s (by simp))) ((c9 p m hm n s.typ) (h s (by simp))).2.2.1 (zFI hm ih l fun x hx=>h x (by simp[hx]))
theorem zD2(p:Prg)(m:Int)(hm:0<=m/\m<=64):∀(n:Nat) (t:Typ),(jT p m n t).e=0->∀v∈dD p m n t,(qU v:Int)<=(jT p m n t).b/\fJ v<=n
 | 0,t,_,v,hv=>by simp[dD]at hv
 |n+1,t,h,v,hv=>by
  have ih:=zD2 p m hm n;have hlen:=nA p m hm.1 (n+1) t h;have hpos:0<(dD p m (n+1) t).length:=List.length_pos_of_mem hv;have ha:(jT p m (n+1) t).a≠0:=by omega
  clear hlen hpos;unfold jT at h ha ⊢;unfold dD at hv;by_cases hvt:validT p t=false
  .rw[if_pos hvt]at h;simp at h
  .rw[if_neg hvt]at h ha ⊢;by_cases h0:t.k=0
   .rw[if_pos h0]at hv ⊢;simp only[lT,jAf]at hv;obtain⟨i,_,rfl⟩:=hv;simp[lL,mK,Val.kids,jK,e8]
   .rw[if_neg h0]at h ha hv ⊢;by_cases h1:t.k=1
    .rw[if_pos h1]at hv ⊢;simp only[jA3,jAr,or_false]at hv;rcases hv with rfl|rfl<;>simp[lL,mK,Val.kids,jK,e8]
    .rw[if_neg h1]at h ha hv ⊢;by_cases h2:t.k=2
     .rw[if_pos h2]at h ha hv ⊢;rw[zM9 h ha];have hfe:=uU h;have ih2:=ih (t.kids.headD Typ.zero);have hok:=c9 p m hm n (t.kids.headD Typ.zero);generalize jT p m n (t.kids.headD Typ.zero)=kz at *
      generalize dD p m n (t.kids.headD Typ.zero)=X at *
      have hle:=hfe.1;have hke:kz.e=0:=by
       unfold dO at hle;split at hle
       .rename_i hh;simpa using hle
       .rename_i hh;simpa using hh
      obtain⟨_,_,b0,b1⟩:=hok hke;simp only[zHy,List.mem_flatMap,jAf,jC]at hv;obtain⟨j,hj,tt,htt,rfl⟩:=hv;have hr:=zMu (N:=n) (fun v hv=>ih2 hke v hv) b0 j;have ho:=zH8 hr.1 (zJE htt);rw[hr.2]at ho;have hj2:j=0\/(j=1/\1<=m)\/(j=2/\2<=m):=by split at hj<;>omega
      simp only[lL,mK,Val.kids];unfold dO;rw[if_neg (by simp[hke])];refine⟨?_,by omega⟩;rcases hj2 with rfl|⟨rfl,hj2⟩|⟨rfl,hj2⟩
      .split
       .simp only;omega
       .split<;>simp only<;>omega
      .rw[if_neg (by omega)];split<;>simp only<;>omega
      .rw[if_neg (by omega),if_neg (by omega)];simp only;omega
     .rw[if_neg h2]at h ha hv ⊢;rw[zM9 h ha];have e1:=(uU h).1;have e3:rB ((dfn p t.id).slots.map fun s=>jT p m n s.typ)=0:=by
       by_cases hz:rB ((dfn p t.id).slots.map fun s=>jT p m n s.typ)=0
       .exact hz
       .exact absurd e1 (by simp[aL,hz])
      have hb:=zFI hm ih (dfn p t.id).slots (fun s hs=>iL e3 _ (jAf.2 ⟨s,hs,rfl⟩));have hvt2:validT p t=true:=by simpa using hvt
      have e5:=zAr hvt2 h0 h1 h2;unfold rZ at hv;rcases e5 with e5|e5
      .rw[if_pos e5]at hv;have ee:aL (decide ((dfn p t.id).kind=0)) ((dfn p t.id).slots.map fun s=>jT p m n s.typ)=oM 1 1 ((dfn p t.id).slots.map fun s=>jT p m n s.typ):=by simp[aL,e3,e5]
       rw[ee]at e1 ⊢;rw[zRz _ _ _ e1];simp only[o9,jAf]at hv;obtain⟨tt,htt,rfl⟩:=hv;have ho:=zH8 hb (zJE htt);simp only[lL,mK,Val.kids];omega
      .rw[if_neg (by omega),if_pos e5]at hv;have ee:aL (decide ((dfn p t.id).kind=0)) ((dfn p t.id).slots.map fun s=>jT p m n s.typ)=iC 0 1 ((dfn p t.id).slots.map fun s=>jT p m n s.typ):=by simp[aL,e3,e5]
       rw[ee];obtain⟨k,hk,h3,h4⟩:=zFO 0 hb v hv;have:=(zM0 ((dfn p t.id).slots.map fun s=>jT p m n s.typ) 0 1).2 k hk;omega
theorem zEW{β:Type}(cf : β->β->Int)(l:List β):(bE cf l).Perm l:=List.mergeSort_perm _ _
def zTY:K:=G [kMi 2 0] (G [kMi 3 0] (Z (G [M 6 0,kN 7 6,kMi 8 0] (K.block 0 (K.loop (G [kB 9 8 7 .lss] (Z (Y 9 ks (K.exit 0)) (Z (K.block 1 (G [kX 10 6 8 3,J 11 10 3,kZ 5 [ki,ki,kl],S 5 11 3] (K.ops [M 12 3,J 13 5 3,kC 14 143 [(kt 13)],kB 15 12 14 .add,M 3 15]))) (K.ops [kBi 16 8 1 .add,M 8 16]))))))) (G [M 17 3,M 2 17] kr)))
theorem qBH:ky Tryz.f142 zTY:=m_ (by kernel_rfl)
def zTX:K:=G [kMi 4 0] (G [⟨none,.mov (some 5) (.func 142)⟩] (G [M 6 5,M 7 0,⟨none,.call (some 8) (kt 6) [(kt 7)]⟩,M 9 5,M 10 1,⟨none,.call (some 11) (kt 9) [(kt 10)]⟩,kC 12 100 [(kt 8),(kt 11)],M 13 0,M 14 1,kC 15 144 [(kt 13),(kt 14),(.func 145)],kd 16 3 1 2 [ki,ki] [(0,1,(kt 12)),(1,1,(kt 15))],kC 17 99 [(kt 16)],M 4 17] kr))
theorem qBG:ky Tryz.f76 zTX:=m_ (by kernel_rfl)
theorem zRH(l:wI):my 142 [.sl l.length (zT l)] [] (int (uD 0 l)) []:=by
 refine zG Tryz.func142 rfl qBH (rs:=[.slot 2]) (by kernel_rfl) ?_;unfold zTY;simp;intro hl;refine qH (S:=Nat) (fun i=>[(3,int (uD 0 (l.take i))),(6,.sl l.length (zT l)),(7,int l.length),(8,int i)]) (fun s=>[]) (fun i=>i<=l.length) (fun i=>l.length-i) 0 (by simp)
  (mw [] 0 (by rfl) (by simp[uD])) ?_
 intro i hi;simp;refine jY (fun h=>?_) (fun h=>?_)<;>simp at h
 .simp[h,j6 h];refine mu (zGO l[i]) (by simp[z7]) ?_;simp;refine zN (i+1) h (by omega) (mw [] 0 (by rfl) (by simp[zY h hl,zGG h]))
 .have:i=l.length:=by omega
  subst this;simp;exact zC 0 (by simp)
theorem zNN(a b:wI):my 76 [.sl a.length (zT a),.sl b.length (zT b)] [] (int (tW a b)) []:=by refine zG Tryz.func76 rfl qBG (rs:=[.slot 4]) (by kernel_rfl) ?_;unfold zTX;simp;refine mu (zRH a) (by simp) ?_;simp;refine mu (zRH b) (by simp) ?_;simp;refine mu (cM (uD 0 a) (uD 0 b)) (by simp) ?_;simp;refine mu (s7 a b fun x _ y _=>zHc x y) (by simp) ?_;simp;refine mu (zMW [bN (uD 0 a) (uD 0 b),aW a b]) (by simp) ?_;simp;exact zC 0 (by simp[tW])
def qEy:Go.Shelf.Ren:=⟨fun | 6=>75 | 15=>98 | 14=>141 | 28=>163 | 29=>164 | 20=>181 | 21=>182 | 22=>183 | 23=>184 | 24=>185 | 25=>186 | 26=>187 | 27=>188 | 46=>213 | 49=>214 | 50=>215 | 57=>230 | 47=>198 | 48=>199|n=>n,fun | 22=>79 | 24=>82 | 25=>146 | 3=>3 | 39=>166 | 0=>0 | 53=>225 | 55=>227 | 4=>4 | 46=>219 | 45=>218 | 50=>136 | 5=>5 | 9=>9 | 66=>260 | 70=>264 | 76=>282 | 77=>283|n=>n,fun n=>n⟩
theorem zUX:Go.Proofs.SlLaysF.n6 Tryz.prog qEy:={
 mixed:=by kernel_rfl,
 f6:=⟨Tryz.f75.name,by decide,Tryz.func75.trans (congrArg some (by kernel_rfl))⟩,
 f14:=⟨Tryz.f141.name,by decide,Tryz.func141.trans (congrArg some (by kernel_rfl))⟩,
 f15:=Tryz.func98.trans (congrArg some (by kernel_rfl)),
 f20:=⟨Tryz.f181.name,by decide,Tryz.func181.trans (congrArg some (by kernel_rfl))⟩,
 f21:=⟨Tryz.f182.name,by decide,Tryz.func182.trans (congrArg some (by kernel_rfl))⟩,
 f22:=⟨Tryz.f183.name,by decide,Tryz.func183.trans (congrArg some (by kernel_rfl))⟩,
 f23:=⟨Tryz.f184.name,by decide,Tryz.func184.trans (congrArg some (by kernel_rfl))⟩,
 f24:=⟨Tryz.f185.name,by decide,Tryz.func185.trans (congrArg some (by kernel_rfl))⟩,
 f25:=⟨Tryz.f186.name,by decide,Tryz.func186.trans (congrArg some (by kernel_rfl))⟩,
 f26:=⟨Tryz.f187.name,by decide,Tryz.func187.trans (congrArg some (by kernel_rfl))⟩,
 f27:=⟨Tryz.f188.name,by decide,Tryz.func188.trans (congrArg some (by kernel_rfl))⟩,
 f28:=Tryz.func163.trans (congrArg some (by kernel_rfl)),
 f29:=Tryz.func164.trans (congrArg some (by kernel_rfl)),
 f46:=⟨Tryz.f213.name,by decide,Tryz.func213.trans (congrArg some (by kernel_rfl))⟩,
 f47:=Tryz.func198.trans (congrArg some (by kernel_rfl)),
 f48:=Tryz.func199.trans (congrArg some (by kernel_rfl)),
 f49:=⟨Tryz.f214.name,by decide,Tryz.func214.trans (congrArg some (by kernel_rfl))⟩,
 f50:=⟨Tryz.f215.name,by decide,Tryz.func215.trans (congrArg some (by kernel_rfl))⟩,
 f57:=⟨Tryz.f230.name,by decide,Tryz.func230.trans (congrArg some (by kernel_rfl))⟩,
 t0:=Tryz.underlying0,
 a0:=Tryz.isAgg0,
 z0:=Tryz.sizeOf0,
 v0:=Tryz.zeroValue0,
 t3:=Tryz.underlying3,
 a3:=Tryz.isAgg3,
 z3:=Tryz.sizeOf3,
 v3:=Tryz.zeroValue3,
 t4:=Tryz.underlying4,
 a4:=Tryz.isAgg4,
 z4:=Tryz.sizeOf4,
 v4:=Tryz.zeroValue4,
 t5:=Tryz.underlying5,
 a5:=Tryz.isAgg5,
 z5:=Tryz.sizeOf5,
 v5:=Tryz.zeroValue5,
 t9:=Tryz.underlying9,
 a9:=Tryz.isAgg9,
 z9:=Tryz.sizeOf9,
 v9:=Tryz.zeroValue9,
 t22:=Tryz.underlying79,
 a22:=Tryz.isAgg79,
 z22:=Tryz.sizeOf79,
 v22:=Tryz.zeroValue79,
 a24:=Tryz.isAgg82,
 z24:=Tryz.sizeOf82,
 t25:=Tryz.underlying146,
 a25:=Tryz.isAgg146,
 z25:=Tryz.sizeOf146,
 v25:=Tryz.zeroValue146,
 t39:=Tryz.underlying166,
 a39:=Tryz.isAgg166,
 z39:=Tryz.sizeOf166,
 v39:=Tryz.zeroValue166,
 t45:=Tryz.underlying218,
 a45:=Tryz.isAgg218,
 z45:=Tryz.sizeOf218,
 v45:=Tryz.zeroValue218,
 t46:=Tryz.underlying219,
 a46:=Tryz.isAgg219,
 z46:=Tryz.sizeOf219,
 v46:=Tryz.zeroValue219,
 t50:=Tryz.underlying136,
 a50:=Tryz.isAgg136,
 z50:=Tryz.sizeOf136,
 v50:=Tryz.zeroValue136,
 t53:=Tryz.underlying225,
 a53:=Tryz.isAgg225,
 z53:=Tryz.sizeOf225,
 v53:=Tryz.zeroValue225,
 t55:=Tryz.underlying227,
 a55:=Tryz.isAgg227,
 z55:=Tryz.sizeOf227,
 v55:=Tryz.zeroValue227,
 t66:=Tryz.underlying260,
 a66:=Tryz.isAgg260,
 z66:=Tryz.sizeOf260,
 v66:=Tryz.zeroValue260,
 t70:=Tryz.underlying264,
 a70:=Tryz.isAgg264,
 z70:=Tryz.sizeOf264,
 v70:=Tryz.zeroValue264,
 t76:=Tryz.underlying282,
 a76:=Tryz.isAgg282,
 z76:=Tryz.sizeOf282,
 v76:=Tryz.zeroValue282,
 t77:=Tryz.underlying283,
 a77:=Tryz.isAgg283,
 z77:=Tryz.sizeOf283,
 v77:=Tryz.zeroValue283}
theorem zSA:∀args w,(callFunc 76 args).run Tryz.prog w=.ok (.enter 76 args) w:=enters_of Tryz.func76 (by kernel_rfl) rfl
theorem zXH:zB0 Tryz.prog 75 76 (fun l:wI=>[.sl l.length (zT l)]) tW :=
 zXG rJ.ord zNN fun α _ enc h1 cf hO blk off cap d w hcmp hH hblk hsz =>
  Go.Proofs.Any.slices_SortFunc zUX enc h1 cf hO 76 #[] blk off cap d w zSA hcmp hH hblk hsz
theorem qDN:∀(p:Option Addr) (cap:Nat) (fv:Value) (w:World),Calls Tryz.prog 75 #[.slice p 0 cap,fv] w fun e w'=>e=.returned (.tuple #[])/\w'=w :=
 fun p cap fv w=>Go.Proofs.AnyF.slices_SortFunc_none {zUX with} p cap fv w
theorem zI0(l:List wI):(l.flatMap fun l=>[A.sl l.length (zT l)])=qX l:=by
 induction l with
 |nil=>rfl
 |cons v l ih=>simp[ih]
theorem zHO(l:List wI)(hmx:l.length<4611686018427387904):my 75 [.row 0 l.length,.clo 76 [] []] [.row false 82 1 l.length (qX l)] (.tup []) [.row false 82 1 l.length (qX (bE tW l))]:=by
 have:=zEX (sz:=1) (by omega) (fun _=>rfl) (fun b=>by simp) rJ.ord 82 zXH qDN l hmx
 simpa only[zI0]using this
def zTV:K:=G [kO 2 0,kMi 4 0,kMi 5 0] (G [kMi 6 1] (Z (G [M 11 1,kN 12 11,kMi 13 0] (K.block 0 (K.loop (G [kB 14 13 12 .lss] (Z (Y 14 ks (K.exit 0)) (Z (K.block 1 (G [kX 15 11 13 11,J 16 15 11,kZ 8 kz5,S 8 16 11] (Z (G [D 17 8 9,L 18 17 1,kBi 19 18 0 .lss,M 20 19,T 20 false (D 21 8 9),T 20 false (L 22 21 1),T 20 false (kBi 23 22 64 .gtr),kPt 24 20 23] (Y 24 (G [kMi 4 0,kMi 5 1] kr) ks)) (G [J 26 2 2,D 27 8 4,J 28 27 5,D 29 8 9,L 30 29 1,kC 31 136 [(kt 26),(kt 28),(kt 30)],M 25 31,kE 32 25 0,kE 33 25 1,kZ 9 [ki,ki],S 9 32 2,M 10 33] (Z (G [M 34 10,kQi 35 34 0 true] (Y 35 (G [M 36 10,kMi 4 0,M 5 36] kr) ks)) (G [M 37 6,D 38 9 0,L 39 38 1,kB 40 37 39 .mul,M 6 40] (G [M 41 6,kBi 42 41 4096 .gtr] (Y 42 (G [kMi 4 0,kMi 5 4] kr) ks)))))))) (K.ops [kBi 43 13 1 .add,M 13 43]))))))) (G [M 44 6,M 4 44,kMi 5 0] kr)))
theorem qBE:ky Tryz.f71 zTV:=m_ (by kernel_rfl)
def zTW:K:=G [kO 2 0,kMn 4,kMi 5 0] (Z (G [J 13 2 2,M 14 1,kC 15 71 [(kt 13),(kt 14)],M 12 15,kE 16 12 0,kE 17 12 1,M 6 16,M 7 17] (G [M 18 7,kQi 19 18 0 true] (Y 19 (G [M 20 7,kMn 4,M 5 20] kr) ks))) (G [kMn 8] (Z (G [M 21 1,kN 22 21,kMi 23 0] (K.block 0 (K.loop (G [kB 24 23 22 .lss] (Z (Y 24 ks (K.exit 0)) (Z (K.block 1 (G [kX 25 21 23 11,J 26 25 11,kZ 10 kz5,S 10 26 11] (K.ops [M 27 8,J 28 2 2,D 29 10 4,J 30 29 5,D 31 10 9,L 32 31 1,kC 33 72 [(kt 28),(kt 30),(kt 32)],kd 34 82 1 1 [kl] [(0,1,(kt 33))],kP 35 82 1 24 27 34,M 8 35]))) (K.ops [kBi 36 23 1 .add,M 23 36]))))))) (Z (K.wk (K.ops [M 37 8,kC 38 74 [(kt 37)],kC 39 73 [(kt 38)],M 11 39])) (G [M 40 11,kC 41 75 [(kt 40),(.func 76)]] (G [M 42 11,M 4 42,kMi 5 0] kr))))))
theorem qBF:ky Tryz.f31 zTW:=m_ (by kernel_rfl)
def cX(p:Prg):Int->List Slt->Int×Int
 |n,[]=>(n,0)
 |n,s::l=>if s.most<0\/64<s.most then (0,1)else if (size p s.most s.typ).e≠0 then (0,(size p s.most s.typ).e)else if n*(size p s.most s.typ).a > 4096 then (0,4)else cX p (n*(size p s.most s.typ).a) l
def iO(p:Prg)(l:List Slt):List wI:=l.map fun s=>dD p s.most 24 s.typ
def aZ(p:Prg)(l:List Slt):List wI×Int:=if (cX p 1 l).2≠0 then ([],(cX p 1 l).2)else (bE tW (yB (iO p l)),0)
theorem zBE(p:Prg):∀(l:List Slt) (n:Int),0<=n->n<=4096->0<=(cX p n l).1/\(cX p n l).1<=4096
 |[],n,h0,h1=>⟨h0,h1⟩
 |s::l,n,h0,h1=>by
  unfold cX;split
  .simp
  split
  .simp
  split
  .simp
  .rename_i g1 g2 g3;have:=c9 p s.most (by omega) 24 s.typ (by simpa[size]using g2);exact zBE p l _ (Int.mul_nonneg h0 this.1) (by omega)
theorem pZ(p:Prg):∀(l:List Slt) (n:Int),(cX p n l).2=0->(cX p n l).1=n*(((iO p l).map List.length).foldl (· * ·) 1:Nat)/\∀s∈l,0<=s.most/\s.most<=64/\(size p s.most s.typ).e=0
 |[],n,h=>by simp[cX,iO]
 |s::l,n,h=>by
  unfold cX at h⊢;split at h
  .simp at h
  split at h
  .simp at h;contradiction
  split at h
  .simp at h
  .rename_i g1 g2 g3;rw[if_neg g1,if_neg g2,if_neg g3];have g2:(size p s.most s.typ).e=0:=by simpa using g2
   obtain⟨k1,k2⟩:=pZ p l _ h;have hl:=nA p s.most (by omega) 24 s.typ g2;have hh:∀(l:wA) (x y:Nat),l.foldl (· * ·) (x*y)=x*l.foldl (· * ·) y:=by
    intro l;induction l with
    |nil=>intro x y;rfl
    |cons a l ih=>intro x y;simp only[jAt,Nat.mul_assoc,ih]
   refine⟨?_,fun x hx=>?_⟩
   .rw[k1];simp only[iO,jAc,jAt,Nat.one_mul];have:=hh ((l.map fun s=>dD p s.most 24 s.typ).map List.length) (dD p s.most 24 s.typ).length 1;rw[Nat.mul_one]at this;rw[this,Int.natCast_mul,<-Int.mul_assoc];unfold size;rw[hl]
   .rcases jA3.1 hx with rfl|hx
    .exact⟨by omega,by omega,g2⟩
    .exact k2 x hx
theorem zQn(p:Prg)(hs:Sml p)(l:List Slt):my 71 [.agg (zI p),.sl l.length (qW l)] [] (.tup [int (cX p 1 l).1,int (cX p 1 l).2]) []:=by
 refine zG Tryz.func71 rfl qBE (rs:=[.slot 4,.slot 5]) (by kernel_rfl) ?_;unfold zTV;simp[zI];intro hl;refine qH (S:=Nat×Int) (fun s=>[(2,.ptr 0 0),(6,int s.2),(11,.sl l.length (qW l)),(12,int l.length),(13,int s.1)])
  (fun s=>[.box (zI p)]) (fun s=>s.1<=l.length/\0<=s.2/\s.2<=4096/\cX p 1 l=cX p s.2 (l.drop s.1)) (fun s=>l.length-s.1) (0,1) (by simp)
  (mw [0] 0 (by rfl) (by simp[zI])) ?_
 rintro⟨i,n⟩ ⟨hi,hn0,hn1,ho⟩;simp only at hi hn0 hn1 ho;by_cases h:i<l.length
 .have hd:l.drop i=l[i]::l.drop (i+1):=jBb h;rw[hd,cX]at ho;by_cases h1:l[i].most<0
  .simp[h,jN h,aD,h1];exact zC 0 (by simp[ho,h1])
  by_cases h2:64<l[i].most
  .simp[h,jN h,aD,h1,h2];exact zC 0 (by simp[ho,h2])
  rw[if_neg (by omega)]at ho;simp[h,jN h,aD,h1,h2,zI];refine mu (zL1 p hs l[i].most (by omega) l[i].typ) (by simp[zI,zB,qK,szR]) ?_;have hok:=c9 p l[i].most (by omega) 24 l[i].typ;by_cases h3:(size p l[i].most l[i].typ).e=0
  .rw[if_neg (by simp[h3])]at ho;have hok:=hok h3;change 0<=(size p l[i].most l[i].typ).a/\(size p l[i].most l[i].typ).a<=4096/\_ at hok;have hab0:0<=n*(size p l[i].most l[i].typ).a:=Int.mul_nonneg hn0 hok.1;have hab1:n*(size p l[i].most l[i].typ).a<=4096*4096:=Int.mul_le_mul hn1 hok.2.1 hok.1 (by decide);have hw:=z8 (n*(size p l[i].most l[i].typ).a) (by omega);by_cases h4:4096<n*(size p l[i].most l[i].typ).a
   .rw[if_pos h4]at ho;simp[szR,h3,hw,h4];exact zC 0 (by simp[ho])
   .rw[if_neg h4]at ho;simp[szR,h3,hw,h4];exact zN (i+1,n*(size p l[i].most l[i].typ).a) ⟨h,hab0,by simp only;omega,ho⟩ (by simp only;omega) (mw [0] 0 (by rfl) (by simp[zI,zY h hl]))
  .rw[if_pos h3]at ho;simp[szR,h3];exact zC 0 (by simp[ho])
 .have hi:i=l.length:=by omega
  subst hi;rw[List.drop_length,cX]at ho;simp;exact zC 0 (by simp[ho])
theorem zOt(p:Prg)(hs:Sml p)(l:List Slt)(hl6:l.length<=1000000):my 31 [.agg (zI p),.sl l.length (qW l)] [] (.tup [.sl (aZ p l).1.length (qX (aZ p l).1),int (aZ p l).2]) []:=by
 refine zG Tryz.func31 rfl qBF (rs:=[.slot 4,.slot 5]) (by kernel_rfl) ?_;unfold zTW;simp[zI];refine mu (zQn p hs l) (by simp[zI]) ?_;by_cases h:(cX p 1 l).2=0
 .have e:aZ p l=(bE tW (yB (iO p l)),0):=by simp[aZ,h]
  obtain⟨hk,hall⟩:=pZ p l 1 h;have hle:=zBE p l 1 (by decide) (by decide);have hPl:(yB (iO p l)).length<=4096:=by rw[yB,mF];simp only[jAb,jB4];omega
  have hpl:(iO p l).length=l.length:=by simp[iO]
  have hpg:∀i (h:i<l.length),(iO p l)[i]?=some (dD p l[i].most 24 l[i].typ):=fun i h=>by simp[iO,h]
  rw[e];generalize iO p l=L at hPl hpl hpg;simp[h];intro hl;refine qH (S:=Nat) (fun i=>[(2,.ptr 0 0),(8,.row 1 i),(21,.sl l.length (qW l)),(22,int l.length),(23,int i)])
   (fun i=>[.box (zI p),.row false 82 1 i (qX (L.take i))]) (fun i=>i<=l.length) (fun i=>l.length-i) 0 (by simp)
   ((jS (t:=8) (by simp) 82 1).trans (mw [0,1] 0 (by rfl) (by simp[zI]))) ?_
  intro i hi;by_cases hil:i<l.length
  .have hiL:i<L.length:=by omega
   obtain⟨q1,q2,q3⟩:=hall l[i] (jA0 hil);have hc:=zVL p hs l[i].most ⟨q1,q2⟩ 24 l[i].typ q3;have hLi:=hpg i hil;rw[jA2 hiL]at hLi;rw[<-jAw hLi]at hc;have htL:qX (L.take (i+1))=qX (L.take i)++[.sl L[i].length (zT L[i])]:=by rw[jA8 hiL,oG];rfl
   simp[hil,jN hil,aD,zI];refine mr hc [] (by simp[zI,zB]) ?_;simp[oY];refine⟨⟨by simp[maxLen];omega,by omega⟩,?_⟩;exact zN (i+1) hil (by omega) (mw [0,1] 1 (by rfl) (by simp[zI,htL,zY hil hl]))
  .have hi:i=l.length:=by omega
   subst hi;have htk:L.take l.length=L:=jAh (by omega);simp[htk];refine⟨jR [(8,.sl L.length (qX L))],[],mw [] 1 (by rfl) (by simp[hpl]),?_⟩;simp;refine mu (vF L) (by simp) ?_;simp;refine mr (zKP 139 [] [.rptr [.sl L.length (qX L)]] zGX (by simp) (by simp) (yB L) (zHw _ _ rfl (by omega)) (by simp[maxLen];omega) (by omega)) [] (by simp) ?_;simp;refine mr (zHO (yB L) (by omega)) [0] (by simp) ?_;simp;exact zC 1 (by simp[bE])
 .have e:aZ p l=([],(cX p 1 l).2):=by simp[aZ,h]
  simp[h,e];exact zC 1 (by simp)
section
variable{p:Prg}{d:Dfn}{id:Id}{vs:wI}
end
theorem tI:∀(L:List wI) (acc:List wI) (t:wI) (v:Val),t∈L.foldl dU acc->v∈t->(∃l∈L,v∈l)\/∃s∈acc,v∈s
 |[],acc,t,v,ht,hv=>.inr ⟨t,ht,hv⟩
 |a::L,acc,t,v,ht,hv=>by
  rcases tI L (dU acc a) t v ht hv with ⟨l,hl,h⟩|⟨s,hs,h⟩
  .exact .inl ⟨l,jAi _ hl,h⟩
  .simp only[dU,List.mem_flatMap,jAf]at hs;obtain⟨u,hu,x,hx,rfl⟩:=hs;rcases jA6.1 h with h|h
   .exact .inr ⟨u,hu,h⟩
   .simp at h;subst h;exact .inl ⟨a,jAp ..,hx⟩
theorem zLD{L:List wI}{t:wI}{v:Val}(ht:t∈yB L)(hv:v∈t):∃l∈L,v∈l:=by
 rcases tI L [[]] t v ht hv with h|⟨s,hs,h⟩
 .exact h
 .simp at hs;subst hs;simp at h
end Go.Proofs.YtolkhapmieigcaaGreatDoor
